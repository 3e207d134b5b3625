/- Texts of this session, made one by a program of this session (mergemods.py). -/
import Derived.Test.YtaeamdhkdiblmaaZDADmB
set_option linter.unusedSimpArgs false
set_option linter.unusedVariables false
namespace Go.Proofs.Ytaeamdhkdiblmaa.Dk
open Go.RowKit Go.Proofs.YtaeamdhkdiblmaaW.PrintWords Go.Proofs.YtaeamdhkdiblmaaW.PrintLast Go.Proofs.YtaeamdhkdiblmaaW.PrintMore
set_option maxHeartbeats 8000000
set_option maxRecDepth 100000
theorem Ch.grown {F : Nat → Prop} {W W1 : World} {row : Option Nat} (h : W.grownBy W1 row) (hF : ∀ k, row = some k → F k) : Ch F W W1 := ⟨h.os, h.tape, h.output, h.size, fun k hk hn => h.block k hk (fun e => hn (hF k e.symm))⟩
theorem IsDisk.pieceR {W : World} {F : Nat → Prop} {p m : Nat} {d : DS} {v : Value} {sz : Int} (h : IsDisk W F p d) (hh : Head W p v (.map (some m)) sz) (o : Obj) : PK.R 80 (W.alloc o) 0 (fun k => F k ∨ (W.alloc o).heap.size ≤ k) v d.pieces := by
  obtain ⟨v2, m2, hh2, _, _, hp⟩ := h.core
  obtain ⟨rfl, rfl, rfl⟩ := Head.map hh hh2
  exact Kd.R_mono (Kd.R_below hp.R (below_alloc (Below.refl _ _) o)) (fun k hk => .inl hk)
theorem onePiece {W : World} {g b : Nat} {m : Int} (h : W.heap[g]? = some (.cells #[ptr b, .int .i64 m] 80 (0, 0))) : PK.C W (some ⟨g, 0, none⟩) 1 [(b, m)] :=
  PRow.C (cap := 1) (l := [(b, m)]) ⟨_, h, rfl, Nat.le_refl _, fun j b' m' hj => by
    rcases j with _ | j
    · cases hj; exact ⟨rfl, rfl⟩
    · cases hj⟩ (by simp)
theorem IsDisk.addPiece {W W9 : World} {F : Nat → Prop} {p m : Nat} {d : DS} {v v9 : Value} {sz : Int} (h : IsDisk W F p d) (hh : Head W p v (.map (some m)) sz) {b : Nat} {n : Int}
    (hg : (W.alloc (.cells #[ptr b, .int .i64 n] 80)).grownBy W9 v.ownBlock) (hR : PK.R 80 W9 0 (fun k => F k ∨ (W.alloc (.cells #[ptr b, .int .i64 n] 80)).heap.size ≤ k) v9 (d.pieces ++ [(b, n)]))
    (hok : DS.Ok { d with pieces := d.pieces ++ [(b, n)] }) :
    IsDisk (W9.setCell ⟨p, 0, none⟩ v9) (Grown F W W9) p { d with pieces := d.pieces ++ [(b, n)] } ∧ Ch F W (W9.setCell ⟨p, 0, none⟩ v9) := by
  obtain ⟨v2, m2, hh2, _, _, hp⟩ := h.core
  obtain ⟨rfl, rfl, rfl⟩ := Head.map hh hh2
  have hvt : ∀ k, v.ownBlock = some k → F k ∧ T80 W k := fun k hk => pcs_type hp hk
  have hpv : some p ≠ v.ownBlock := fun e => T80.not hh (by decide) (hvt p e.symm).2
  have hh9 := blk_grown (blk_alloc hh (.cells #[ptr b, .int .i64 n] 80)) hg hpv
  have hsz : W.heap.size + 1 ≤ W9.heap.size := by have := hg.size; rw [World.size_alloc] at this; exact this
  have hsz2 : (W9.setCell ⟨p, 0, none⟩ v9).heap.size = W9.heap.size := by simp [World.setCell]
  have hc : Ch (fun k => F k ∧ (k = p ∨ T80 W k)) W (W9.setCell ⟨p, 0, none⟩ v9) :=
    (((Ch.refl (fun k => F k ∧ (k = p ∨ T80 W k)) W).alloc (.cells #[ptr b, .int .i64 n] 80)).trans (Ch.grown (F := fun k => F k ∧ (k = p ∨ T80 W k)) hg (fun k hk => ⟨(hvt k hk).1, .inr (hvt k hk).2⟩)) (fun k hk => .inl hk)).trans (Ch.set (F := fun k => F k ∧ (k = p ∨ T80 W k)) W9 p 0 v9 ⟨h.hp, .inl rfl⟩) (fun k hk => .inl hk)
  refine ⟨h.putPieces (F' := Grown F W W9) (d.pieces ++ [(b, n)]) hc hh (blk_put hh9 0 v9 rfl) ?_ (fun k hk => .inl hk) (fun k hk => ?_) hok, hc.mono (fun k hk => hk.1)⟩
  · have hp9 := Pcs.of (Kd.R_mono (Kd.R_bound hR) (fun k hk => show Grown F W W9 k from hk.1.elim .inl (fun e => .inr ⟨by rw [World.size_alloc] at e; omega, hk.2.2.1⟩)))
    refine hp9.keep (fun k hk => Below.heap_setCell W9 ⟨p, 0, none⟩ v9 k (fun e => ?_))
    obtain ⟨_, hc9⟩ := pcs_type hp9 hk
    subst e
    obtain ⟨cs, hc9⟩ := hc9
    exact blk_ne hh9 hc9 (by decide) rfl
  · rw [hsz2]
    rcases hk with hk | hk
    · have := h.low k hk; omega
    · exact hk.2
theorem IsDisk.head_ne {W : World} {F : Nat → Prop} {p m : Nat} {d : DS} {v : Value} {sz : Int} (h : IsDisk W F p d) (hh : Head W p v (.map (some m)) sz) : some p ≠ v.ownBlock := by
  obtain ⟨v2, m2, hh2, _, _, hp⟩ := h.core
  obtain ⟨rfl, rfl, rfl⟩ := Head.map hh hh2
  exact fun e => T80.not hh (by decide) (pcs_type hp e.symm).2
theorem sumOf_cons (g f : Nat) (m : Int) (r : List (Nat × Int)) : sumOf g ((f, m) :: r) = (if f = g then m else 0) + sumOf g r := by
  unfold sumOf sumP
  by_cases e : f = g
  · rw [if_pos e, List.filter_cons_of_pos (by simp [e])]; simp
  · rw [if_neg e, List.filter_cons_of_neg (by simp [e])]; simp
theorem sum_pick {f : Nat} {m : Int} {h : Nat → Int} : ∀ {ids : List Nat}, ids.Nodup → f ∈ ids → (ids.map fun g => (if f = g then m else 0) + h g).sum = m + (ids.map h).sum
  | g :: r, hn, hf => by
    obtain ⟨h1, h2⟩ := List.nodup_cons.1 hn
    simp only [List.map_cons, List.sum_cons]
    by_cases e : f = g
    · subst e
      have hz : (r.map fun g => (if f = g then m else 0) + h g) = r.map h := List.map_congr_left (fun k hk => by
        have hne : f ≠ k := fun e => h1 (e ▸ hk)
        rw [if_neg hne]; omega)
      rw [hz, if_pos rfl]; omega
    · rw [sum_pick h2 ((List.mem_cons.1 hf).resolve_left e), if_neg e]; omega
theorem sum_ofs {ids : List Nat} (hn : ids.Nodup) : ∀ {l : List (Nat × Int)}, (∀ x ∈ l, x.1 ∈ ids) → (ids.map fun g => sumOf g l).sum = sumP l
  | [], _ => by
    have : (ids.map fun g => sumOf g []) = ids.map fun _ => (0 : Int) := List.map_congr_left (fun _ _ => rfl)
    rw [this]
    show _ = (0 : Int)
    clear this hn
    induction ids with
    | nil => rfl
    | cons a r ih => simpa using ih
  | (f, m) :: r, h => by
    have h1 : (ids.map fun g => sumOf g ((f, m) :: r)) = ids.map fun g => (if f = g then m else 0) + sumOf g r := List.map_congr_left (fun g _ => sumOf_cons g f m r)
    rw [h1, sum_pick hn (h _ List.mem_cons_self), sum_ofs hn (fun x hx => h x (List.mem_cons_of_mem _ hx))]
    simp [sumP]
theorem sum_le {ids : List Nat} {a : Nat → Int} {b : Nat → Nat} (h : ∀ g ∈ ids, a g ≤ b g) : (ids.map a).sum ≤ (((ids.map b).sum : Nat) : Int) := by
  induction ids with
  | nil => simp
  | cons g r ih =>
    have h1 := h g List.mem_cons_self
    have h2 := ih (fun k hk => h k (List.mem_cons_of_mem _ hk))
    simp only [List.map_cons, List.sum_cons]
    omega
theorem DS.Ok.sum {d : DS} (h : d.Ok) : sumP d.pieces ≤ d.total := by
  rw [← sum_ofs h.nodup h.old]
  exact sum_le (fun g hg => h.wait g hg)
theorem len_sumP : ∀ {l : List (Nat × Int)}, (∀ x ∈ l, 0 < x.2) → (l.length : Int) ≤ sumP l
  | [], _ => by simp [sumP]
  | x :: r, h => by
    have h1 := h x List.mem_cons_self
    have h2 := len_sumP (fun y hy => h y (List.mem_cons_of_mem _ hy))
    simp only [sumP, List.map_cons, List.sum_cons, List.length_cons] at h2 ⊢
    omega
theorem DS.Ok.short {d : DS} (h : d.Ok) : d.pieces.length ≤ d.total := by
  have h1 := h.sum
  have h2 := len_sumP h.pos
  omega
abbrev RowsK : Kd (List Int) := Kd.slice 5 (Kd.int .u8)
theorem append_old (F : Nat → Prop) (p : Nat) (d : DS) (x : ByteArray) (hx : x.size ≤ 9223372036854775807) (A0 : Option Addr) (c0 : Nat) (ls : List (List Int)) (w : World) (h : IsDisk w F p d) (hsz : d.size ≤ 9223372036854775807)
    (hls : RowsK.C w A0 ls.length ls) (hroom : d.total + ls.flatten.length + d.files.length + 1 ≤ room) (hr : rightN x.data.toList = true) (hfit : (decide (d.size < 1) || decide (((ls.flatten.length + d.total : Nat) : Int) ≤ d.size)) = true) {f : Nat} (hf : findF d.files x.data.toList = some f) :
    Calls Try.prog 10 #[ptr p, .string x, .slice A0 ls.length c0] w fun e w' => e = .returned (.int .i64 0) ∧ IsDisk w' (Grown F w w') p (d.more f ls.flatten) ∧ Ch F w w' := by
  have hid := findF_id hf
  obtain ⟨v, m, hh, hfs, hm, hp⟩ := h.core
  have hu65 := Try.underlying65
  have hu62 := Try.underlying62
  have hu78 := Try.underlying78
  have hu63 := Try.underlying63
  have hu80 := Try.underlying80
  obtain ⟨bs, hbs⟩ : ∃ bs, bs = ls.flatten := ⟨_, rfl⟩
  rw [← hbs] at hroom hfit ⊢
  obtain ⟨u, hu, hR⟩ := (h.file f hid).2
  obtain ⟨A, c, rfl⟩ := Kd.R_slice hR
  obtain ⟨Av, cv, rfl, _, _⟩ := hp.form
  have hlen := h.len hid
  have HLP := Aside0.mk (show (d.pieces.length + 1) * 16 ≤ 140737488355328 by have h1 := h.ok.short; have h2 := h.ok.few; simp only [room] at h2; omega)
  simp only [room] at hroom hlen
  have HD := Aside0.mk h
  have HH := Aside0.mk hh
  have HFS := Aside0.mk hfs
  have HP := Aside0.mk hp
  have HM := Aside0.mk hm
  have HR := Aside0.mk hR
  have HU := Aside0.mk hu
  have HLS := Aside0.mk hls
  have HK := Aside0.mk (key9 x hx)
  have HBS := Aside0.mk hbs
  have HID := Aside0.mk hid
  have HFIT := Aside0.mk hfit
  clear h hh hfs hp hm hR hu hls hbs hid hfit
  go_enter Try.func10, Try.ntmps10
  go_wp2_with (first
    | (go_at_call 34; (with_reducible refine (known p m _ d.size w HH.out).mono ?_); rintro e w1 ⟨rfl, hb⟩; have HB := Aside0.mk hb; clear hb)
    | (go_at_call 35; (with_reducible refine (right x w1 hx).mono ?_); rintro e w2 ⟨rfl, hb⟩; rw [hr]; have HB2 := Aside0.mk (below_tr HB.out hb); clear hb)
    | (go_at_call 36; (with_reducible refine (concat A0 c0 ls w2 (Kd.C_below HLS.out HB2.out) (by rw [← HBS.out]; omega)).mono ?_); rintro e w3 ⟨v3, rfl, hr3, hb⟩; rw [← HBS.out] at hr3; obtain ⟨A3, c3, rfl⟩ := Kd.R_slice hr3; have HR3 := Aside0.mk hr3; have HB3 := Aside0.mk (below_tr HB2.out hb); clear hr3 hb)
    | (go_at_call 37; (with_reducible refine (fits F p d bs.length (by simp only [room]; omega) w3 (HD.out.below HB3.out) hsz).mono ?_); rintro e w4 ⟨rfl, hb⟩; rw [HFIT.out]; have HB4 := Aside0.mk (below_tr HB3.out hb); have HR4 := Aside0.mk (Kd.R_below HR3.out hb); have HD4 := Aside0.mk (HD.out.below HB4.out); have hlk := lookup_some (HFS.out.below HB4.out) x HK.out hf; have c1 : w4.cell? ⟨p, 1, none⟩ = some (.map (some m)) := (blk_cell (blk_below HH.out HB4.out) 1).trans rfl; have c2 : w4.cell? ⟨f, 0, none⟩ = some (.slice A (d.bytes f).length c) := (blk_cell (blk_below HU.out HB4.out) 0).trans rfl; clear hb)
    | (at_builtin; refine Kd.R_append_rows BK (w0 := w4) (Rr := fun x cs => BK.K w4 x cs) 0 rfl (.tmp 44) (.tmp 45) 32 5 (.int .u8 0) 1 rfl Try.underlying32 infoG rfl (by decide) (by omega) _ (d.bytes f) bs A3 bs.length c3 (fun k => F k ∨ w4.heap.size ≤ k) (fun _ => False) rfl rfl (Kd.R_mono (Kd.R_below HR.out HB4.out) (fun k hk => .inl hk)) (Kd.R_reads' HR4.out).2.2 (fun _ _ h => h) (fun _ h => h.elim) (fun _ hk => .inr hk) (Below.refl 0 w4) (Nat.zero_le _) (by omega) ?_; intro v7 w7 ho7 _ hg7 hat7; obtain ⟨A7, c7, e7⟩ := Kd.R_slice ho7; generalize hn7 : (d.bytes f ++ bs).length = n7 at e7; subst e7; have hu4 := blk_below HU.out HB4.out; have hh4 := blk_below HH.out HB4.out; have hp4 := HP.out.below HB4.out; have hR4 := Kd.R_below HR.out HB4.out; have ht4 : ∀ k, (Value.slice A (d.bytes f).length c).ownBlock = some k → ∃ cs, w4.heap[k]? = some (.cells cs 5 (0, 0)) := (fun k hk => own_type hR4 hk); have hfu : some f ≠ (Value.slice A (d.bytes f).length c).ownBlock := (fun e => by (obtain ⟨cs, hc⟩ := ht4 f e.symm; exact blk_ne hu4 hc (by decide) rfl)); have hpu : some p ≠ (Value.slice A (d.bytes f).length c).ownBlock := (fun e => by (obtain ⟨cs, hc⟩ := ht4 p e.symm; exact blk_ne hh4 hc (by decide) rfl)); have hu7 := blk_grown hu4 hg7 hfu; have hh7 := blk_grown hh4 hg7 hpu; have hpf : p ≠ f := blk_ne hh4 hu4 (by decide); have c5 : w7.cell? ⟨f, 0, none⟩ = some (.slice A (d.bytes f).length c) := (blk_cell hu7 0).trans rfl; have fz5 := blk_frozen hu7; have HD7 := Aside0.mk (HD4.out.putBytes HID.out hu4 ho7 hg7 hat7 (DS.bytes_ok HD4.out.ok HID.out bs (by simp only [room]; omega))); have HH7 := Aside0.mk (blk_far hh7 (p := ⟨f, 0, none⟩) hpf (.slice A7 n7 c7)); have c6 : (w7.setCell ⟨f, 0, none⟩ (.slice A7 n7 c7)).cell? ⟨p, 0, none⟩ = some (.slice Av d.pieces.length cv) := (blk_cell HH7.out 0).trans rfl; have fz6 := blk_frozen HH7.out; have HC7 := Aside0.mk (show Ch F w (w7.setCell ⟨f, 0, none⟩ (.slice A7 n7 c7)) from (((Ch.of (F := F) HB4.out).trans (Ch.grown (F := F) hg7 (fun k hk => HR.out.1 k hk)) (fun k hk => .inl hk)).trans (Ch.set (F := F) w7 f 0 (.slice A7 n7 c7) (HD.out.file f HID.out).1) (fun k hk => .inl hk))); have HN7 := Aside0.mk (show ((w7.setCell ⟨f, 0, none⟩ (.slice A7 n7 c7)).alloc (.cells #[ptr f, .int .i64 bs.length] 80)).heap[w7.heap.size]? = some (.cells #[ptr f, .int .i64 bs.length] 80 (0, 0)) from (by have := blk_new (w7.setCell ⟨f, 0, none⟩ (.slice A7 n7 c7)) (.cells #[ptr f, .int .i64 bs.length] 80); simpa [World.setCell] using this)); have HS7 := Aside0.mk (And.intro HB4.out.size hg7.size); clear ho7 hg7 hat7 hu4 hh4 hp4 hR4 ht4 hfu hpu hu7 hh7 hpf)
    | (at_builtin; refine Kd.R_append_rows PK (w0 := ((w7.setCell ⟨f, 0, none⟩ (.slice A7 n7 c7)).alloc (.cells #[ptr f, .int .i64 bs.length] 80))) (Rr := fun x cs => PK.K ((w7.setCell ⟨f, 0, none⟩ (.slice A7 n7 c7)).alloc (.cells #[ptr f, .int .i64 bs.length] 80)) x cs) 0 rfl (.tmp 57) (.tmp 62) 60 80 (.agg #[.pointer none, .int .i64 0]) 16 rfl Try.underlying60 infoP rfl (by decide) (by omega) _ d.pieces [(f, (bs.length : Int))] (some ⟨w7.heap.size, 0, none⟩) 1 1 (fun k => (F k ∨ (w4.heap.size ≤ k ∧ k < w7.heap.size)) ∨ ((w7.setCell ⟨f, 0, none⟩ (.slice A7 n7 c7)).alloc (.cells #[ptr f, .int .i64 bs.length] 80)).heap.size ≤ k) (fun _ => False) rfl rfl (HD7.out.pieceR HH7.out _) (onePiece HN7.out) (fun _ _ h => h) (fun _ h => h.elim) (fun _ hk => .inr hk) (Below.refl 0 _) (Nat.zero_le _) HLP.out ?_; intro v9 w9 ho9 _ hg9 _; have hbne : bs ≠ [] := (by intro e; simp_all); obtain ⟨A9, c9, e9⟩ := Kd.R_slice ho9; generalize hn9 : (d.pieces ++ [(f, (bs.length : Int))]).length = n9 at e9; subst e9; have hh9 := blk_grown (blk_alloc HH7.out (.cells #[ptr f, .int .i64 bs.length] 80)) hg9 (HD7.out.head_ne HH7.out); have hc9 : w9.cell? ⟨p, 0, none⟩ = some (.slice Av d.pieces.length cv) := (blk_cell hh9 0).trans rfl; have fz9 := blk_frozen hh9; have HF9 := Aside0.mk (HD7.out.addPiece HH7.out hg9 ho9 (by have := DS.more_ok HD4.out.ok HID.out bs (by simp only [room]; omega); unfold DS.more at this; rw [if_neg hbne] at this; exact this)); have HBN := Aside0.mk hbne; clear ho9 hg9 hh9 hbne))
  · go_ret
    have hS := HS7.out
    have hS9 := HF9.out.2.size
    have e1 : ∀ (W : World) (q i : Nat) (v : Value), (W.setCell ⟨q, i, none⟩ v).heap.size = W.heap.size := fun W q i v => by simp [World.setCell]
    rw [e1, e1] at hS9
    refine ⟨rfl, ?_, HC7.out.trans HF9.out.2 (fun k hk => hk.elim .inl (fun e => .inr (by omega)))⟩
    have hd : d.more f bs = { d with bytes := upd d.bytes f (d.bytes f ++ bs), pieces := d.pieces ++ [(f, (bs.length : Int))] } := by unfold DS.more; rw [if_neg HBN.out]
    rw [hd]
    refine HF9.out.1.mono (fun k hk => ?_) (fun k hk => ?_)
    · unfold Grown at hk ⊢
      rw [e1] at hk ⊢
      rcases hk with (hk | hk) | hk
      · exact .inl hk
      · exact .inr (by omega)
      · exact .inr (by omega)
    · unfold Grown at hk
      rw [e1] at hk ⊢
      rcases hk with hk | hk
      · have := HD.out.low k hk; omega
      · omega
  · go_ret
    have hS := HS7.out
    have e1 : ∀ (W : World) (q i : Nat) (v : Value), (W.setCell ⟨q, i, none⟩ v).heap.size = W.heap.size := fun W q i v => by simp [World.setCell]
    have hbe : bs = [] := by cases bs with | nil => rfl | cons a r => simp_all
    have hd : d.more f bs = { d with bytes := upd d.bytes f (d.bytes f ++ bs) } := by unfold DS.more; rw [if_pos hbe]
    refine ⟨rfl, ?_, HC7.out⟩
    rw [hd]
    refine HD7.out.mono (fun k hk => ?_) (fun k hk => ?_)
    · unfold Grown
      rw [e1]
      rcases hk with hk | hk
      · exact .inl hk
      · exact .inr (by omega)
    · unfold Grown at hk
      rw [e1] at hk ⊢
      rcases hk with hk | hk
      · have := HD.out.low k hk; omega
      · omega
end Go.Proofs.Ytaeamdhkdiblmaa.Dk
set_option linter.unusedSimpArgs false
set_option linter.unusedVariables false
namespace Go.Proofs.Ytaeamdhkdiblmaa.Dk
open Go.RowKit Go.Proofs.YtaeamdhkdiblmaaW.PrintWords Go.Proofs.YtaeamdhkdiblmaaW.PrintLast Go.Proofs.YtaeamdhkdiblmaaW.PrintMore
set_option maxHeartbeats 8000000
set_option maxRecDepth 100000
theorem Ch.less {F G : Nat → Prop} {w w' : World} (h : Ch F w w') (hF : ∀ k, F k → k < w.heap.size → G k) : Ch G w w' := ⟨h.os, h.tape, h.output, h.size, fun k hk hn => h.block k hk (fun e => hn (hF k e hk))⟩
theorem DS.add_bytes_ok {d : DS} (h : d.Ok) (n : List UInt8) {f : Nat} (hf : f ∉ d.ids) (bs : List Int) (hr : d.total + bs.length + d.files.length + 1 ≤ room) : DS.Ok { d.add n f with bytes := upd (d.add n f).bytes f bs } := by
  have h1 := DS.add_ok h n f hf (by omega)
  have h2 := DS.bytes_ok h1 (f := f) (by rw [(DS.add_ids d n f).mem_iff]; exact List.mem_cons_self) bs (by
    rw [DS.add_total d n f hf]
    have : (d.add n f).files.length = d.files.length + 1 := (insF_perm (n, f) d.files).length_eq
    omega)
  rw [show (d.add n f).bytes f = [] from upd_self _ _ _, List.nil_append] at h2
  exact h2
theorem DS.add_more_ok {d : DS} (h : d.Ok) (n : List UInt8) {f : Nat} (hf : f ∉ d.ids) (bs : List Int) (hb : bs ≠ []) (hr : d.total + bs.length + d.files.length + 1 ≤ room) : DS.Ok { d.add n f with bytes := upd (d.add n f).bytes f bs, pieces := d.pieces ++ [(f, (bs.length : Int))] } := by
  have h1 := DS.add_ok h n f hf (by omega)
  have h2 := DS.more_ok h1 (f := f) (by rw [(DS.add_ids d n f).mem_iff]; exact List.mem_cons_self) bs (by
    rw [DS.add_total d n f hf]
    have : (d.add n f).files.length = d.files.length + 1 := (insF_perm (n, f) d.files).length_eq
    omega)
  unfold DS.more at h2
  rw [if_neg hb, show (d.add n f).bytes f = [] from upd_self _ _ _, List.nil_append] at h2
  exact h2
theorem append_new (F : Nat → Prop) (p : Nat) (d : DS) (x : ByteArray) (hx : x.size ≤ 9223372036854775807) (A0 : Option Addr) (c0 : Nat) (ls : List (List Int)) (w : World) (h : IsDisk w F p d) (hsz : d.size ≤ 9223372036854775807)
    (hls : RowsK.C w A0 ls.length ls) (hroom : d.total + ls.flatten.length + d.files.length + 1 ≤ room) (hr : rightN x.data.toList = true) (hfit : (decide (d.size < 1) || decide (((ls.flatten.length + d.total : Nat) : Int) ≤ d.size)) = true) (hf : findF d.files x.data.toList = none) :
    Calls Try.prog 10 #[ptr p, .string x, .slice A0 ls.length c0] w fun e w' => e = .returned (.int .i64 0) ∧ ∃ f, w.heap.size ≤ f ∧ IsDisk w' (Grown F w w') p ((d.add x.data.toList f).more f ls.flatten) ∧ Ch F w w' := by
  obtain ⟨v, m, hh, hfs, hm, hp⟩ := h.core
  have hu65 := Try.underlying65
  have hu62 := Try.underlying62
  have hu78 := Try.underlying78
  have hu63 := Try.underlying63
  have hu80 := Try.underlying80
  obtain ⟨bs, hbs⟩ : ∃ bs, bs = ls.flatten := ⟨_, rfl⟩
  rw [← hbs] at hroom hfit ⊢
  obtain ⟨Av, cv, rfl, _, _⟩ := hp.form
  have HLP := Aside0.mk (show (d.pieces.length + 1) * 16 ≤ 140737488355328 by have h1 := h.ok.short; have h2 := h.ok.few; simp only [room] at h2; omega)
  simp only [room] at hroom
  have hokb : ∀ f, f ∉ d.ids → DS.Ok { d.add x.data.toList f with bytes := upd (d.add x.data.toList f).bytes f bs } := fun f hf => DS.add_bytes_ok h.ok _ hf bs (by omega)
  have hokm : ∀ f, f ∉ d.ids → bs ≠ [] → DS.Ok { d.add x.data.toList f with bytes := upd (d.add x.data.toList f).bytes f bs, pieces := d.pieces ++ [(f, (bs.length : Int))] } := fun f hf hb => DS.add_more_ok h.ok _ hf bs hb (by omega)
  have OKB := Aside0.mk hokb
  have OKM := Aside0.mk hokm
  have HD := Aside0.mk h
  have HH := Aside0.mk hh
  have HFS := Aside0.mk hfs
  have HP := Aside0.mk hp
  have HM := Aside0.mk hm
  have HLS := Aside0.mk hls
  have HK := Aside0.mk (key9 x hx)
  have HBS := Aside0.mk hbs
  have HFIT := Aside0.mk hfit
  clear hokb hokm h hh hfs hp hm hls hbs hfit
  go_enter Try.func10, Try.ntmps10
  go_wp2_with (first
    | (go_at_call 34; (with_reducible refine (known p m _ d.size w HH.out).mono ?_); rintro e w1 ⟨rfl, hb⟩; have HB := Aside0.mk hb; clear hb)
    | (go_at_call 35; (with_reducible refine (right x w1 hx).mono ?_); rintro e w2 ⟨rfl, hb⟩; rw [hr]; have HB2 := Aside0.mk (below_tr HB.out hb); clear hb)
    | (go_at_call 36; (with_reducible refine (concat A0 c0 ls w2 (Kd.C_below HLS.out HB2.out) (by rw [← HBS.out]; omega)).mono ?_); rintro e w3 ⟨v3, rfl, hr3, hb⟩; rw [← HBS.out] at hr3; obtain ⟨A3, c3, rfl⟩ := Kd.R_slice hr3; have HR3 := Aside0.mk hr3; have HB3 := Aside0.mk (below_tr HB2.out hb); clear hr3 hb)
    | (go_at_call 37; (with_reducible refine (fits F p d bs.length (by simp only [room]; omega) w3 (HD.out.below HB3.out) hsz).mono ?_); rintro e w4 ⟨rfl, hb⟩; rw [HFIT.out]; have HB4 := Aside0.mk (below_tr HB3.out hb); have HR4 := Aside0.mk (Kd.R_below HR3.out hb); have HD4 := Aside0.mk (HD.out.below HB4.out); have hlk := lookup_none (HFS.out.below HB4.out) x HK.out hf; have c1 : w4.cell? ⟨p, 1, none⟩ = some (.map (some m)) := (blk_cell (blk_below HH.out HB4.out) 1).trans rfl; have c1a : ∀ o, (w4.alloc o).cell? ⟨p, 1, none⟩ = some (.map (some m)) := (fun o => (blk_cell (blk_alloc (blk_below HH.out HB4.out) o) 1).trans rfl); clear hb)
    | (at_mapUpdate; refine wpList_mapUpdate_own _ rfl _ _ _ 63 rfl 9 76 keyed9 Try.underlying63 ptrElem m d.files.length (datF d.files) rfl (World.ownsMap.alloc (show World.ownsMap w4 Try.prog 9 ptrElem m d.files.length (datF d.files) from HFS.out.below HB4.out) _) (by simp only [maxLen]; omega) (.string x) (ptr w4.heap.size) (.string x.data.toList) rfl rfl HK.out _ [] (ptrElem_ptr _) ?_; intro w5 hown5 hg5; have hml : m < w4.heap.size := HD4.out.low m HM.out; have hne : ∀ k, k < w4.heap.size → m ≠ k → w5.heap[k]? = w4.heap[k]? := (fun k hk hn => (hg5.block k (by rw [World.size_alloc]; omega) (fun e => hn (by injection e with e; exact e.symm))).trans (Below.heap_alloc w4 _ k hk)); have HD5 := Aside0.mk (HD4.out.addFile (blk_below HH.out HB4.out) x.data.toList hf (by simp only [room]; omega) hown5 hg5); have HU5 : Aside0 (w5.heap[w4.heap.size]? = some (.cells #[.slice none 0 0] 78 (0, 0))) := ⟨(hg5.block _ (by rw [World.size_alloc]; omega) (fun e => by injection e with e; omega)).trans (blk_new w4 _)⟩; have HH5 := Aside0.mk ((hne p (blk_lt (blk_below HH.out HB4.out)) ((HFS.out.below HB4.out).ne (blk_below HH.out HB4.out))).trans (blk_below HH.out HB4.out)); have HR5 := Aside0.mk (Kd.R_move (BK_own HR4.out) (fun k hk => (by obtain ⟨cs, hc⟩ := own_type HR4.out hk.1; exact hne k (blk_lt hc) ((HFS.out.below HB4.out).ne hc)))); have hsz5 : w4.heap.size + 1 ≤ w5.heap.size := (by have := hg5.size; rw [World.size_alloc] at this; exact this); have HC5 : Aside0 (Ch (fun k => F k ∨ k = w4.heap.size) w w5) := ⟨((Ch.of (F := fun k => F k ∨ k = w4.heap.size) HB4.out).alloc _).trans (Ch.grown (F := fun k => F k ∨ k = w4.heap.size) hg5 (fun k hk => by injection hk with hk; exact .inl (hk ▸ HM.out))) (fun k hk => .inl hk)⟩; have c2 : w5.cell? ⟨w4.heap.size, 0, none⟩ = some (.slice none 0 0) := (blk_cell HU5.out 0).trans rfl; have HSZ5 := Aside0.mk hsz5; clear hown5 hg5 hml hne hsz5)
    | (at_builtin; (refine Kd.R_append_rows BK (w0 := w5) (Rr := fun x cs => BK.K w5 x cs) 0 rfl (.tmp 44) (.tmp 45) 32 5 (.int .u8 0) 1 rfl Try.underlying32 infoG rfl (by decide) (by omega) _ [] bs A3 bs.length c3 (fun k => (F k ∨ k = w4.heap.size) ∨ w5.heap.size ≤ k) (fun _ => False) rfl rfl (Kd.R_nil _ _ _ _ _) (Kd.R_reads' HR5.out).2.2 (fun _ _ h => h) (fun _ h => h.elim) (fun _ hk => .inr hk) (Below.refl 0 w5) (Nat.zero_le _) (by simp only [List.length_nil]; omega) ?_; intro v7 w7 ho7 _ hg7 hat7; obtain ⟨A7, c7, e7⟩ := Kd.R_slice ho7; rw [List.nil_append] at ho7; generalize hn7 : ([] ++ bs).length = n7 at e7; subst e7; have hu4 := HU5.out; have hh4 := HH5.out; have hfu : some w4.heap.size ≠ (Value.slice none 0 0).ownBlock := (fun e => by cases e); have hpu : some p ≠ (Value.slice none 0 0).ownBlock := (fun e => by cases e); have hu7 := blk_grown hu4 hg7 hfu; have hh7 := blk_grown hh4 hg7 hpu; have hpf : p ≠ w4.heap.size := blk_ne hh4 hu4 (by decide); have c5 : w7.cell? ⟨w4.heap.size, 0, none⟩ = some (.slice none 0 0) := (blk_cell hu7 0).trans rfl; have fz5 := blk_frozen hu7; have HD7 := Aside0.mk (HD5.out.putBytes (f := w4.heap.size) (by rw [(DS.add_ids d x.data.toList w4.heap.size).mem_iff]; exact List.mem_cons_self) hu4 ho7 hg7 hat7 (OKB.out w4.heap.size (fun hi => by have := HD4.out.low _ (HD4.out.file _ hi).1; omega))); have HH7 := Aside0.mk (blk_far hh7 (p := ⟨w4.heap.size, 0, none⟩) hpf (.slice A7 n7 c7)); have c6 : (w7.setCell ⟨w4.heap.size, 0, none⟩ (.slice A7 n7 c7)).cell? ⟨p, 0, none⟩ = some (.slice Av d.pieces.length cv) := (blk_cell HH7.out 0).trans rfl; have fz6 := blk_frozen HH7.out; have HC7 := Aside0.mk ((HC5.out.trans (Ch.grown (F := fun k => F k ∨ k = w4.heap.size) hg7 (fun k hk => by cases hk)) (fun k hk => .inl hk)).trans (Ch.set (F := fun k => F k ∨ k = w4.heap.size) w7 w4.heap.size 0 (.slice A7 n7 c7) (.inr rfl)) (fun k hk => .inl hk)); have HN7 := Aside0.mk (show ((w7.setCell ⟨w4.heap.size, 0, none⟩ (.slice A7 n7 c7)).alloc (.cells #[ptr w4.heap.size, .int .i64 bs.length] 80)).heap[w7.heap.size]? = some (.cells #[ptr w4.heap.size, .int .i64 bs.length] 80 (0, 0)) from (by have := blk_new (w7.setCell ⟨w4.heap.size, 0, none⟩ (.slice A7 n7 c7)) (.cells #[ptr w4.heap.size, .int .i64 bs.length] 80); simpa [World.setCell] using this)); have HS7 := Aside0.mk (And.intro HB4.out.size (And.intro HSZ5.out hg7.size)); clear ho7 hg7 hat7 hu4 hh4 hfu hpu hu7 hh7 hpf))
    | (at_builtin; refine Kd.R_append_rows PK (w0 := ((w7.setCell ⟨w4.heap.size, 0, none⟩ (.slice A7 n7 c7)).alloc (.cells #[ptr w4.heap.size, .int .i64 bs.length] 80))) (Rr := fun x cs => PK.K ((w7.setCell ⟨w4.heap.size, 0, none⟩ (.slice A7 n7 c7)).alloc (.cells #[ptr w4.heap.size, .int .i64 bs.length] 80)) x cs) 0 rfl (.tmp 57) (.tmp 62) 60 80 (.agg #[.pointer none, .int .i64 0]) 16 rfl Try.underlying60 infoP rfl (by decide) (by omega) _ d.pieces [(w4.heap.size, (bs.length : Int))] (some ⟨w7.heap.size, 0, none⟩) 1 1 (fun k => ((F k ∨ k = w4.heap.size) ∨ (w5.heap.size ≤ k ∧ k < w7.heap.size)) ∨ ((w7.setCell ⟨w4.heap.size, 0, none⟩ (.slice A7 n7 c7)).alloc (.cells #[ptr w4.heap.size, .int .i64 bs.length] 80)).heap.size ≤ k) (fun _ => False) rfl rfl (HD7.out.pieceR HH7.out _) (onePiece HN7.out) (fun _ _ h => h) (fun _ h => h.elim) (fun _ hk => .inr hk) (Below.refl 0 _) (Nat.zero_le _) HLP.out ?_; intro v9 w9 ho9 _ hg9 _; have hbne : bs ≠ [] := (by intro e; simp_all); obtain ⟨A9, c9, e9⟩ := Kd.R_slice ho9; generalize hn9 : (d.pieces ++ [(w4.heap.size, (bs.length : Int))]).length = n9 at e9; subst e9; have hh9 := blk_grown (blk_alloc HH7.out (.cells #[ptr w4.heap.size, .int .i64 bs.length] 80)) hg9 (HD7.out.head_ne HH7.out); have hc9 : w9.cell? ⟨p, 0, none⟩ = some (.slice Av d.pieces.length cv) := (blk_cell hh9 0).trans rfl; have fz9 := blk_frozen hh9; have HF9 := Aside0.mk (HD7.out.addPiece HH7.out hg9 ho9 (OKM.out w4.heap.size (fun hi => by have := HD4.out.low _ (HD4.out.file _ hi).1; omega) hbne)); have HBN := Aside0.mk hbne; clear ho9 hg9 hh9 hbne))
  · go_ret
    obtain ⟨hS1, hS2, hS3⟩ := HS7.out
    have hS5 := HSZ5.out
    have hS9 := HF9.out.2.size
    have e1 : ∀ (W : World) (q i : Nat) (v : Value), (W.setCell ⟨q, i, none⟩ v).heap.size = W.heap.size := fun W q i v => by simp [World.setCell]
    rw [e1, e1] at hS9
    refine ⟨rfl, w4.heap.size, hS1, ?_, ((HC7.out.trans HF9.out.2 (fun k hk => hk.elim .inl (fun e => .inr (by omega)))).less (fun k hk hlt => hk.elim id (fun e => by omega)))⟩
    have hd : (d.add x.data.toList w4.heap.size).more w4.heap.size bs = { d.add x.data.toList w4.heap.size with bytes := upd (d.add x.data.toList w4.heap.size).bytes w4.heap.size bs, pieces := d.pieces ++ [(w4.heap.size, (bs.length : Int))] } := by
      unfold DS.more
      rw [if_neg HBN.out, show (d.add x.data.toList w4.heap.size).bytes w4.heap.size = [] from upd_self _ _ _, List.nil_append]
      rfl
    rw [hd]
    refine HF9.out.1.mono (fun k hk => ?_) (fun k hk => ?_)
    · unfold Grown at hk ⊢
      rw [e1] at hk ⊢
      rcases hk with ((hk | hk) | hk) | hk
      · exact .inl hk
      · exact .inr (by omega)
      · exact .inr (by omega)
      · exact .inr (by omega)
    · unfold Grown at hk
      rw [e1] at hk ⊢
      rcases hk with hk | hk
      · have := HD.out.low k hk; omega
      · omega
  · go_ret
    obtain ⟨hS1, hS2, hS3⟩ := HS7.out
    have hS5 := HSZ5.out
    have e1 : ∀ (W : World) (q i : Nat) (v : Value), (W.setCell ⟨q, i, none⟩ v).heap.size = W.heap.size := fun W q i v => by simp [World.setCell]
    have hbe : bs = [] := by cases bs with | nil => rfl | cons a r => simp_all
    have hd : (d.add x.data.toList w4.heap.size).more w4.heap.size bs = { d.add x.data.toList w4.heap.size with bytes := upd (d.add x.data.toList w4.heap.size).bytes w4.heap.size bs } := by
      unfold DS.more
      rw [if_pos hbe, show (d.add x.data.toList w4.heap.size).bytes w4.heap.size = [] from upd_self _ _ _, List.nil_append]
    refine ⟨rfl, w4.heap.size, hS1, ?_, HC7.out.less (fun k hk hlt => hk.elim id (fun e => by omega))⟩
    rw [hd]
    refine HD7.out.mono (fun k hk => ?_) (fun k hk => ?_)
    · unfold Grown
      rw [e1]
      rcases hk with (hk | hk) | hk
      · exact .inl hk
      · exact .inr (by omega)
      · exact .inr (by omega)
    · unfold Grown at hk
      rw [e1] at hk ⊢
      rcases hk with hk | hk
      · have := HD.out.low k hk; omega
      · omega
end Go.Proofs.Ytaeamdhkdiblmaa.Dk
set_option linter.unusedSimpArgs false
set_option linter.unusedVariables false
namespace Go.Proofs.Ytaeamdhkdiblmaa.Dk
open Go.RowKit Go.Proofs.YtaeamdhkdiblmaaW.PrintWords Go.Proofs.YtaeamdhkdiblmaaW.PrintLast Go.Proofs.YtaeamdhkdiblmaaW.PrintMore
set_option maxHeartbeats 8000000
set_option maxRecDepth 100000
theorem append_arg (F : Nat → Prop) (p : Nat) (d : DS) (x : ByteArray) (hx : x.size ≤ 9223372036854775807) (A0 : Option Addr) (n0 c0 : Nat) (w : World) (h : IsDisk w F p d) (hr : rightN x.data.toList = false) :
    Calls Try.prog 10 #[ptr p, .string x, .slice A0 n0 c0] w fun e w' => e = .returned (.int .i64 2) ∧ Below w.heap.size w w' := by
  obtain ⟨v, m, hh, hfs, hm, hp⟩ := h.core
  have HH := Aside0.mk hh
  clear h hh hfs hm hp
  go_enter Try.func10, Try.ntmps10
  go_wp2_with (first
    | (go_at_call 34; (with_reducible refine (known p m _ d.size w HH.out).mono ?_); rintro e w1 ⟨rfl, hb⟩; have HB := Aside0.mk hb; clear hb)
    | (go_at_call 35; (with_reducible refine (right x w1 hx).mono ?_); rintro e w2 ⟨rfl, hb⟩; rw [hr]; have HB2 := Aside0.mk (below_tr HB.out hb); clear hb))
  go_ret
  exact ⟨rfl, HB2.out⟩
theorem append_full (F : Nat → Prop) (p : Nat) (d : DS) (x : ByteArray) (hx : x.size ≤ 9223372036854775807) (A0 : Option Addr) (c0 : Nat) (ls : List (List Int)) (w : World) (h : IsDisk w F p d) (hsz : d.size ≤ 9223372036854775807)
    (hls : RowsK.C w A0 ls.length ls) (hlen : ls.flatten.length ≤ room) (hr : rightN x.data.toList = true) (hfit : (decide (d.size < 1) || decide (((ls.flatten.length + d.total : Nat) : Int) ≤ d.size)) = false) :
    Calls Try.prog 10 #[ptr p, .string x, .slice A0 ls.length c0] w fun e w' => e = .returned (.int .i64 8) ∧ Below w.heap.size w w' := by
  obtain ⟨v, m, hh, hfs, hm, hp⟩ := h.core
  obtain ⟨bs, hbs⟩ : ∃ bs, bs = ls.flatten := ⟨_, rfl⟩
  rw [← hbs] at hlen hfit
  have HBS := Aside0.mk hbs
  have HD := Aside0.mk h
  have HH := Aside0.mk hh
  have HLS := Aside0.mk hls
  have HFIT := Aside0.mk hfit
  have HLEN := Aside0.mk hlen
  clear h hh hfs hm hp hls hfit hlen hbs
  go_enter Try.func10, Try.ntmps10
  go_wp2_with (first
    | (go_at_call 34; (with_reducible refine (known p m _ d.size w HH.out).mono ?_); rintro e w1 ⟨rfl, hb⟩; have HB := Aside0.mk hb; clear hb)
    | (go_at_call 35; (with_reducible refine (right x w1 hx).mono ?_); rintro e w2 ⟨rfl, hb⟩; rw [hr]; have HB2 := Aside0.mk (below_tr HB.out hb); clear hb)
    | (go_at_call 36; (with_reducible refine (concat A0 c0 ls w2 (Kd.C_below HLS.out HB2.out) (by have := HLEN.out; rw [← HBS.out]; simp only [room] at this; omega)).mono ?_); rintro e w3 ⟨v3, rfl, hr3, hb⟩; rw [← HBS.out] at hr3; obtain ⟨A3, c3, rfl⟩ := Kd.R_slice hr3; have HB3 := Aside0.mk (below_tr HB2.out hb); clear hr3 hb)
    | (go_at_call 37; (with_reducible refine (fits F p d bs.length HLEN.out w3 (HD.out.below HB3.out) hsz).mono ?_); rintro e w4 ⟨rfl, hb⟩; rw [HFIT.out]; have HB4 := Aside0.mk (below_tr HB3.out hb); clear hb))
  go_ret
  exact ⟨rfl, HB4.out⟩
def DS.fits (d : DS) (n : Nat) : Bool := decide (d.size < 1) || decide (((n + d.total : Nat) : Int) ≤ d.size)
/-- Which block a name's file has, or gets. -/
def Blk (w : World) (d : DS) (n : List UInt8) (f : Nat) : Prop := findF d.files n = some f ∨ (findF d.files n = none ∧ w.heap.size ≤ f)
/-- Disk.Append. -/
theorem append (F : Nat → Prop) (p : Nat) (d : DS) (x : ByteArray) (hx : x.size ≤ 9223372036854775807) (A0 : Option Addr) (c0 : Nat) (ls : List (List Int)) (w : World) (h : IsDisk w F p d) (hsz : d.size ≤ 9223372036854775807)
    (hls : RowsK.C w A0 ls.length ls) (hroom : d.total + ls.flatten.length + d.files.length + 1 ≤ room) :
    Calls Try.prog 10 #[ptr p, .string x, .slice A0 ls.length c0] w fun e w' => Ch F w w' ∧
      ((e = .returned (.int .i64 2) ∧ rightN x.data.toList = false ∧ IsDisk w' (Grown F w w') p d) ∨
       (e = .returned (.int .i64 8) ∧ rightN x.data.toList = true ∧ d.fits ls.flatten.length = false ∧ IsDisk w' (Grown F w w') p d) ∨
       (e = .returned (.int .i64 0) ∧ rightN x.data.toList = true ∧ d.fits ls.flatten.length = true ∧ ∃ f, Blk w d x.data.toList f ∧ IsDisk w' (Grown F w w') p ((d.put x.data.toList f).more f ls.flatten))) := by
  have hkeep : ∀ w', Below w.heap.size w w' → IsDisk w' (Grown F w w') p d := fun w' hb => (h.below hb).mono (fun k hk => .inl hk) (fun k hk => hk.elim (fun hk => Nat.lt_of_lt_of_le (h.low k hk) hb.size) (fun hk => hk.2))
  cases hr : rightN x.data.toList
  · refine (append_arg F p d x hx A0 ls.length c0 w h hr).mono ?_
    rintro e w' ⟨rfl, hb⟩
    exact ⟨Ch.of hb, .inl ⟨rfl, rfl, hkeep w' hb⟩⟩
  · cases hfit : d.fits ls.flatten.length
    · refine (append_full F p d x hx A0 c0 ls w h hsz hls (by omega) hr hfit).mono ?_
      rintro e w' ⟨rfl, hb⟩
      exact ⟨Ch.of hb, .inr (.inl ⟨rfl, rfl, rfl, hkeep w' hb⟩)⟩
    · cases hf : findF d.files x.data.toList with
      | none =>
        refine (append_new F p d x hx A0 c0 ls w h hsz hls hroom hr hfit hf).mono ?_
        rintro e w' ⟨rfl, f, hfs, hd, hc⟩
        refine ⟨hc, .inr (.inr ⟨rfl, rfl, rfl, f, .inr ⟨hf, hfs⟩, ?_⟩)⟩
        unfold DS.put
        rw [hf]
        exact hd
      | some f =>
        refine (append_old F p d x hx A0 c0 ls w h hsz hls hroom hr hfit hf).mono ?_
        rintro e w' ⟨rfl, hd, hc⟩
        refine ⟨hc, .inr (.inr ⟨rfl, rfl, rfl, f, .inl hf, ?_⟩)⟩
        unfold DS.put
        rw [hf]
        exact hd
end Go.Proofs.Ytaeamdhkdiblmaa.Dk
set_option linter.unusedSimpArgs false
set_option linter.unusedVariables false
namespace Go.Proofs.Ytaeamdhkdiblmaa.Dk
open Go.RowKit Go.Proofs.YtaeamdhkdiblmaaW.PrintWords Go.Proofs.YtaeamdhkdiblmaaW.PrintLast Go.Proofs.YtaeamdhkdiblmaaW.PrintMore
set_option maxHeartbeats 8000000
set_option maxRecDepth 100000
theorem str_at {w : World} {A : Option Addr} {n : Nat} {l : List ByteArray} (h : Kd.string.C w A n l) (j : Nat) (hj : j < n) :
    ∃ (x : ByteArray) (ad : Addr), l[j]? = some x ∧ A = some ad ∧ w.cell? (ad.add j) = some (.string x) := by
  obtain ⟨hl, _, hc⟩ := h
  obtain ⟨ad, e, hc⟩ := hc (by omega)
  have hj' : j < l.length := by omega
  obtain ⟨c, hs, hk, hcell⟩ := hc j _ (List.getElem?_eq_getElem hj')
  obtain rfl : c = [.string l[j]] := hk
  have := hcell 0 _ rfl
  exact ⟨l[j], ad, List.getElem?_eq_getElem hj', e, by simpa [Kd.string, Kd.scalar] using this⟩
/-- What Disk.each does: something with one file behind the other, to the first name that has none. -/
def eachF {σ : Type} (dk : σ → DS) (stepf : σ → ByteArray → Nat → σ) : List ByteArray → σ → Int × σ
  | [], s => (0, s)
  | n :: r, s => match findF (dk s).files n.data.toList with
    | none => (6, s)
    | some f => eachF dk stepf r (stepf s n f)
/-- Disk.each. -/
theorem each {σ : Type} (dk : σ → DS) (stepf : σ → ByteArray → Nat → σ) (St : World → σ → Prop) (fn : FuncId) (eg : Enters fn) (caps : Array Value) (p : Nat) (A : Option Addr) (c : Nat) (names : List ByteArray) (hsz : ∀ x ∈ names, x.size ≤ 9223372036854775807)
    (hN : ∀ W s, St W s → Kd.string.C W A names.length names) (hD : ∀ W s, St W s → ∃ F, IsDisk W F p (dk s)) (hB : ∀ W s W', St W s → Below W.heap.size W W' → St W' s)
    (hcall : ∀ W s x f, St W s → findF (dk s).files x.data.toList = some f → Calls Try.prog fn (#[.string x, ptr f] ++ caps) W fun e W' => e = .returned (.tuple #[]) ∧ St W' (stepf s x f))
    (w : World) (s : σ) (h : St w s) :
    Calls Try.prog 38 #[ptr p, .func (.func fn) #[] caps, .slice A names.length c] w fun e w' => e = .returned (.int .i64 (eachF dk stepf names s).1) ∧ St w' (eachF dk stepf names s).2 := by
  have hu65 := Try.underlying65
  have hu63 := Try.underlying63
  have hlen : names.length ≤ 9223372036854775807 := (hN w s h).2.1
  obtain ⟨F0, hd0⟩ := hD w s h
  obtain ⟨v0, m0, hh0, _⟩ := hd0.core
  have HSZ := Aside0.mk hsz
  have HNN := Aside0.mk hN
  have HDD := Aside0.mk hD
  have HBB := Aside0.mk hB
  have HCC := Aside0.mk hcall
  have HST := Aside0.mk h
  have HH0 := Aside0.mk hh0
  clear hsz hN hD hB hcall h hd0 hh0
  go_enter Try.func38, Try.ntmps38
  go_wp2_with (go_at_call 34; (with_reducible refine (known p m0 _ (dk s).size w HH0.out).mono ?_); rintro e w1 ⟨rfl, hb⟩; have HS1 := Aside0.mk (HBB.out _ _ _ HST.out hb); clear hb)
  go_loopw [8, 9, 15] (fun v8 v9 v15 w' => ∃ (j : Nat) (t : σ), v15 = .int .i64 j ∧ j ≤ names.length ∧ Aside0 (eachF dk stepf names s = eachF dk stepf (names.drop j) t) ∧ Aside0 (St w' t)) (fun _ _ v15 _ => names.length - (intOf v15).toNat)
  case atStart => exact ⟨0, s, rfl, by omega, ⟨by simp⟩, HS1⟩
  case round =>
    obtain ⟨j, t, rfl, hj, HE, HS⟩ := hrel
    clear HS1 HST HH0
    by_cases hlt : j < names.length
    · obtain ⟨x, ad, hx, rfl, hcell⟩ := str_at (HNN.out _ _ HS.out) j hlt
      have HX := Aside0.mk hx
      obtain ⟨F, hd⟩ := HDD.out _ _ HS.out
      obtain ⟨v, m, hh, hfs, _⟩ := hd.core
      have c1 : wr.cell? ⟨p, 1, none⟩ = some (.map (some m)) := (blk_cell hh 1).trans rfl
      have hk := key9 x (HSZ.out x (List.mem_of_getElem? hx))
      have hdrop : names.drop j = x :: names.drop (j + 1) := by
        have := (List.getElem?_eq_some_iff.1 hx)
        rw [List.drop_eq_getElem_cons hlt, this.2]
      have HDR := Aside0.mk hdrop
      clear hx hdrop hh hd
      cases hf : findF (dk t).files x.data.toList with
      | none =>
        have hlk := lookup_none hfs x hk hf
        clear hfs hk
        go_wp2
        go_ret
        refine ⟨?_, ?_⟩
        · rw [HE.out, HDR.out, eachF, hf]; rfl
        · rw [HE.out, HDR.out, eachF, hf]; exact HS.out
      | some f =>
        have hlk := lookup_some hfs x hk hf
        clear hfs hk
        go_wp2
        rw [eg, Oper.upon_enter]
        refine (HCC.out wr t x f HS.out hf).mono ?_
        rintro e w2 ⟨rfl, hs2⟩
        have HS2 := Aside0.mk hs2
        clear hs2
        go_wp2
        go_roundw
        case rel => exact ⟨j + 1, stepf t x f, by go_num, by omega, ⟨by rw [HE.out, HDR.out, eachF, hf]⟩, HS2⟩
        case measure => first | (simp [intOf]; done) | (simp [intOf]; omega)
    · obtain rfl : j = names.length := by omega
      have he := HE.out
      rw [List.drop_length] at he
      go_wp2
      go_ret
      refine ⟨?_, ?_⟩
      · rw [he]; rfl
      · rw [he]; exact HS.out
end Go.Proofs.Ytaeamdhkdiblmaa.Dk
set_option linter.unusedSimpArgs false
set_option linter.unusedVariables false
namespace Go.Proofs.Ytaeamdhkdiblmaa.Dk
open Go.RowKit Go.Proofs.YtaeamdhkdiblmaaW.PrintWords Go.Proofs.YtaeamdhkdiblmaaW.PrintLast Go.Proofs.YtaeamdhkdiblmaaW.PrintMore
set_option maxHeartbeats 8000000
set_option maxRecDepth 100000
def DS.drop (d : DS) (f : Nat) : DS := { d with pieces := keepP (fun x => x.1 == f) d.pieces }
theorem sumP_keep {pr : Nat × Int → Bool} : ∀ {l : List (Nat × Int)}, (∀ x ∈ l, 0 < x.2) → sumP (l.filter pr) ≤ sumP l
  | [], _ => Int.le_refl _
  | x :: r, h => by
    have h1 := h x List.mem_cons_self
    have h2 := sumP_keep (pr := pr) (fun y hy => h y (List.mem_cons_of_mem _ hy))
    by_cases e : pr x
    · rw [List.filter_cons_of_pos e]
      simp only [sumP, List.map_cons, List.sum_cons] at h2 ⊢
      omega
    · rw [List.filter_cons_of_neg e]
      simp only [sumP, List.map_cons, List.sum_cons] at h2 ⊢
      omega
theorem filter_swap {α : Type} (p q : α → Bool) (l : List α) : (l.filter q).filter p = (l.filter p).filter q := by
  rw [List.filter_filter, List.filter_filter]
  congr 1
  funext x
  exact Bool.and_comm _ _
theorem DS.drop_ok {d : DS} (h : d.Ok) (f : Nat) : (d.drop f).Ok where
  nodup := h.nodup
  old := fun x hx => h.old x (List.mem_filter.1 hx).1
  pos := fun x hx => h.pos x (List.mem_filter.1 hx).1
  wait := fun g hg => by
    refine Int.le_trans ?_ (h.wait g hg)
    unfold sumOf DS.drop keepP
    simp only
    rw [filter_swap]
    exact sumP_keep (fun x hx => h.pos x (List.mem_filter.1 hx).1)
  few := h.few
theorem IsDisk.isFile {W : World} {F : Nat → Prop} {p : Nat} {d : DS} (h : IsDisk W F p d) {f : Nat} (hf : f ∈ d.ids) : IsFile W f := by
  obtain ⟨u, hu, _⟩ := (h.file f hf).2
  exact ⟨u, hu⟩
theorem enters39 : Enters 39 := fun args w => (Go.Proofs.enters_of Try.func39 (by kernel_rfl) rfl) args w
/-- queue.drop over a disk. -/
theorem dropD (F : Nat → Prop) (p : Nat) (d : DS) (f : Nat) (w : World) (h : IsDisk w F p d) (hf : f ∈ d.ids) :
    Calls Try.prog 40 #[ptr p, ptr f] w fun e w' => e = .returned (.tuple #[]) ∧ IsDisk w' F p (d.drop f) ∧ Ch (fun k => F k ∧ (k = p ∨ T80 w k)) w w' := by
  obtain ⟨v, m, hh, hfs, hm, hp⟩ := h.core
  refine (Dk.drop F p f v (.map (some m)) d.size d.pieces w hh h.hp hp (fun x hx => h.isFile (h.ok.old x hx)) (h.isFile hf)).mono ?_
  rintro e w' ⟨rfl, v', hh', hp', hc⟩
  exact ⟨rfl, h.putPieces _ hc hh hh' hp' (fun _ hk => hk) (fun k hk => Nat.lt_of_lt_of_le (h.low k hk) hc.size) (DS.drop_ok h.ok f), hc⟩
theorem f39 (F : Nat → Prop) (p : Nat) (d : DS) (x : ByteArray) (f B t : Nat) (w : World) (h : IsDisk w F p d) (hf : f ∈ d.ids) (hB : w.heap[B]? = some (.cells #[ptr p] t (0, 0))) :
    Calls Try.prog 39 (#[.string x, ptr f] ++ #[.pointer (some ⟨B, 0, none⟩)]) w fun e w' => e = .returned (.tuple #[]) ∧ IsDisk w' F p (d.drop f) ∧ Ch (fun k => F k ∧ (k = p ∨ T80 w k)) w w' := by
  have hu65 := Try.underlying65
  have hu62 := Try.underlying62
  have c1 : w.cell? ⟨B, 0, none⟩ = some (ptr p) := (blk_cell hB 0).trans rfl
  obtain ⟨v, m, hh, _⟩ := h.core
  have HD := Aside0.mk h
  have HF := Aside0.mk hf
  clear h hf hB hh
  go_enter Try.func39, Try.ntmps39
  go_wp2_with (go_at_call 40; (with_reducible refine (dropD F p d f w HD.out HF.out).mono ?_); rintro e w2 ⟨rfl, hd2, hc2⟩; have HD2 := Aside0.mk hd2; have HC2 := Aside0.mk hc2; clear hd2 hc2)
  refine bodyPost_end (results_none rfl _ _ _) rfl ?_
  exact ⟨rfl, HD2.out, HC2.out⟩
def syncF (names : List ByteArray) (d : DS) : Int × DS := eachF id (fun d _ f => d.drop f) names d
/-- Disk.Sync. -/
theorem sync (F : Nat → Prop) (p : Nat) (d : DS) (A : Option Addr) (c : Nat) (names : List ByteArray) (hsz : ∀ x ∈ names, x.size ≤ 9223372036854775807) (w : World) (h : IsDisk w F p d)
    (hN : Kd.string.C w A names.length names) (hG : ∀ W, Ch F w W → Kd.string.C W A names.length names) :
    Calls Try.prog 11 #[ptr p, .slice A names.length c] w fun e w' => e = .returned (.int .i64 (syncF names d).1) ∧ IsDisk w' F p (syncF names d).2 ∧ Ch F w w' := by
  have hB := blk_new w (.cells #[ptr p] 30)
  have hb1 : Below w.heap.size w (w.alloc (.cells #[ptr p] 30)) := below_alloc (Below.refl _ _) _
  have hFB : ¬ F w.heap.size := fun hk => by have := h.low _ hk; omega
  have hcon := each (σ := DS) id (fun d _ f => d.drop f) (fun W d => IsDisk W F p d ∧ Ch F w W ∧ W.heap[w.heap.size]? = some (.cells #[ptr p] 30 (0, 0))) 39 enters39 #[.pointer (some ⟨w.heap.size, 0, none⟩)] p A c names hsz
    (fun W s hs => hG W hs.2.1) (fun W s hs => ⟨F, hs.1⟩) (fun W s W' hs hb => ⟨hs.1.below hb, hs.2.1.step hb, blk_below hs.2.2 hb⟩)
    (fun W s x f hs hf => (f39 F p s x f w.heap.size 30 W hs.1 (findF_id hf) hs.2.2).mono (by
      rintro e W' ⟨rfl, hd, hc⟩
      refine ⟨rfl, hd, hs.2.1.trans hc (fun k hk => .inl hk.1), (hc.block _ (blk_lt hs.2.2) (fun hk => hFB hk.1)).trans hs.2.2⟩))
    (w.alloc (.cells #[ptr p] 30)) d ⟨h.below hb1, Ch.of hb1, hB⟩
  have HC := Aside0.mk hcon
  have c1 : (w.alloc (.cells #[ptr p] 30)).cell? ⟨w.heap.size, 0, none⟩ = some (ptr p) := (blk_cell hB 0).trans rfl
  clear hcon hB hb1 hFB h hN hG hsz
  go_enter Try.func11, Try.ntmps11
  go_wp2_with (go_at_call 38; (with_reducible refine HC.out.mono ?_); rintro e w2 ⟨rfl, hs2⟩; have HS := Aside0.mk hs2; clear hs2)
  go_ret
  exact ⟨rfl, HS.out.1, HS.out.2.1⟩
end Go.Proofs.Ytaeamdhkdiblmaa.Dk
set_option linter.unusedSimpArgs false
set_option linter.unusedVariables false
namespace Go.Proofs.Ytaeamdhkdiblmaa.Dk
open Go.RowKit Go.Proofs.YtaeamdhkdiblmaaW.PrintWords Go.Proofs.YtaeamdhkdiblmaaW.PrintLast Go.Proofs.YtaeamdhkdiblmaaW.PrintMore
set_option maxHeartbeats 4000000
set_option maxRecDepth 100000
/-! queue.shorten over a disk -/
def DS.short (d : DS) (f many : Nat) : DS := { d with bytes := upd d.bytes f ((d.bytes f).take ((d.bytes f).length - many)), pieces := shortP f many d.pieces }
theorem mn_eq (a b : Int) : mn a b = if b < a then b else a := rfl
theorem cutRev_ids (f : Nat) : ∀ (n : Int) (r : List (Nat × Int)), ∀ x ∈ cutRev f n r, ∃ y ∈ r, x.1 = y.1
  | _, [], x, h => absurd h (by simp [cutRev])
  | n, (b, m) :: r, x, h => by
    unfold cutRev at h
    split at h
    · rcases List.mem_cons.1 h with rfl | h
      · exact ⟨_, List.mem_cons_self, rfl⟩
      · obtain ⟨y, hy, e⟩ := cutRev_ids f _ r x h
        exact ⟨y, List.mem_cons_of_mem _ hy, e⟩
    · rcases List.mem_cons.1 h with rfl | h
      · exact ⟨_, List.mem_cons_self, rfl⟩
      · obtain ⟨y, hy, e⟩ := cutRev_ids f _ r x h
        exact ⟨y, List.mem_cons_of_mem _ hy, e⟩
theorem cutRev_nonneg (f : Nat) : ∀ (n : Int) (r : List (Nat × Int)), (∀ x ∈ r, 0 ≤ x.2) → ∀ x ∈ cutRev f n r, 0 ≤ x.2
  | _, [], _, x, h => absurd h (by simp [cutRev])
  | n, (b, m) :: r, hp, x, h => by
    have h0 := hp (b, m) List.mem_cons_self
    have hr := fun y hy => hp y (List.mem_cons_of_mem (b, m) hy)
    unfold cutRev at h
    split at h
    · rcases List.mem_cons.1 h with rfl | h
      · rw [mn_eq]
        show 0 ≤ m - _
        simp only at h0
        split <;> omega
      · exact cutRev_nonneg f _ r hr x h
    · rcases List.mem_cons.1 h with rfl | h
      · exact h0
      · exact cutRev_nonneg f _ r hr x h
theorem cutRev_sum (f : Nat) : ∀ (n : Int) (r : List (Nat × Int)), 0 ≤ n → (∀ x ∈ r, 0 ≤ x.2) → sumOf f (cutRev f n r) = max (sumOf f r - n) 0
  | n, [], hn, _ => by
    have h1 : sumOf f (cutRev f n []) = 0 := rfl
    have h2 : sumOf f [] = 0 := rfl
    rw [h1, h2]; omega
  | n, (b, m) :: r, hn, hp => by
    have h0 : 0 ≤ m := hp (b, m) List.mem_cons_self
    have hr := fun y hy => hp y (List.mem_cons_of_mem (b, m) hy)
    have hs : 0 ≤ sumOf f r := sumP_nonneg _ (fun x hx => hr x (List.mem_filter.1 hx).1)
    unfold cutRev
    split
    · rename_i h
      obtain ⟨hn0, rfl⟩ := h
      have hq : 0 ≤ n - mn n m := by rw [mn_eq]; split <;> omega
      rw [sumOf_cons, sumOf_cons, if_pos rfl, if_pos rfl, cutRev_sum b _ r hq hr, mn_eq]
      split <;> omega
    · rename_i h
      rw [sumOf_cons, sumOf_cons, cutRev_sum f n r hn hr]
      by_cases e : b = f
      · have : n = 0 := by
          rcases Int.lt_or_le 0 n with h1 | h1
          · exact absurd ⟨h1, e⟩ h
          · omega
        rw [if_pos e]; omega
      · rw [if_neg e]; omega
theorem cutRev_other {f g : Nat} (hg : g ≠ f) : ∀ (n : Int) (r : List (Nat × Int)), sumOf g (cutRev f n r) = sumOf g r
  | n, [] => rfl
  | n, (b, m) :: r => by
    unfold cutRev
    split
    · rename_i h
      have hb : ¬ b = g := by rw [h.2]; exact Ne.symm hg
      rw [sumOf_cons, sumOf_cons, cutRev_other hg, if_neg hb, if_neg hb]
    · rw [sumOf_cons, sumOf_cons, cutRev_other hg]
theorem sumOf_rev (g : Nat) (l : List (Nat × Int)) : sumOf g l.reverse = sumOf g l := by
  unfold sumOf sumP
  rw [List.filter_reverse, List.map_reverse, List.sum_reverse]
theorem sumOf_zero (g : Nat) : ∀ (l : List (Nat × Int)), sumOf g (keepP (fun x => x.2 == 0) l) = sumOf g l
  | [] => rfl
  | (b, m) :: r => by
    have ih := sumOf_zero g r
    unfold keepP at ih ⊢
    by_cases e : m = 0
    · rw [List.filter_cons_of_neg (by simp [e]), ih, sumOf_cons, e]; split <;> omega
    · rw [List.filter_cons_of_pos (by simp [e]), sumOf_cons, sumOf_cons, ih]
theorem shortP_sum (f many : Nat) (l : List (Nat × Int)) (hp : ∀ x ∈ l, 0 ≤ x.2) : sumOf f (shortP f many l) = max (sumOf f l - many) 0 := by
  unfold shortP
  rw [sumOf_zero, sumOf_rev, cutRev_sum f many l.reverse (by omega) (fun x hx => hp x (List.mem_reverse.1 hx)), sumOf_rev]
theorem shortP_other {f g : Nat} (hg : g ≠ f) (many : Nat) (l : List (Nat × Int)) : sumOf g (shortP f many l) = sumOf g l := by
  unfold shortP
  rw [sumOf_zero, sumOf_rev, cutRev_other hg, sumOf_rev]
theorem lenSum_le {b : Nat → List Int} {f : Nat} {xs : List Int} (hx : xs.length ≤ (b f).length) : ∀ l : List Nat, lenSum (upd b f xs) l ≤ lenSum b l
  | [] => Nat.le_refl _
  | g :: r => by
    have ih := lenSum_le hx r
    have hc : ∀ b : Nat → List Int, lenSum b (g :: r) = (b g).length + lenSum b r := fun b => by simp [lenSum]
    rw [hc, hc]
    by_cases e : g = f
    · subst e; rw [upd_self]; omega
    · rw [upd_ne e]; omega
theorem DS.short_ok {d : DS} (h : d.Ok) (f many : Nat) (hm : many ≤ (d.bytes f).length) : (d.short f many).Ok where
  nodup := h.nodup
  old := fun x hx => by
    have h1 := (List.mem_filter.1 hx).1
    obtain ⟨y, hy, e⟩ := cutRev_ids f many d.pieces.reverse x (List.mem_reverse.1 h1)
    show x.1 ∈ d.ids
    rw [e]
    exact h.old y (List.mem_reverse.1 hy)
  pos := fun x hx => by
    obtain ⟨h1, h2⟩ := List.mem_filter.1 hx
    have := cutRev_nonneg f many d.pieces.reverse (fun y hy => Int.le_of_lt (h.pos y (List.mem_reverse.1 hy))) x (List.mem_reverse.1 h1)
    have hne : x.2 ≠ 0 := by simpa using h2
    omega
  wait := fun g hg => by
    show sumOf g (shortP f many d.pieces) ≤ ((upd d.bytes f ((d.bytes f).take ((d.bytes f).length - many)) g).length : Int)
    have hw := h.wait g hg
    by_cases e : g = f
    · subst e
      rw [shortP_sum g many d.pieces (fun x hx => Int.le_of_lt (h.pos x hx)), upd_self, List.length_take]
      omega
    · rw [shortP_other e, upd_ne e]
      exact hw
  few := by
    have := lenSum_le (b := d.bytes) (f := f) (xs := (d.bytes f).take ((d.bytes f).length - many)) (by rw [List.length_take]; omega) d.ids
    have h2 := h.few
    show lenSum (upd d.bytes f _) d.ids + d.files.length ≤ room
    unfold DS.total at h2
    omega
theorem shortD (F : Nat → Prop) (p : Nat) (d : DS) (f many : Nat) (w : World) (h : IsDisk w F p d) (hf : f ∈ d.ids) (hm : many ≤ (d.bytes f).length) :
    Calls Try.prog 43 #[ptr p, ptr f, .int .i64 many] w fun e w' => e = .returned (.tuple #[]) ∧ IsDisk w' F p (d.short f many) ∧ Ch (fun k => F k ∧ (k = p ∨ T80 w k ∨ k = f)) w w' := by
  obtain ⟨v, m, hh, hfs, hm2, hp⟩ := h.core
  obtain ⟨u, hu, hR⟩ := (h.file f hf).2
  obtain ⟨A, c, rfl⟩ := Kd.R_slice hR
  obtain ⟨_, hnc, _⟩ := Kd.R_reads' hR
  have hcap : c ≤ 9223372036854775807 := by
    obtain ⟨inner, ho⟩ := Kd.R_own hR
    rcases ho.2 with ⟨e, _⟩ | ⟨g, cap, cur, e, _, _, _, hc, _⟩
    · injection e with _ _ e; omega
    · injection e with _ _ e
      rw [e]
      simpa [maxLen] using hc
  have hFf := (h.file f hf).1
  have hfin : ∀ (w' : World) (v' : Value), Head w' p v' (.map (some m)) d.size → Pcs w' F v' (shortP f many d.pieces) → w'.heap[f]? = some (.cells #[.slice A ((d.bytes f).length - many) c] 78 (0, 0)) → Ch (fun k => F k ∧ (k = p ∨ T80 w k ∨ k = f)) w w' → IsDisk w' F p (d.short f many) := by
    intro w' v' hh' hp' hf' hc
    refine h.turn f _ _ hc hh hh' hp' (fun _ hk => hk) (fun k hk => Nat.lt_of_lt_of_le (h.low k hk) hc.size) (fun _ => ⟨_, hf', ?_, fun k hk => ?_⟩) (fun hn => absurd hf hn) (DS.short_ok h.ok f many hm)
    · have hR2 := Kd.R_take (m := (d.bytes f).length - many) hR (by omega)
      refine Kd.R_mono (Kd.R_move (BK_own hR2) (fun k hk => ?_)) (fun k hk => hk.2)
      obtain ⟨cs, hcs⟩ := own_type hR2 hk.1
      refine hc.block k (blk_lt hcs) (fun e => ?_)
      rcases e.2 with e | e | e
      · subst e; exact blk_ne hcs hh (by decide) rfl
      · exact T80.not hcs (by decide) e
      · subst e; exact blk_ne hcs hu (by decide) rfl
    · rw [ownB_of hu]
      cases A with
      | none => cases hk
      | some a => exact hk
  rcases hp with ⟨rfl, hl⟩ | ⟨g, cap, rfl, hcp, hFg, hrow⟩
  · refine (shorten_nil p f (.map (some m)) d.size A (d.bytes f).length c many w hh hu hnc hcap hm).mono ?_
    rintro e w' ⟨rfl, hh', hf', hc⟩
    have hc2 : Ch (fun k => F k ∧ (k = p ∨ T80 w k ∨ k = f)) w w' := hc.mono (fun k hk => hk.elim (fun e => ⟨e ▸ h.hp, .inl e⟩) (fun e => ⟨e ▸ hFf, .inr (.inr e)⟩))
    exact ⟨rfl, hfin w' _ hh' (.inl ⟨rfl, by rw [hl]; rfl⟩) hf' hc2, hc2⟩
  · have hps : ∀ x ∈ d.pieces, x.2 ≤ sumP d.pieces := by
      intro x hx
      obtain ⟨s, t, e⟩ := List.append_of_mem hx
      have h1 : sumP d.pieces = sumP s + (x.2 + sumP t) := by rw [e]; simp [sumP]
      have h2 := sumP_nonneg s (fun y hy => Int.le_of_lt (h.ok.pos y (by rw [e]; simp [hy])))
      have h3 := sumP_nonneg t (fun y hy => Int.le_of_lt (h.ok.pos y (by rw [e]; simp [hy])))
      omega
    have hsum := h.ok.sum
    have hfew := h.ok.few
    simp only [room] at hfew
    refine (shorten_row p f g cap (.map (some m)) d.size A (d.bytes f).length c many d.pieces w hh hrow hcp (fun x hx => h.isFile (h.ok.old x hx)) (fun x hx => ⟨Int.le_of_lt (h.ok.pos x hx), by have := hps x hx; omega⟩) hu hnc hcap hm).mono ?_
    rintro e w' ⟨rfl, n', hh', hr', rfl, hf', hc⟩
    have hc2 : Ch (fun k => F k ∧ (k = p ∨ T80 w k ∨ k = f)) w w' := hc.mono (fun k hk => by
      rcases hk with rfl | rfl | rfl
      · exact ⟨h.hp, .inl rfl⟩
      · exact ⟨hFf, .inr (.inr rfl)⟩
      · exact ⟨hFg, .inr (.inl hrow.t80)⟩)
    exact ⟨rfl, hfin w' _ hh' (.inr ⟨g, cap, rfl, hcp, hFg, hr'⟩) hf' hc2, hc2⟩
end Go.Proofs.Ytaeamdhkdiblmaa.Dk
set_option linter.unusedSimpArgs false
set_option linter.unusedVariables false
namespace Go.Proofs.Ytaeamdhkdiblmaa.Dk
open Go.RowKit Go.Proofs.YtaeamdhkdiblmaaW.PrintWords Go.Proofs.YtaeamdhkdiblmaaW.PrintLast Go.Proofs.YtaeamdhkdiblmaaW.PrintMore
set_option maxHeartbeats 8000000
set_option maxRecDepth 100000
def q15.T3 : Bool × List (List Nat × List Nat) := (true, [([], []), ([0], [0]), ([1], [1]), ([2], [2]), ([3], [3]), ([], []), ([5], [5]), ([6], [6]), ([7], [7]), ([8], [8]), ([9], [9]), ([10], [10]), ([4, 11], [4, 11]), ([12], [12]), ([], []), ([14, 13, 0, 1, 2, 3, 4, 5, 6, 7, 8, 9, 10, 11, 12, 13, 14], [13, 14])])
def q15.B3 : List Nat := [0, 1, 3, 7, 15, 0, 32, 96, 224, 480, 992, 2016, 4095, 8191, 0, 32767]
theorem q15.tab3 : rtab .any (opsOf Try.f15 3) = q15.T3 := by kernel_rfl
theorem q15.bits3 : waitsOk q15.T3.2 q15.B3 = true := by kernel_rfl
def q15.T5 : Bool × List (List Nat × List Nat) := (true, [([], []), ([0], [0]), ([1], [1]), ([], []), ([3], [3]), ([], []), ([2, 4, 5], [2, 4, 5])])
def q15.B5 : List Nat := [0, 1, 3, 0, 8, 0, 63]
theorem q15.tab5 : rtab .any (opsOf Try.f15 5) = q15.T5 := by kernel_rfl
theorem q15.bits5 : waitsOk q15.T5.2 q15.B5 = true := by kernel_rfl
/-- What is lost: from the last piece on. -/
def crashL : Nat → Int → DS → DS
  | 0, _, d => d
  | k + 1, lost, d => if 0 < lost then match d.pieces.getLast? with
    | none => d
    | some x => crashL k (lost - mn lost x.2) (d.short x.1 (mn lost x.2).toNat)
    else d
def DS.crash (d : DS) (keep : Int) : DS := { crashL (sumP d.pieces - max keep 0).toNat (sumP d.pieces - max keep 0) d with pieces := [] }
theorem DS.clear_ok {d : DS} (h : d.Ok) : DS.Ok { d with pieces := [] } where
  nodup := h.nodup
  old := fun x hx => absurd hx (by simp)
  pos := fun x hx => absurd hx (by simp)
  wait := fun g hg => by
    show sumOf g [] ≤ _
    have : sumOf g [] = 0 := rfl
    rw [this]
    exact Int.natCast_nonneg _
  few := h.few
theorem last_get {l : List (Nat × Int)} {j : Nat} (h : l.length = j + 1) : ∃ b m, l[j]? = some (b, m) ∧ l.getLast? = some (b, m) := by
  have hj : j < l.length := by omega
  refine ⟨l[j].1, l[j].2, List.getElem?_eq_getElem hj, ?_⟩
  rw [List.getLast?_eq_getElem?, h, Nat.add_sub_cancel, List.getElem?_eq_getElem hj]
theorem in_sum {l : List (Nat × Int)} (hp : ∀ x ∈ l, 0 < x.2) {b : Nat} {m : Int} (hm : (b, m) ∈ l) : m ≤ sumOf b l ∧ m ≤ sumP l := by
  obtain ⟨s, r, rfl⟩ := List.append_of_mem hm
  constructor
  · have h1 : sumOf b (s ++ (b, m) :: r) = sumOf b s + (m + sumOf b r) := by
      unfold sumOf; rw [List.filter_append, sumP_app, List.filter_cons_of_pos (by simp)]; simp [sumP]
    have h2 : 0 ≤ sumOf b s := sumP_nonneg _ (fun y hy => Int.le_of_lt (hp y (by simp [(List.mem_filter.1 hy).1])))
    have h3 : 0 ≤ sumOf b r := sumP_nonneg _ (fun y hy => Int.le_of_lt (hp y (by simp [(List.mem_filter.1 hy).1])))
    omega
  · have h1 : sumP (s ++ (b, m) :: r) = sumP s + (m + sumP r) := by simp [sumP]
    have h2 := sumP_nonneg s (fun y hy => Int.le_of_lt (hp y (by simp [hy])))
    have h3 := sumP_nonneg r (fun y hy => Int.le_of_lt (hp y (by simp [hy])))
    omega
/-- The last piece. -/
theorem last_facts {t : DS} (h : t.Ok) {L : Int} (hpos : 0 < L) (hL : L ≤ sumP t.pieces) :
    ∃ (j b : Nat) (m : Int), t.pieces.length = j + 1 ∧ t.pieces[j]? = some (b, m) ∧ Aside0 (b ∈ t.ids ∧ t.pieces.getLast? = some (b, m) ∧ m ≤ sumP t.pieces ∧ (mn L m).toNat ≤ (t.bytes b).length) ∧ 0 < m ∧ m ≤ 1099511627776 ∧ (t.bytes b).length ≤ 1099511627776 ∧ j < 1099511627776 ∧ sumP t.pieces ≤ 1099511627776 := by
  have hst := h.sum
  have hft := h.few
  simp only [room] at hft
  have hne : 0 < t.pieces.length := by
    rcases hl : t.pieces with _ | ⟨x, r⟩
    · rw [hl] at hL; have : sumP [] = 0 := rfl; omega
    · simp
  obtain ⟨j, hj⟩ : ∃ j, t.pieces.length = j + 1 := ⟨t.pieces.length - 1, by omega⟩
  obtain ⟨b, m, hx, hlast⟩ := last_get hj
  have hmem := List.mem_of_getElem? hx
  have hbid : b ∈ t.ids := h.old _ hmem
  have hmpos : 0 < m := h.pos _ hmem
  obtain ⟨h1, h2⟩ := in_sum h.pos hmem
  have hw := h.wait b hbid
  have hbl := total_ge (b := t.bytes) hbid
  have htt : lenSum t.bytes t.ids = t.total := rfl
  have hsh := h.short
  refine ⟨j, b, m, hj, hx, ⟨hbid, hlast, h2, ?_⟩, hmpos, by omega, by omega, by omega, by omega⟩
  rw [mn_eq]
  split <;> omega
theorem short_sum {t : DS} (h : t.Ok) {b q : Nat} {m : Int} (hb : b ∈ t.ids) (hl : t.pieces.getLast? = some (b, m)) (hq : (q : Int) ≤ m) : sumP (t.short b q).pieces = sumP t.pieces - q := by
  have hm : (b, m) ∈ t.pieces := List.mem_of_getLast? hl
  obtain ⟨h1, _⟩ := in_sum h.pos hm
  have hold : ∀ x ∈ (t.short b q).pieces, x.1 ∈ t.ids := fun x hx => by
    obtain ⟨y, hy, e⟩ := cutRev_ids b q t.pieces.reverse x (List.mem_reverse.1 (List.mem_filter.1 hx).1)
    rw [e]
    exact h.old y (List.mem_reverse.1 hy)
  rw [← sum_ofs h.nodup hold, ← sum_ofs h.nodup h.old]
  have hs := shortP_sum b q t.pieces (fun x hx => Int.le_of_lt (h.pos x hx))
  have key : ∀ ids : List Nat, ids.Nodup → b ∈ ids → (ids.map fun g => sumOf g (t.short b q).pieces).sum = (ids.map fun g => sumOf g t.pieces).sum - q := by
    intro ids hn hbi
    have e : (ids.map fun g => sumOf g (t.short b q).pieces) = ids.map fun g => (if b = g then -(q : Int) else 0) + sumOf g t.pieces := List.map_congr_left (fun g _ => by
      show sumOf g (shortP b q t.pieces) = _
      by_cases e : b = g
      · subst e; rw [if_pos rfl, hs]; omega
      · rw [if_neg e, shortP_other (Ne.symm e)]; omega)
    rw [e, sum_pick hn hbi]
    omega
  exact key t.ids h.nodup hb
/-- Disk.Crash. -/
theorem crash (F : Nat → Prop) (p : Nat) (d : DS) (keep : Int) (hkp : keep ≤ 9223372036854775807) (w : World) (h : IsDisk w F p d) :
    Calls Try.prog 15 #[ptr p, .int .i64 keep] w fun e w' => e = .returned (.tuple #[]) ∧ IsDisk w' F p (d.crash keep) ∧ Ch F w w' := by
  obtain ⟨v, m0, hh, hfs, hm, hp⟩ := h.core
  have hu65 := Try.underlying65
  have hu62 := Try.underlying62
  have hu80 := Try.underlying80
  have hsum := h.ok.sum
  have hfew := h.ok.few
  simp only [room] at hfew
  have hs0 := sumP_nonneg d.pieces (fun x hx => Int.le_of_lt (h.ok.pos x hx))
  obtain ⟨lost, hlost⟩ : ∃ lost, lost = sumP d.pieces - max keep 0 := ⟨_, rfl⟩
  have HL := Aside0.mk hlost
  have HW := Aside0.mk (waitsQ p v (.map (some m0)) d.size F d.pieces)
  have HD := Aside0.mk h
  have HH := Aside0.mk hh
  have HP := Aside0.mk hp
  clear h hh hfs hm hp
  go_enter Try.func15, Try.ntmps15
  go_wp2_with (first
    | (go_at_call 34; (with_reducible refine (known p m0 v d.size w HH.out).mono ?_); rintro e w1 ⟨rfl, hb⟩; have HB := Aside0.mk hb; clear hb)
    | (go_at_call 42; (with_reducible refine (HW.out w1 (blk_below HH.out HB.out) (HP.out.below HB.out) (fun x hx => Int.le_of_lt (HD.out.ok.pos x hx)) (by omega)).mono ?_); rintro e w2 ⟨rfl, hb⟩; have HB2 := Aside0.mk (below_tr HB.out hb); clear hb))
  all_goals
    first
      | rw [show sumP d.pieces - keep = lost by omega]
      | rw [show sumP d.pieces = lost by omega]
    have hls : lost ≤ sumP d.pieces := by omega
    have hl0 : -9223372036854775808 ≤ lost := by omega
    clear hlost
    go_loopw [4, 5, 6] (fun v4 v5 v6 w' => ∃ (L : Int) (k : Nat) (t : DS), v4 = .int .i64 L ∧ -9223372036854775808 ≤ L ∧ L ≤ k ∧ Aside0 (crashL lost.toNat lost d = crashL k L t) ∧ L ≤ sumP t.pieces ∧ Aside0 (IsDisk w' F p t) ∧ Aside0 (Ch F w w')) (fun v4 _ _ _ => (intOf v4).toNat)
    case atStart => exact ⟨lost, lost.toNat, d, rfl, hl0, by omega, ⟨rfl⟩, hls, ⟨HD.out.below HB2.out⟩, ⟨Ch.of HB2.out⟩⟩
    case round =>
      obtain ⟨L, k, t, rfl, hL0, hLk, HE, hLs, HDt, HC⟩ := hrel
      clear hls hl0 HB HB2 HP HH HW
      by_cases hpos : 0 < L
      · obtain ⟨j, b, m, hj, hx, HX, hmpos, hmL, hbl, hjl, hsb⟩ := last_facts HDt.out.ok hpos hLs
        obtain ⟨v1, m1, hh1, _, _, hp1⟩ := HDt.out.core
        rcases hp1 with ⟨_, hnil⟩ | ⟨g, cap, rfl, hcap, hFg, hrow⟩
        · exfalso; rw [hnil] at hj; simp at hj
        obtain ⟨h0, h1⟩ := hrow.cell hx
        have c1 : wr.cell? ⟨p, 0, none⟩ = some (.slice (some ⟨g, 0, none⟩) (j + 1) cap) := by rw [← hj]; exact (blk_cell hh1 0).trans rfl
        have hj1 : wrap64 (j : Int) = (j : Int) := by unfold wrap64; omega
        have hjc : 0 ≤ (j : Int) ∧ (j : Int) < (j : Int) + 1 := ⟨Int.natCast_nonneg j, Int.lt_add_one_iff.2 (Int.le_refl _)⟩
        clear hx hrow hh1 hFg hj
        go_wp2
        refine start_ (n:=16) (S:=fun w' => w'.cell? ⟨p, 0, none⟩ = some (.slice (some ⟨g, 0, none⟩) (j + 1) cap) ∧ w'.cell? ⟨g, j * 2, none⟩ = some (ptr b) ∧ w'.cell? ⟨g, j * 2 + 1, none⟩ = some (.int .i64 m)) (ds:=[15]) (bbk 16 0) (by kernel_rfl) rfl rfl ⟨c1, h0, h1⟩ (fun hHeld => ?_); refine with_tabW q15.tab3 q15.bits3 (fun HT_ HW_ => ?_)
        refine pure_ (i:=0) (N:=some 19) (v:=?_) (a' := ?_) (bbk 16 1) rfl rfl (any_of HT_.out (by kernel_rfl)) (fun _ _ _ h => h) (Or.inl ⟨by rfl, ?_⟩) ?_ ?_
        rotate_left
        · (intro w'; go_simp; with_reducible rfl)
        rotate_left
        · (simp only [Act.put, List.setIfInBounds_toArray, List.set_cons_zero, List.set_cons_succ, i64_w, i32_w]; rfl)
        refine pure_ (i:=1) (N:=some 20) (v:=?_) (a' := ?_) (bbk 16 3) rfl rfl (any_of HT_.out (by kernel_rfl)) (fun _ _ _ h => h) (Or.inl ⟨by rfl, ?_⟩) ?_ ?_
        rotate_left
        · (intro w'; go_simp; with_reducible rfl)
        rotate_left
        · (simp only [Act.put, List.setIfInBounds_toArray, List.set_cons_zero, List.set_cons_succ, i64_w, i32_w]; rfl)
        refine pure_ (i:=2) (N:=some 21) (v:=?_) (a' := ?_) (bbk 16 7) rfl rfl (any_of HT_.out (by kernel_rfl)) (fun _ _ _ h => h) (Or.inl ⟨by rfl, ?_⟩) ?_ ?_
        rotate_left
        · (intro w'; go_simp; with_reducible rfl)
        rotate_left
        · (simp only [Act.put, List.setIfInBounds_toArray, List.set_cons_zero, List.set_cons_succ, i64_w, i32_w]; rfl)
        refine pure_ (i:=3) (N:=some 22) (v:=?_) (a' := ?_) (bbk 16 15) rfl rfl (any_of HT_.out (by kernel_rfl)) (fun _ _ _ h => h) (Or.inl ⟨by rfl, ?_⟩) ?_ ?_
        rotate_left
        · (intro w'; go_simp; with_reducible rfl)
        rotate_left
        · (simp only [Act.put, List.setIfInBounds_toArray, List.set_cons_zero, List.set_cons_succ, i64_w, i32_w]; rfl)
        refine take_ (i:=4) (N:=some 23) (v:=?_) (a' := ?_) (bbk 16 31) rfl rfl (take_ofW HT_.out HW_.out (by kernel_rfl)) (fun _ _ _ h => h) (Or.inl ⟨by rfl, ?_⟩) hHeld ?_ ?_
        rotate_left
        · (rintro w' ⟨e0, e1, e2⟩; go_simp; with_reducible rfl)
        rotate_left
        · (simp only [Act.put, List.setIfInBounds_toArray, List.set_cons_zero, List.set_cons_succ, i64_w, i32_w]; rfl)
        refine pure_ (i:=5) (N:=some 24) (v:=?_) (a' := ?_) (bbk 16 63) rfl rfl (any_of HT_.out (by kernel_rfl)) (fun _ _ _ h => h) (Or.inl ⟨by rfl, ?_⟩) ?_ ?_
        rotate_left
        · (intro w'; go_simp; with_reducible rfl)
        rotate_left
        · (simp only [Act.put, List.setIfInBounds_toArray, List.set_cons_zero, List.set_cons_succ, i64_w, i32_w]; rfl)
        refine pure_ (i:=6) (N:=some 25) (v:=?_) (a' := ?_) (bbk 16 127) rfl rfl (any_of HT_.out (by kernel_rfl)) (fun _ _ _ h => h) (Or.inl ⟨by rfl, ?_⟩) ?_ ?_
        rotate_left
        · (intro w'; go_simp; with_reducible rfl)
        rotate_left
        · (simp only [Act.put, List.setIfInBounds_toArray, List.set_cons_zero, List.set_cons_succ, i64_w, i32_w]; rfl)
        refine pure_ (i:=7) (N:=some 26) (v:=?_) (a' := ?_) (bbk 16 255) rfl rfl (any_of HT_.out (by kernel_rfl)) (fun _ _ _ h => h) (Or.inl ⟨by rfl, ?_⟩) ?_ ?_
        rotate_left
        · (intro w'; go_simp; with_reducible rfl)
        rotate_left
        · (simp only [Act.put, List.setIfInBounds_toArray, List.set_cons_zero, List.set_cons_succ, i64_w, i32_w]; rfl)
        refine pure_ (i:=8) (N:=some 27) (v:=?_) (a' := ?_) (bbk 16 511) rfl rfl (any_of HT_.out (by kernel_rfl)) (fun _ _ _ h => h) (Or.inl ⟨by rfl, ?_⟩) ?_ ?_
        rotate_left
        · (intro w'; go_simp; with_reducible rfl)
        rotate_left
        · (simp only [Act.put, List.setIfInBounds_toArray, List.set_cons_zero, List.set_cons_succ, i64_w, i32_w]; rfl)
        refine take_ (i:=9) (N:=some 28) (v:=?_) (a' := ?_) (bbk 16 1023) rfl rfl (take_ofW HT_.out HW_.out (by kernel_rfl)) (fun _ _ _ h => h) (Or.inl ⟨by rfl, ?_⟩) hHeld ?_ ?_
        rotate_left
        · (rintro w' ⟨e0, e1, e2⟩; go_simp; with_reducible rfl)
        rotate_left
        · (simp only [Act.put, List.setIfInBounds_toArray, List.set_cons_zero, List.set_cons_succ, i64_w, i32_w]; rfl)
        refine pure_ (i:=10) (N:=some 29) (v:=?_) (a' := ?_) (bbk 16 2047) rfl rfl (any_of HT_.out (by kernel_rfl)) (fun _ _ _ h => h) (Or.inl ⟨by rfl, ?_⟩) ?_ ?_
        rotate_left
        · (intro w'; go_simp; with_reducible rfl)
        rotate_left
        · (simp only [Act.put, List.setIfInBounds_toArray, List.set_cons_zero, List.set_cons_succ, i64_w, i32_w]; rfl)
        refine pure_ (i:=11) (N:=some 30) (v:=?_) (a' := ?_) (bbk 16 4095) rfl rfl (any_of HT_.out (by kernel_rfl)) (fun _ _ _ h => h) (Or.inl ⟨by rfl, ?_⟩) ?_ ?_
        rotate_left
        · (intro w'; go_simp; with_reducible rfl)
        rotate_left
        · (simp only [Act.put, List.setIfInBounds_toArray, List.set_cons_zero, List.set_cons_succ, i64_w, i32_w, hj1]; rfl)
        refine pure_ (i:=12) (N:=some 31) (v:=?_) (a' := ?_) (bbk 16 8191) rfl rfl (any_of HT_.out (by kernel_rfl)) (fun _ _ _ h => h) (Or.inl ⟨by rfl, ?_⟩) ?_ ?_
        rotate_left
        · (intro w'; go_simp; first | (with_reducible rfl) | (rw [if_pos hjc]) | (rw [if_pos hjc]; rfl))
        rotate_left
        · (simp only [Act.put, List.setIfInBounds_toArray, List.set_cons_zero, List.set_cons_succ, i64_w, i32_w]; rfl)
        refine take_ (i:=13) (N:=some 32) (v:=?_) (a' := ?_) (bbk 16 16383) rfl rfl (take_ofW HT_.out HW_.out (by kernel_rfl)) (fun _ _ _ h => h) (Or.inl ⟨by rfl, ?_⟩) hHeld ?_ ?_
        rotate_left
        · (rintro w' ⟨e0, e1, e2⟩; go_simp; with_reducible rfl)
        rotate_left
        · (simp only [Act.put, List.setIfInBounds_toArray, List.set_cons_zero, List.set_cons_succ, i64_w, i32_w]; rfl)
        refine one_ (i:=14) (N:=some 5) (bbk 16 32767) rfl rfl (one_of HT_.out (by kernel_rfl)) (by decide) (fun K hK => ?_)
        refine value_ (v:=.pointer (some ⟨wr.heap.size, 0, none⟩)) (w1:=wr.drew.alloc (.cells #[.pointer none, .int .i64 0] 80)) (by rfl) rfl ?_ ?_
        · first | (go_simp; done) | (go_simp; rfl) | (go_simp; exact ⟨rfl, rfl⟩)
        refine hK.out _ _ ⟨Lib.cell?_alloc_some _ hHeld.1, Lib.cell?_alloc_some _ hHeld.2.1, Lib.cell?_alloc_some _ hHeld.2.2⟩ (fun hHeld => ?_)
        clear hK K
        refine norm_ (a' := ?_) ?_ ?_
        rotate_left
        · (show Act.put _ (some 5) _ = _; simp only [Act.put, List.setIfInBounds_toArray, List.set_cons_zero, List.set_cons_succ, i64_w, i32_w]; rfl)
        have hN5 := blk_new wr.drew (.cells #[.pointer none, .int .i64 0] 80)
        have fz5 := blk_frozen hN5
        have c50 := blk_cell hN5 0
        have c51 := blk_cell hN5 1
        refine last_ (i:=15) (N:=none) (bbk 16 65535) rfl rfl (one_of HT_.out (by kernel_rfl)) (by decide) (fun K hK => ?_)
        refine skip_ (w1:=?_) (by rfl) rfl ?_ ?_
        rotate_left
        · (go_simp; rfl)
        refine hK.out _ _ ?_
        clear hK K
        refine done_ (done_of HT_.out (by kernel_rfl)) ?_
        obtain ⟨a5, ha5⟩ : ∃ a5, a5 = wr.heap.size := ⟨_, rfl⟩
        have hK5 := blk_new wr (.cells #[ptr b, .int .i64 m] 80)
        obtain ⟨w3, hw3⟩ : ∃ w3, w3 = (wr.alloc (.cells #[ptr b, .int .i64 m] 80)).drew := ⟨_, rfl⟩
        have hb3 : Below wr.heap.size wr w3 := by rw [hw3]; exact below_drew1 (below_alloc (Below.refl _ _) _)
        have hK3 : w3.heap[a5]? = some (.cells #[ptr b, .int .i64 m] 80 (0, 0)) := by rw [hw3, ha5]; exact hK5
        rw [← hw3, ← ha5]
        have k0 : w3.cell? ⟨a5, 0, none⟩ = some (ptr b) := (blk_cell hK3 0).trans rfl
        have k1 : w3.cell? ⟨a5, 1, none⟩ = some (.int .i64 m) := (blk_cell hK3 1).trans rfl
        obtain ⟨q, hq⟩ : ∃ q, q = (mn L m).toNat := ⟨_, rfl⟩
        have hqe : (if m < L then m else L) = (q : Int) := by rw [hq, mn_eq]; split <;> omega
        have HQ := Aside0.mk hqe
        have hmin : ∀ (ts : Array TypeId) (t : TypeId) (W : World), (Builtin.min_ ts t #[.int .i64 L, .int .i64 m]).run Try.prog W = .ok (.int .i64 (q : Int)) W := fun ts t W => by rw [run_min_int2, hqe]
        have hq2 : (q : Int) ≤ L ∧ (q : Int) ≤ m ∧ 0 < (q : Int) := by rw [← hqe]; split <;> omega
        obtain ⟨hqL, hqm, hq0⟩ := hq2
        have hwq : wrap64 (L - (q : Int)) = L - (q : Int) := by unfold wrap64; omega
        have HD3 := Aside0.mk (HDt.out.below (below_drew1 hb3))
        have HC3 := Aside0.mk (HC.out.step (below_drew1 hb3))
        have HSH := Aside0.mk (shortD F p t b q w3.drew HD3.out HX.out.1 (by rw [hq]; exact HX.out.2.2.2))
        have HQ2 := Aside0.mk hq
        clear hw3 hK5 hK3 ha5 hb3 hq h0 h1 c1 hHeld HT_ HW_ hqe
        go_wp2
        refine start_ (n:=7) (S:=fun w' => w'.cell? ⟨a5, 0, none⟩ = some (ptr b)) (ds:=[6]) (bbk 7 0) (by kernel_rfl) rfl rfl k0 (fun hHeld => ?_); refine with_tabW q15.tab5 q15.bits5 (fun HT_ HW_ => ?_)
        refine pure_ (i:=0) (N:=some 37) (v:=?_) (a' := ?_) (bbk 7 1) rfl rfl (any_of HT_.out (by kernel_rfl)) (fun _ _ _ h => h) (Or.inl ⟨by rfl, ?_⟩) ?_ ?_
        rotate_left
        · (intro w'; go_simp; with_reducible rfl)
        rotate_left
        · (simp only [Act.put, List.setIfInBounds_toArray, List.set_cons_zero, List.set_cons_succ, i64_w, i32_w]; rfl)
        refine pure_ (i:=1) (N:=some 38) (v:=?_) (a' := ?_) (bbk 7 3) rfl rfl (any_of HT_.out (by kernel_rfl)) (fun _ _ _ h => h) (Or.inl ⟨by rfl, ?_⟩) ?_ ?_
        rotate_left
        · (intro w'; go_simp; with_reducible rfl)
        rotate_left
        · (simp only [Act.put, List.setIfInBounds_toArray, List.set_cons_zero, List.set_cons_succ, i64_w, i32_w]; rfl)
        refine pure_ (i:=2) (N:=some 39) (v:=?_) (a' := ?_) (bbk 7 7) rfl rfl (any_of HT_.out (by kernel_rfl)) (fun _ _ _ h => h) (Or.inl ⟨by rfl, ?_⟩) ?_ ?_
        rotate_left
        · (intro w'; go_simp; with_reducible rfl)
        rotate_left
        · (simp only [Act.put, List.setIfInBounds_toArray, List.set_cons_zero, List.set_cons_succ, i64_w, i32_w]; rfl)
        refine pure_ (i:=3) (N:=some 40) (v:=?_) (a' := ?_) (bbk 7 15) rfl rfl (any_of HT_.out (by kernel_rfl)) (fun _ _ _ h => h) (Or.inl ⟨by rfl, ?_⟩) ?_ ?_
        rotate_left
        · (intro w'; go_simp; with_reducible rfl)
        rotate_left
        · (simp only [Act.put, List.setIfInBounds_toArray, List.set_cons_zero, List.set_cons_succ, i64_w, i32_w]; rfl)
        refine take_ (i:=4) (N:=some 41) (v:=?_) (a' := ?_) (bbk 7 31) rfl rfl (take_ofW HT_.out HW_.out (by kernel_rfl)) (fun _ _ _ h => h) (Or.inl ⟨by rfl, ?_⟩) hHeld ?_ ?_
        rotate_left
        · (rintro w' e0; go_simp; with_reducible rfl)
        rotate_left
        · (simp only [Act.put, List.setIfInBounds_toArray, List.set_cons_zero, List.set_cons_succ, i64_w, i32_w]; rfl)
        refine pure_ (i:=5) (N:=some 42) (v:=?_) (a' := ?_) (bbk 7 63) rfl rfl (any_of HT_.out (by kernel_rfl)) (fun _ _ _ h => h) (Or.inl ⟨by rfl, ?_⟩) ?_ ?_
        rotate_left
        · (intro w'; go_simp; with_reducible rfl)
        rotate_left
        · (simp only [Act.put, List.setIfInBounds_toArray, List.set_cons_zero, List.set_cons_succ, i64_w, i32_w]; rfl)
        refine last_ (i:=6) (N:=some 43) (bbk 7 127) rfl rfl (one_of HT_.out (by kernel_rfl)) (by decide) (fun K hK => ?_)
        refine goes_ Try.func43 (by kernel_rfl) rfl #[ptr p, ptr b, .int .i64 q] (by rfl) rfl rfl (by (try simp only [List.map_toArray, List.map_cons, List.map_nil]); first | done | rfl) ?_
        refine (HSH.out).mono ?_
        rintro e w4 ⟨rfl, hd4, hc4⟩
        have HD4 := Aside0.mk hd4
        have HC4 := Aside0.mk (HC3.out.trans hc4 (fun k hk => .inl hk.1))
        clear hd4 hc4
        refine ⟨_, rfl, ?_⟩
        refine hK.out _ _ ?_
        clear hK K
        refine done_ (done_of HT_.out (by kernel_rfl)) ?_
        clear hHeld HT_ HW_ k0 k1 hmin
        go_wp2
        go_roundw
        case rel =>
          have hk0 : ∃ k', k = k' + 1 := ⟨k - 1, by omega⟩
          obtain ⟨k', rfl⟩ := hk0
          refine ⟨L - (q : Int), k', t.short b q, rfl, by omega, by omega, ⟨?_⟩, ?_, HD4, HC4⟩
          · rw [HE.out, crashL, if_pos hpos, HX.out.2.1]
            have hmq : mn L m = (q : Int) := by rw [mn_eq]; exact HQ.out
            simp only [hmq, Int.toNat_natCast]
          · have := short_sum HDt.out.ok HX.out.1 HX.out.2.1 hqm
            omega
        case measure => first | (simp [intOf, hwq]; done) | (simp [intOf, hwq]; omega)
      · have hfin : crashL k L t = t := by cases k with
          | zero => rfl
          | succ k => rw [crashL, if_neg hpos]
        obtain ⟨v1, m1, hh1, _, _, hp1⟩ := HDt.out.core
        have hfr := blk_frozen hh1
        have c1 := blk_cell hh1 0
        have HF := Aside0.mk hfin
        have HH1 := Aside0.mk hh1
        obtain ⟨A1, k1, rfl, _, _⟩ := hp1.form
        clear hfin hh1 hp1
        go_wp2
        refine bodyPost_end (results_none rfl _ _ _) rfl ?_
        have hpp : DS.crash d keep = { t with pieces := [] } := by unfold DS.crash; rw [← HL.out, HE.out, HF.out]
        have hc : Ch (fun k => F k ∧ (k = p ∨ T80 wr k)) wr (wr.setCell ⟨p, 0, none⟩ (.slice none 0 0)) := Ch.set wr p 0 _ ⟨HDt.out.hp, .inl rfl⟩
        rw [hpp]
        exact ⟨rfl, HDt.out.putPieces [] hc HH1.out (blk_put HH1.out 0 _ rfl) (.inl ⟨rfl, rfl⟩) (fun _ hk => hk) (fun k hk => by have := HDt.out.low k hk; simpa [World.setCell] using this) (DS.clear_ok HDt.out.ok), HC.out.trans hc (fun k hk => .inl hk.1)⟩
end Go.Proofs.Ytaeamdhkdiblmaa.Dk
