import Derived.Test.YtkilmclncpmjnaaZQAAllA
set_option linter.unusedSimpArgs false
set_option linter.unusedVariables false
namespace Go.Proofs.Ytkilmclncpmjnaa.P06t
open Go.RowKit Go.Proofs.YtkilmclncpmjnaaW.PrintWords Go.Proofs.YtkilmclncpmjnaaW.PrintLast Go.Proofs.YtkilmclncpmjnaaW.PrintMore Go.Proofs.Ytkilmclncpmjnaa.St
def qa.T10 : Bool × List (List Nat × List Nat) := (true, [([], []), ([], []), ([1], [1]), ([0, 2, 2], [0, 2]), ([3], [3]), ([4], [4]), ([4], [4]), ([], []), ([7, 5, 3, 0, 1, 2, 3, 4, 5, 7], [5, 7]), ([6, 8, 0, 1, 2, 3, 4, 5, 6, 7, 8], [6])])
def qa.B10 : List Nat := [0, 0, 2, 7, 15, 31, 31, 0, 191, 511]
theorem qa.tab10 : rtab .any (opsOf Try.f6 10) = qa.T10 := by kernel_rfl
theorem qa.bits10 : waitsOk qa.T10.2 qa.B10 = true := by kernel_rfl
def qa.T12 : Bool × List (List Nat × List Nat) := (true, [([], []), ([], []), ([], []), ([], []), ([3], [3]), ([], []), ([5, 4], [5]), ([], []), ([7, 6], [7]), ([4, 6, 8], [4, 6, 8]), ([], []), ([10, 8], [10]), ([], []), ([12, 11], [12]), ([11, 13], [11, 13]), ([], []), ([15, 13], [15]), ([], []), ([17, 16], [17]), ([16, 18], [16, 18]), ([0, 1, 2, 9, 14, 19], [0, 1, 2, 9, 14, 19]), ([20, 18, 0, 1, 2, 3, 4, 5, 6, 7, 8, 9, 10, 11, 12, 13, 14, 15, 16, 17, 18, 19, 20], [20])])
def qa.B12 : List Nat := [0, 0, 0, 0, 8, 0, 56, 0, 248, 504, 0, 1528, 0, 7672, 15864, 0, 48632, 0, 245240, 507384, 1048575, 2097151]
theorem qa.tab12 : rtab .any (opsOf Try.f6 12) = qa.T12 := by kernel_rfl
theorem qa.bits12 : waitsOk qa.T12.2 qa.B12 = true := by kernel_rfl
def qa.T19 : Bool × List (List Nat × List Nat) := (true, [([], []), ([], []), ([0, 1], [0, 1]), ([2], [2]), ([], []), ([4], [4]), ([], []), ([], []), ([6, 7], [6, 7]), ([], []), ([8, 9], [8, 9]), ([10], [10]), ([11], [11]), ([3, 5, 12, 5], [3, 5, 12]), ([13], [13])])
def qa.B19 : List Nat := [0, 0, 3, 7, 0, 16, 0, 0, 192, 0, 960, 1984, 4032, 8191, 16383]
theorem qa.tab19 : rtab .any (opsOf Try.f6 19) = qa.T19 := by kernel_rfl
theorem qa.bits19 : waitsOk qa.T19.2 qa.B19 = true := by kernel_rfl
theorem Row.cells {V V' : World} {s : Value} {l : List Int} (h : Row V s l) (hm : ∀ p x, V.cell? p = some (.int .i64 x) → V'.cell? p = some (.int .i64 x)) : Row V' s l := by
  obtain ⟨A, c, e, q, hl, hn, hc⟩ := h
  refine ⟨A, c, e, q, hl, hn, fun h0 => ?_⟩
  obtain ⟨ad, ea, hc⟩ := hc h0
  refine ⟨ad, ea, fun j x hj => ?_⟩
  obtain ⟨cs, hs, hk, hcell⟩ := hc j x hj
  refine ⟨cs, hs, hk, fun i u hu => ?_⟩
  have h1 := hcell i u hu
  obtain rfl : cs = [.int .i64 x] := hk
  cases i with
  | zero => cases hu; exact hm _ _ h1
  | succ i => simp at hu
theorem G.cells {V V' : World} {s : Value} (h : G V s) (hm : ∀ p x, V.cell? p = some (.int .i64 x) → V'.cell? p = some (.int .i64 x)) : G V' s := by
  obtain ⟨l, h, hl⟩ := h
  exact ⟨l, h.cells hm, hl⟩
theorem far_int {V V' : World} {g : Nat} {v0 v1 v2 v3 : Value} {t : TypeId} (hk : V.heap[g]? = some (.cells #[v0, v1, v2, v3] t (0, 0))) (h0 : ∀ x, v0 ≠ .int .i64 x) (h1 : ∀ x, v1 ≠ .int .i64 x) (h2 : ∀ x, v2 ≠ .int .i64 x) (h3 : ∀ x, v3 ≠ .int .i64 x)
    (hfar : ∀ k, k ≠ g → V'.heap[k]? = V.heap[k]?) : ∀ p x, V.cell? p = some (.int .i64 x) → V'.cell? p = some (.int .i64 x) := by
  intro p x h
  by_cases e : p.block = g
  · exfalso
    unfold World.cell? at h
    rw [e, hk] at h
    simp only at h
    split at h
    · cases h
    · match hp : p.off, h with
      | 0, h => simp at h; exact h0 x h
      | 1, h => simp at h; exact h1 x h
      | 2, h => simp at h; exact h2 x h
      | 3, h => simp at h; exact h3 x h
      | n + 4, h => simp at h
  · unfold World.cell? at h ⊢
    rw [hfar _ e]
    exact h
structure E1 (w : World) (g : Nat) (s : Value) (V : World) : Prop where
  b : Below w.heap.size w V
  k : Blk V g #[s, .slice none 0 0, .slice none 0 0, .slice none 0 0] 24
  g0 : G V s
theorem E1.all {w : World} {g : Nat} {s : Value} {V : World} (h : E1 w g s V) : G4 V s (.slice none 0 0) (.slice none 0 0) (.slice none 0 0) := ⟨h.g0, G.nil V, G.nil V, G.nil V⟩
structure F10 (w : World) (g : Nat) (s : Value) (g4 : Nat) (a0 a1 a2 a3 : Value) (V : World) : Prop where
  e : E1 w g s V
  h : w.heap.size ≤ g4
  n : g ≠ g4
  k4 : Blk V g4 #[.slice none 0 0, .slice none 0 0, .slice none 0 0, .slice none 0 0] 24
  ga : G4 V a0 a1 a2 a3
structure E2 (w : World) (g : Nat) (s : Value) (g4 : Nat) (a0 a1 a2 a3 : Value) (V : World) : Prop where
  e : E1 w g s V
  k4 : Blk V g4 #[a0, a1, a2, a3] 24
  ga : G4 V a0 a1 a2 a3
abbrev put4 (V : World) (g4 : Nat) (a0 a1 a2 a3 : Value) : World := (((V.setCell ⟨g4, 0, none⟩ a0).setCell ⟨g4, 1, none⟩ a1).setCell ⟨g4, 2, none⟩ a2).setCell ⟨g4, 3, none⟩ a3
theorem F10.put {w : World} {g : Nat} {s : Value} {g4 : Nat} {a0 a1 a2 a3 : Value} {V : World} (h : F10 w g s g4 a0 a1 a2 a3 V) : Stay (E2 w g s g4 a0 a1 a2 a3) ((((V.setCell ⟨g4, 0, none⟩ a0).setCell ⟨g4, 1, none⟩ a1).setCell ⟨g4, 2, none⟩ a2).setCell ⟨g4, 3, none⟩ a3) := by
  have hfar : ∀ k, k ≠ g4 → (put4 V g4 a0 a1 a2 a3).heap[k]? = V.heap[k]? := fun k hk =>
    (Below.heap_setCell _ ⟨g4, 3, none⟩ a3 k hk).trans ((Below.heap_setCell _ ⟨g4, 2, none⟩ a2 k hk).trans ((Below.heap_setCell _ ⟨g4, 1, none⟩ a1 k hk).trans (Below.heap_setCell _ ⟨g4, 0, none⟩ a0 k hk)))
  have hm := far_int h.k4 (by simp) (by simp) (by simp) (by simp) hfar
  have hb : Below w.heap.size w (put4 V g4 a0 a1 a2 a3) := below_set (below_set (below_set (below_set h.e.b h.h) h.h) h.h) h.h
  have hk4 : Blk (put4 V g4 a0 a1 a2 a3) g4 #[a0, a1, a2, a3] 24 := blk_put (blk_put (blk_put (blk_put h.k4 0 a0 rfl) 1 a1 rfl) 2 a2 rfl) 3 a3 rfl
  have hk : Blk (put4 V g4 a0 a1 a2 a3) g #[s, .slice none 0 0, .slice none 0 0, .slice none 0 0] 24 := (hfar g h.n).trans h.e.k
  exact ⟨fun V' hV' => ⟨⟨below_tr hb hV', (stay_blk hk).out V' hV', (h.e.g0.cells hm).below hV'⟩, (stay_blk hk4).out V' hV', ⟨(h.ga.g0.cells hm).below hV', (h.ga.g1.cells hm).below hV', (h.ga.g2.cells hm).below hV', (h.ga.g3.cells hm).below hV'⟩⟩⟩
structure E3 (w : World) (g : Nat) (s : Value) (g4 : Nat) (a0 a1 a2 a3 : Value) (g6 : Nat) (p0 p1 p2 p3 : Value) (V : World) : Prop where
  e : E2 w g s g4 a0 a1 a2 a3 V
  k6 : Blk V g6 #[p0, p1, p2, p3] 24
  gp : G4 V p0 p1 p2 p3
structure E4 (w : World) (g8 : Nat) (s a0 a1 a2 a3 p0 p1 p2 p3 r0 r1 r2 r3 r4 r5 r6 : Value) (V : World) : Prop where
  b : Below w.heap.size w V
  k8 : Blk V g8 #[s, .slice none 0 0, .slice none 0 0, .slice none 0 0, a0, a1, a2, a3, p0, p1, p2, p3, r0, r1, .slice none 0 0, r2, r3, .slice none 0 0, r4, .slice none 0 0, r5, .slice none 0 0, .slice none 0 0, r6] 24
  gs : G V s
  ga : G4 V a0 a1 a2 a3
  gp : G4 V p0 p1 p2 p3
  r0 : G V r0
  r1 : G V r1
  r2 : G V r2
  r3 : G V r3
  r4 : G V r4
  r5 : G V r5
  r6 : G V r6
set_option maxHeartbeats 8000000 in
set_option maxRecDepth 100000 in
theorem all_walk (w : World) : Calls Try.prog 6 #[] w fun e w' => e = .returned (.bool true) ∧ Below w.heap.size w w' := by
  have hu24 := Try.underlying24
  have hu46 := Try.underlying46
  go_enter Try.func6, Try.ntmps6
  go_wp2_with (go_at_call 7; (with_reducible refine (watershedlaw06_awake.calls true _ rfl).mono ?_); rintro e wa ⟨rfl, hb⟩; have HB1 := Aside0.mk hb; clear hb)
  go_loopw [1] (fun v1 w' => ∃ v : Nat, v1 = .int .i64 v ∧ v ≤ 16 ∧ Aside0 (Below w.heap.size w w')) (fun v1 _ => 16 - (intOf v1).toNat)
  case atStart => exact ⟨0, rfl, by omega, HB1⟩
  case round =>
    obtain ⟨v, rfl, hv, HB2⟩ := hrel
    clear HB1
    by_cases hlt : v < 16
    · go_wp2
      have hv16 : decide ((v : Int) < 16) = true := decide_eq_true (by omega)
      rw [hv16]
      go_loopw [2] (fun v2 w' => ∃ u : Nat, v2 = .int .i64 u ∧ u ≤ 16 ∧ Aside0 (Below w.heap.size w w')) (fun v2 _ => 16 - (intOf v2).toNat)
      case atStart => exact ⟨0, rfl, by omega, HB2⟩
      case round =>
        obtain ⟨u, rfl, hu, HB3⟩ := hrel
        clear HB2
        by_cases hlu : u < 16
        · go_wp2_with (go_at_call 32; (with_reducible refine (c32 _ _).mono ?_); rintro e wb ⟨s, rfl, hg, hb⟩; obtain ⟨sA, sn, sc, rfl⟩ := hg.form; have HE : Aside0 (Stay (E1 w wb.heap.size (.slice sA sn sc)) (wb.alloc (.cells #[.slice sA sn sc, .slice none 0 0, .slice none 0 0, .slice none 0 0] 24))) := ⟨⟨fun V hV => by (have h1 : Below wb.heap.size wb (wb.alloc (.cells #[.slice sA sn sc, .slice none 0 0, .slice none 0 0, .slice none 0 0] 24)) := below_alloc (Below.refl _ _) _; exact ⟨below_tr HB3.out (below_tr hb (below_tr h1 hV)), (stay_blk (blk_new wb _)).out V hV, hg.below (below_tr h1 hV)⟩)⟩⟩; clear hb hg)
          refine start_ (n:=10) (S:=fun w' => C4 w' wb.heap.size (.slice sA sn sc) (.slice none 0 0) (.slice none 0 0) (.slice none 0 0)) (ds:=[]) (bb5 10 0) (by kernel_rfl) rfl rfl (Blk.c4 HE.out.now.k) (fun hHeld => ?_); refine with_tabW qa.tab10 qa.bits10 (fun HT_ HW_ => ?_)
          replace HE := Aside0.mk HE.out.drew
          obtain ⟨w9, hw9⟩ : ∃ w9, w9 = (wb.alloc (.cells #[.slice sA sn sc, .slice none 0 0, .slice none 0 0, .slice none 0 0] 24)).drew := ⟨_, rfl⟩
          rw [← hw9] at HE hHeld ⊢
          have hs9 : wb.heap.size + 1 ≤ w9.heap.size := by (rw [hw9]; have h := (below_drew1 (Below.refl 0 (wb.alloc (.cells #[.slice sA sn sc, .slice none 0 0, .slice none 0 0, .slice none 0 0] 24)))).size; rw [World.size_alloc] at h; exact h)
          clear hw9
          refine join_ (σ := Nat × Value × (Value × Value × Value × Value) × Int) 2 (bb5 10 255) (fun z => [(25, .agg #[.slice sA sn sc, .slice none 0 0, .slice none 0 0, .slice none 0 0]), (26, .int .i64 u), (27, z.2.1), (28, .tuple #[.agg #[z.2.2.1.1, z.2.2.1.2.1, z.2.2.1.2.2.1, z.2.2.1.2.2.2], .int .i64 z.2.2.2]), (24, .tuple #[.agg #[z.2.2.1.1, z.2.2.1.2.1, z.2.2.1.2.2.1, z.2.2.1.2.2.2], .int .i64 z.2.2.2]), (29, .agg #[z.2.2.1.1, z.2.2.1.2.1, z.2.2.1.2.2.1, z.2.2.1.2.2.2]), (30, .int .i64 z.2.2.2), (4, .pointer (some ⟨z.1, 0, none⟩))]) (fun z V => F10 w wb.heap.size (.slice sA sn sc) z.1 z.2.2.1.1 z.2.2.1.2.1 z.2.2.1.2.2.1 z.2.2.1.2.2.2 V) ?_ ?_
          rotate_left
          · intro hCont
            refine take_ (i:=0) (N:=some 25) (v:=?_) (a' := ?_) (bb5 10 1) rfl rfl (take_ofW HT_.out HW_.out (by kernel_rfl)) (fun _ _ _ h => h) (Or.inl ⟨by rfl, ?_⟩) hHeld ?_ ?_
            rotate_left
            · (rintro w' ⟨e0, e1, e2, e3⟩; go_simp; with_reducible rfl)
            rotate_left
            · (simp only [Act.put, List.setIfInBounds_toArray, List.set_cons_zero, List.set_cons_succ, i64_w, i32_w]; rfl)
            refine pure_ (i:=1) (N:=some 26) (v:=?_) (a' := ?_) (bb5 10 3) rfl rfl (any_of HT_.out (by kernel_rfl)) (fun _ _ _ h => h) (Or.inl ⟨by rfl, ?_⟩) ?_ ?_
            rotate_left
            · (intro w'; go_simp; with_reducible rfl)
            rotate_left
            · (simp only [Act.put, List.setIfInBounds_toArray, List.set_cons_zero, List.set_cons_succ, i64_w, i32_w]; rfl)
            have HE0 := HE
            refine two_ (i := 2) (j := 7) (Ni := some 27) (Nj := some 4) (bb5 10 7) (bb5 10 131) rfl rfl rfl rfl (two_of HT_.out (by kernel_rfl)) (by decide) (by decide) (fun K hK => ?_) (fun K hK => ?_)
            · skip
              refine goes_ Try.func32 (by kernel_rfl) rfl #[.int .i64 u] (by rfl) rfl rfl (by (try simp only [List.map_toArray, List.map_cons, List.map_nil]); first | done | rfl) ?_
              refine (c32 _ _).mono ?_
              rintro e wc ⟨s1, rfl, hg, hb⟩
              refine ⟨_, rfl, ?_⟩
              have hbs_wc := hb.size
              replace HE := Aside0.mk (HE.out.step hb)
              have H1 : Aside0 (Stay (fun V => G V s1) wc) := ⟨⟨fun V hV => hg.below hV⟩⟩
              refine hK.out _ _ (Blk.c4 HE.out.now.k) (fun hHeld => ?_)
              clear hK K
              refine norm_ (a' := ?_) ?_ ?_
              rotate_left
              · (show Act.put _ (some 27) _ = _; simp only [Act.put, List.setIfInBounds_toArray, List.set_cons_zero, List.set_cons_succ, i64_w, i32_w]; rfl)
              refine two_ (i := 3) (j := 7) (Ni := some 28) (Nj := some 4) (bb5 10 15) (bb5 10 135) rfl rfl rfl rfl (two_of HT_.out (by kernel_rfl)) (by decide) (by decide) (fun K hK => ?_) (fun K hK => ?_)
              · skip
                refine goes_ Try.func12 (by kernel_rfl) rfl #[.agg #[.slice sA sn sc, .slice none 0 0, .slice none 0 0, .slice none 0 0], s1] (by rfl) rfl rfl (by (try simp only [List.map_toArray, List.map_cons, List.map_nil]); first | done | rfl) ?_
                refine (c12 HE.out.now.all H1.out.now).mono ?_
                rintro e wd ⟨a0, a1, a2, a3, x, rfl, ga, hb⟩
                refine ⟨_, rfl, ?_⟩
                have hbs_wd := hb.size
                replace HE := Aside0.mk (HE.out.step hb)
                have HG : Aside0 (Stay (fun V => G4 V a0 a1 a2 a3) wd) := ⟨⟨fun V hV => ga.below hV⟩⟩
                refine hK.out _ _ (Blk.c4 HE.out.now.k) (fun hHeld => ?_)
                clear hK K
                refine norm_ (a' := ?_) ?_ ?_
                rotate_left
                · (show Act.put _ (some 28) _ = _; simp only [Act.put, List.setIfInBounds_toArray, List.set_cons_zero, List.set_cons_succ, i64_w, i32_w]; rfl)
                refine pure_ (i:=4) (N:=some 24) (v:=?_) (a' := ?_) (bb5 10 31) rfl rfl (any_of HT_.out (by kernel_rfl)) (fun _ _ _ h => h) (Or.inl ⟨by rfl, ?_⟩) ?_ ?_
                rotate_left
                · (intro w'; go_simp; with_reducible rfl)
                rotate_left
                · (simp only [Act.put, List.setIfInBounds_toArray, List.set_cons_zero, List.set_cons_succ, i64_w, i32_w]; rfl)
                refine pure_ (i:=5) (N:=some 29) (v:=?_) (a' := ?_) (bb5 10 63) rfl rfl (any_of HT_.out (by kernel_rfl)) (fun _ _ _ h => h) (Or.inl ⟨by rfl, ?_⟩) ?_ ?_
                rotate_left
                · (intro w'; go_simp; with_reducible rfl)
                rotate_left
                · (simp only [Act.put, List.setIfInBounds_toArray, List.set_cons_zero, List.set_cons_succ, i64_w, i32_w]; rfl)
                refine pure_ (i:=6) (N:=some 30) (v:=?_) (a' := ?_) (bb5 10 127) rfl rfl (any_of HT_.out (by kernel_rfl)) (fun _ _ _ h => h) (Or.inl ⟨by rfl, ?_⟩) ?_ ?_
                rotate_left
                · (intro w'; go_simp; with_reducible rfl)
                rotate_left
                · (simp only [Act.put, List.setIfInBounds_toArray, List.set_cons_zero, List.set_cons_succ, i64_w, i32_w]; rfl)
                refine one_ (i:=7) (N:=some 4) (bb5 10 255) rfl rfl (one_of HT_.out (by kernel_rfl)) (by decide) (fun K hK => ?_)
                refine value_ (v:=.pointer (some ⟨wd.heap.size, 0, none⟩)) (w1:=wd.alloc (.cells #[.slice none 0 0, .slice none 0 0, .slice none 0 0, .slice none 0 0] 24)) (by rfl) rfl ?_ ?_
                · first | (go_simp; done) | (go_simp; rfl) | (go_simp; exact ⟨rfl, rfl⟩)
                have HK : Aside0 (Stay (fun V => Blk V wd.heap.size #[.slice none 0 0, .slice none 0 0, .slice none 0 0, .slice none 0 0] 24) (wd.alloc (.cells #[.slice none 0 0, .slice none 0 0, .slice none 0 0, .slice none 0 0] 24))) := ⟨stay_blk (blk_new wd _)⟩
                replace HE := Aside0.mk (HE.out.alloc (.cells #[.slice none 0 0, .slice none 0 0, .slice none 0 0, .slice none 0 0] 24))
                replace HG := Aside0.mk (HG.out.alloc (.cells #[.slice none 0 0, .slice none 0 0, .slice none 0 0, .slice none 0 0] 24))
                refine hK.out _ _ (Blk.c4 HE.out.now.k) (fun hHeld => ?_)
                clear hK K
                refine norm_ (a' := ?_) ?_ ?_
                rotate_left
                · (show Act.put _ (some 4) _ = _; simp only [Act.put, List.setIfInBounds_toArray, List.set_cons_zero, List.set_cons_succ, i64_w, i32_w]; rfl)
                exact norm_ (by first | (simp only [putAll, Act.put, List.setIfInBounds_toArray, List.set_cons_zero, List.set_cons_succ]; done) | (simp only [putAll, Act.put, List.setIfInBounds_toArray, List.set_cons_zero, List.set_cons_succ]; rfl)) (hCont (wd.heap.size, s1, (a0, a1, a2, a3), x) _ ⟨HE.out.now, (by have := HB3.out.size; have := HE0.out.now.b.size; simp only [World.size_alloc] at *; omega), (by simp only [World.size_alloc] at *; omega), HK.out.now, HG.out.now⟩)
              · skip
                refine value_ (v:=.pointer (some ⟨wc.heap.size, 0, none⟩)) (w1:=wc.alloc (.cells #[.slice none 0 0, .slice none 0 0, .slice none 0 0, .slice none 0 0] 24)) (by rfl) rfl ?_ ?_
                · first | (go_simp; done) | (go_simp; rfl) | (go_simp; exact ⟨rfl, rfl⟩)
                have HK : Aside0 (Stay (fun V => Blk V wc.heap.size #[.slice none 0 0, .slice none 0 0, .slice none 0 0, .slice none 0 0] 24) (wc.alloc (.cells #[.slice none 0 0, .slice none 0 0, .slice none 0 0, .slice none 0 0] 24))) := ⟨stay_blk (blk_new wc _)⟩
                replace HE := Aside0.mk (HE.out.alloc (.cells #[.slice none 0 0, .slice none 0 0, .slice none 0 0, .slice none 0 0] 24))
                replace H1 := Aside0.mk (H1.out.alloc (.cells #[.slice none 0 0, .slice none 0 0, .slice none 0 0, .slice none 0 0] 24))
                refine hK.out _ _ (Blk.c4 HE.out.now.k) (fun hHeld => ?_)
                clear hK K
                refine norm_ (a' := ?_) ?_ ?_
                rotate_left
                · (show Act.put _ (some 4) _ = _; simp only [Act.put, List.setIfInBounds_toArray, List.set_cons_zero, List.set_cons_succ, i64_w, i32_w]; rfl)
                refine one_ (i:=3) (N:=some 28) (bb5 10 143) rfl rfl (one_of HT_.out (by kernel_rfl)) (by decide) (fun K hK => ?_)
                refine goes_ Try.func12 (by kernel_rfl) rfl #[.agg #[.slice sA sn sc, .slice none 0 0, .slice none 0 0, .slice none 0 0], s1] (by rfl) rfl rfl (by (try simp only [List.map_toArray, List.map_cons, List.map_nil]); first | done | rfl) ?_
                refine (c12 HE.out.now.all H1.out.now).mono ?_
                rintro e wd ⟨a0, a1, a2, a3, x, rfl, ga, hb⟩
                refine ⟨_, rfl, ?_⟩
                have hbs_wd := hb.size
                replace HE := Aside0.mk (HE.out.step hb)
                have HG : Aside0 (Stay (fun V => G4 V a0 a1 a2 a3) wd) := ⟨⟨fun V hV => ga.below hV⟩⟩
                replace HK := Aside0.mk (HK.out.step hb)
                refine hK.out _ _ (Blk.c4 HE.out.now.k) (fun hHeld => ?_)
                clear hK K
                refine norm_ (a' := ?_) ?_ ?_
                rotate_left
                · (show Act.put _ (some 28) _ = _; simp only [Act.put, List.setIfInBounds_toArray, List.set_cons_zero, List.set_cons_succ, i64_w, i32_w]; rfl)
                refine pure_ (i:=4) (N:=some 24) (v:=?_) (a' := ?_) (bb5 10 159) rfl rfl (any_of HT_.out (by kernel_rfl)) (fun _ _ _ h => h) (Or.inl ⟨by rfl, ?_⟩) ?_ ?_
                rotate_left
                · (intro w'; go_simp; with_reducible rfl)
                rotate_left
                · (simp only [Act.put, List.setIfInBounds_toArray, List.set_cons_zero, List.set_cons_succ, i64_w, i32_w]; rfl)
                refine pure_ (i:=5) (N:=some 29) (v:=?_) (a' := ?_) (bb5 10 191) rfl rfl (any_of HT_.out (by kernel_rfl)) (fun _ _ _ h => h) (Or.inl ⟨by rfl, ?_⟩) ?_ ?_
                rotate_left
                · (intro w'; go_simp; with_reducible rfl)
                rotate_left
                · (simp only [Act.put, List.setIfInBounds_toArray, List.set_cons_zero, List.set_cons_succ, i64_w, i32_w]; rfl)
                refine pure_ (i:=6) (N:=some 30) (v:=?_) (a' := ?_) (bb5 10 255) rfl rfl (any_of HT_.out (by kernel_rfl)) (fun _ _ _ h => h) (Or.inl ⟨by rfl, ?_⟩) ?_ ?_
                rotate_left
                · (intro w'; go_simp; with_reducible rfl)
                rotate_left
                · (simp only [Act.put, List.setIfInBounds_toArray, List.set_cons_zero, List.set_cons_succ, i64_w, i32_w]; rfl)
                exact norm_ (by first | (simp only [putAll, Act.put, List.setIfInBounds_toArray, List.set_cons_zero, List.set_cons_succ]; done) | (simp only [putAll, Act.put, List.setIfInBounds_toArray, List.set_cons_zero, List.set_cons_succ]; rfl)) (hCont (wc.heap.size, s1, (a0, a1, a2, a3), x) _ ⟨HE.out.now, (by have := HB3.out.size; have := HE0.out.now.b.size; simp only [World.size_alloc] at *; omega), (by simp only [World.size_alloc] at *; omega), HK.out.now, HG.out.now⟩)
            · skip
              refine value_ (v:=.pointer (some ⟨w9.heap.size, 0, none⟩)) (w1:=w9.alloc (.cells #[.slice none 0 0, .slice none 0 0, .slice none 0 0, .slice none 0 0] 24)) (by rfl) rfl ?_ ?_
              · first | (go_simp; done) | (go_simp; rfl) | (go_simp; exact ⟨rfl, rfl⟩)
              have HK : Aside0 (Stay (fun V => Blk V w9.heap.size #[.slice none 0 0, .slice none 0 0, .slice none 0 0, .slice none 0 0] 24) (w9.alloc (.cells #[.slice none 0 0, .slice none 0 0, .slice none 0 0, .slice none 0 0] 24))) := ⟨stay_blk (blk_new w9 _)⟩
              replace HE := Aside0.mk (HE.out.alloc (.cells #[.slice none 0 0, .slice none 0 0, .slice none 0 0, .slice none 0 0] 24))
              refine hK.out _ _ (Blk.c4 HE.out.now.k) (fun hHeld => ?_)
              clear hK K
              refine norm_ (a' := ?_) ?_ ?_
              rotate_left
              · (show Act.put _ (some 4) _ = _; simp only [Act.put, List.setIfInBounds_toArray, List.set_cons_zero, List.set_cons_succ, i64_w, i32_w]; rfl)
              refine one_ (i:=2) (N:=some 27) (bb5 10 135) rfl rfl (one_of HT_.out (by kernel_rfl)) (by decide) (fun K hK => ?_)
              refine goes_ Try.func32 (by kernel_rfl) rfl #[.int .i64 u] (by rfl) rfl rfl (by (try simp only [List.map_toArray, List.map_cons, List.map_nil]); first | done | rfl) ?_
              refine (c32 _ _).mono ?_
              rintro e wc ⟨s1, rfl, hg, hb⟩
              refine ⟨_, rfl, ?_⟩
              have hbs_wc := hb.size
              replace HE := Aside0.mk (HE.out.step hb)
              have H1 : Aside0 (Stay (fun V => G V s1) wc) := ⟨⟨fun V hV => hg.below hV⟩⟩
              replace HK := Aside0.mk (HK.out.step hb)
              refine hK.out _ _ (Blk.c4 HE.out.now.k) (fun hHeld => ?_)
              clear hK K
              refine norm_ (a' := ?_) ?_ ?_
              rotate_left
              · (show Act.put _ (some 27) _ = _; simp only [Act.put, List.setIfInBounds_toArray, List.set_cons_zero, List.set_cons_succ, i64_w, i32_w]; rfl)
              refine one_ (i:=3) (N:=some 28) (bb5 10 143) rfl rfl (one_of HT_.out (by kernel_rfl)) (by decide) (fun K hK => ?_)
              refine goes_ Try.func12 (by kernel_rfl) rfl #[.agg #[.slice sA sn sc, .slice none 0 0, .slice none 0 0, .slice none 0 0], s1] (by rfl) rfl rfl (by (try simp only [List.map_toArray, List.map_cons, List.map_nil]); first | done | rfl) ?_
              refine (c12 HE.out.now.all H1.out.now).mono ?_
              rintro e wd ⟨a0, a1, a2, a3, x, rfl, ga, hb⟩
              refine ⟨_, rfl, ?_⟩
              have hbs_wd := hb.size
              replace HE := Aside0.mk (HE.out.step hb)
              have HG : Aside0 (Stay (fun V => G4 V a0 a1 a2 a3) wd) := ⟨⟨fun V hV => ga.below hV⟩⟩
              replace HK := Aside0.mk (HK.out.step hb)
              refine hK.out _ _ (Blk.c4 HE.out.now.k) (fun hHeld => ?_)
              clear hK K
              refine norm_ (a' := ?_) ?_ ?_
              rotate_left
              · (show Act.put _ (some 28) _ = _; simp only [Act.put, List.setIfInBounds_toArray, List.set_cons_zero, List.set_cons_succ, i64_w, i32_w]; rfl)
              refine pure_ (i:=4) (N:=some 24) (v:=?_) (a' := ?_) (bb5 10 159) rfl rfl (any_of HT_.out (by kernel_rfl)) (fun _ _ _ h => h) (Or.inl ⟨by rfl, ?_⟩) ?_ ?_
              rotate_left
              · (intro w'; go_simp; with_reducible rfl)
              rotate_left
              · (simp only [Act.put, List.setIfInBounds_toArray, List.set_cons_zero, List.set_cons_succ, i64_w, i32_w]; rfl)
              refine pure_ (i:=5) (N:=some 29) (v:=?_) (a' := ?_) (bb5 10 191) rfl rfl (any_of HT_.out (by kernel_rfl)) (fun _ _ _ h => h) (Or.inl ⟨by rfl, ?_⟩) ?_ ?_
              rotate_left
              · (intro w'; go_simp; with_reducible rfl)
              rotate_left
              · (simp only [Act.put, List.setIfInBounds_toArray, List.set_cons_zero, List.set_cons_succ, i64_w, i32_w]; rfl)
              refine pure_ (i:=6) (N:=some 30) (v:=?_) (a' := ?_) (bb5 10 255) rfl rfl (any_of HT_.out (by kernel_rfl)) (fun _ _ _ h => h) (Or.inl ⟨by rfl, ?_⟩) ?_ ?_
              rotate_left
              · (intro w'; go_simp; with_reducible rfl)
              rotate_left
              · (simp only [Act.put, List.setIfInBounds_toArray, List.set_cons_zero, List.set_cons_succ, i64_w, i32_w]; rfl)
              exact norm_ (by first | (simp only [putAll, Act.put, List.setIfInBounds_toArray, List.set_cons_zero, List.set_cons_succ]; done) | (simp only [putAll, Act.put, List.setIfInBounds_toArray, List.set_cons_zero, List.set_cons_succ]; rfl)) (hCont (w9.heap.size, s1, (a0, a1, a2, a3), x) _ ⟨HE.out.now, (by have := HB3.out.size; have := HE0.out.now.b.size; simp only [World.size_alloc] at *; omega), (by simp only [World.size_alloc] at *; omega), HK.out.now, HG.out.now⟩)
          rintro ⟨g4, s1, ⟨a0, a1, a2, a3⟩, x⟩ wd hF
          refine norm_ (a' := ?_) ?_ ?_
          rotate_left
          · simp only [putAll, Act.put, List.setIfInBounds_toArray, List.set_cons_zero, List.set_cons_succ]
            rfl
          dsimp only at hF
          obtain ⟨aA0, an0, ac0, rfl⟩ := hF.ga.g0.form
          obtain ⟨aA1, an1, ac1, rfl⟩ := hF.ga.g1.form
          obtain ⟨aA2, an2, ac2, rfl⟩ := hF.ga.g2.form
          obtain ⟨aA3, an3, ac3, rfl⟩ := hF.ga.g3.form
          have H2 := Aside0.mk hF.put
          obtain ⟨z0, z1, z2, z3⟩ := Blk.c4 hF.k4
          have hfr := blk_frozen hF.k4
          clear hF HE
          refine one_ (i:=8) (N:=none) (bb5 10 511) rfl rfl (one_of HT_.out (by kernel_rfl)) (by decide) (fun K hK => ?_)
          refine skip_ (w1:=?_) (by rfl) rfl ?_ ?_
          rotate_left
          · (go_simp; rfl)
          obtain ⟨we, hwe⟩ : ∃ we, we = ((((wd.setCell ⟨g4, 0, none⟩ (.slice aA0 an0 ac0)).setCell ⟨g4, 1, none⟩ (.slice aA1 an1 ac1)).setCell ⟨g4, 2, none⟩ (.slice aA2 an2 ac2)).setCell ⟨g4, 3, none⟩ (.slice aA3 an3 ac3)) := ⟨_, rfl⟩
          rw [← hwe] at H2 ⊢
          clear hwe
          refine hK.out _ _ (Blk.c4 H2.out.now.e.k) (fun hHeld => ?_)
          clear hK K
          refine pure_ (i:=9) (N:=some 5) (v:=?_) (a' := ?_) (bb5 10 1023) rfl rfl (any_of HT_.out (by kernel_rfl)) (fun _ _ _ h => h) (Or.inl ⟨by rfl, ?_⟩) ?_ ?_
          rotate_left
          · (intro w'; go_simp; with_reducible rfl)
          rotate_left
          · (simp only [Act.put, List.setIfInBounds_toArray, List.set_cons_zero, List.set_cons_succ, i64_w, i32_w]; rfl)
          refine done_ (done_of HT_.out (by kernel_rfl)) ?_
          clear hHeld HT_ HW_ z0 z1 z2 z3 hfr hs9
          obtain ⟨k40, k41, k42, k43⟩ := Blk.c4 H2.out.now.k4
          go_wp2_with (go_at_call 11; (with_reducible refine (c11 H2.out.now.ga).mono ?_); rintro e wf ⟨p0, p1, p2, p3, y, rfl, gp, hb⟩; obtain ⟨pA0, pn0, pc0, rfl⟩ := gp.g0.form; obtain ⟨pA1, pn1, pc1, rfl⟩ := gp.g1.form; obtain ⟨pA2, pn2, pc2, rfl⟩ := gp.g2.form; obtain ⟨pA3, pn3, pc3, rfl⟩ := gp.g3.form; have H3 : Aside0 (Stay (E3 w wb.heap.size (.slice sA sn sc) g4 (.slice aA0 an0 ac0) (.slice aA1 an1 ac1) (.slice aA2 an2 ac2) (.slice aA3 an3 ac3) wf.heap.size (.slice pA0 pn0 pc0) (.slice pA1 pn1 pc1) (.slice pA2 pn2 pc2) (.slice pA3 pn3 pc3)) (wf.alloc (.cells #[.slice pA0 pn0 pc0, .slice pA1 pn1 pc1, .slice pA2 pn2 pc2, .slice pA3 pn3 pc3] 24))) := ⟨⟨fun V hV => by (have h1 : Below wf.heap.size wf (wf.alloc (.cells #[.slice pA0 pn0 pc0, .slice pA1 pn1 pc1, .slice pA2 pn2 pc2, .slice pA3 pn3 pc3] 24)) := below_alloc (Below.refl _ _) _; exact ⟨(H2.out.step hb).out V (below_tr h1 hV), (stay_blk (blk_new wf _)).out V hV, gp.below (below_tr h1 hV)⟩)⟩⟩; clear gp hb H2)
          clear k40 k41 k42 k43
          refine start_ (n:=22) (S:=fun w' => C4 w' wb.heap.size (.slice sA sn sc) (.slice none 0 0) (.slice none 0 0) (.slice none 0 0) ∧ C4 w' g4 (.slice aA0 an0 ac0) (.slice aA1 an1 ac1) (.slice aA2 an2 ac2) (.slice aA3 an3 ac3) ∧ C4 w' wf.heap.size (.slice pA0 pn0 pc0) (.slice pA1 pn1 pc1) (.slice pA2 pn2 pc2) (.slice pA3 pn3 pc3)) (ds:=[]) (bb5 22 0) (by kernel_rfl) rfl rfl ⟨Blk.c4 H3.out.now.e.e.k, Blk.c4 H3.out.now.e.k4, Blk.c4 H3.out.now.k6⟩ (fun hHeld => ?_); refine with_tabW qa.tab12 qa.bits12 (fun HT_ HW_ => ?_)
          replace H3 := Aside0.mk H3.out.drew
          generalize (wf.alloc (.cells #[.slice pA0 pn0 pc0, .slice pA1 pn1 pc1, .slice pA2 pn2 pc2, .slice pA3 pn3 pc3] 24)).drew = wg at H3 hHeld ⊢
          refine take_ (i:=0) (N:=some 36) (v:=?_) (a' := ?_) (bb5 22 1) rfl rfl (take_ofW HT_.out HW_.out (by kernel_rfl)) (fun _ _ _ h => h) (Or.inl ⟨by rfl, ?_⟩) hHeld ?_ ?_
          rotate_left
          · (rintro w' ⟨⟨e0, e1, e2, e3⟩, ⟨e4, e5, e6, e7⟩, ⟨e8, e9, e10, e11⟩⟩; go_simp; with_reducible rfl)
          rotate_left
          · (simp only [Act.put, List.setIfInBounds_toArray, List.set_cons_zero, List.set_cons_succ, i64_w, i32_w]; rfl)
          refine take_ (i:=1) (N:=some 37) (v:=?_) (a' := ?_) (bb5 22 3) rfl rfl (take_ofW HT_.out HW_.out (by kernel_rfl)) (fun _ _ _ h => h) (Or.inl ⟨by rfl, ?_⟩) hHeld ?_ ?_
          rotate_left
          · (rintro w' ⟨⟨e0, e1, e2, e3⟩, ⟨e4, e5, e6, e7⟩, ⟨e8, e9, e10, e11⟩⟩; go_simp; with_reducible rfl)
          rotate_left
          · (simp only [Act.put, List.setIfInBounds_toArray, List.set_cons_zero, List.set_cons_succ, i64_w, i32_w]; rfl)
          refine take_ (i:=2) (N:=some 38) (v:=?_) (a' := ?_) (bb5 22 7) rfl rfl (take_ofW HT_.out HW_.out (by kernel_rfl)) (fun _ _ _ h => h) (Or.inl ⟨by rfl, ?_⟩) hHeld ?_ ?_
          rotate_left
          · (rintro w' ⟨⟨e0, e1, e2, e3⟩, ⟨e4, e5, e6, e7⟩, ⟨e8, e9, e10, e11⟩⟩; go_simp; with_reducible rfl)
          rotate_left
          · (simp only [Act.put, List.setIfInBounds_toArray, List.set_cons_zero, List.set_cons_succ, i64_w, i32_w]; rfl)
          refine pure_ (i:=3) (N:=some 39) (v:=?_) (a' := ?_) (bb5 22 15) rfl rfl (any_of HT_.out (by kernel_rfl)) (fun _ _ _ h => h) (Or.inl ⟨by rfl, ?_⟩) ?_ ?_
          rotate_left
          · (intro w'; go_simp; with_reducible rfl)
          rotate_left
          · (simp only [Act.put, List.setIfInBounds_toArray, List.set_cons_zero, List.set_cons_succ, i64_w, i32_w]; rfl)
          refine pure_ (i:=5) (N:=some 41) (v:=?_) (a' := ?_) (bb5 22 47) rfl rfl (any_of HT_.out (by kernel_rfl)) (fun _ _ _ h => h) (Or.inl ⟨by rfl, ?_⟩) ?_ ?_
          rotate_left
          · (intro w'; go_simp; with_reducible rfl)
          rotate_left
          · (simp only [Act.put, List.setIfInBounds_toArray, List.set_cons_zero, List.set_cons_succ, i64_w, i32_w]; rfl)
          refine pure_ (i:=7) (N:=some 43) (v:=?_) (a' := ?_) (bb5 22 175) rfl rfl (any_of HT_.out (by kernel_rfl)) (fun _ _ _ h => h) (Or.inl ⟨by rfl, ?_⟩) ?_ ?_
          rotate_left
          · (intro w'; go_simp; with_reducible rfl)
          rotate_left
          · (simp only [Act.put, List.setIfInBounds_toArray, List.set_cons_zero, List.set_cons_succ, i64_w, i32_w]; rfl)
          refine pure_ (i:=10) (N:=some 46) (v:=?_) (a' := ?_) (bb5 22 1199) rfl rfl (any_of HT_.out (by kernel_rfl)) (fun _ _ _ h => h) (Or.inl ⟨by rfl, ?_⟩) ?_ ?_
          rotate_left
          · (intro w'; go_simp; with_reducible rfl)
          rotate_left
          · (simp only [Act.put, List.setIfInBounds_toArray, List.set_cons_zero, List.set_cons_succ, i64_w, i32_w]; rfl)
          refine pure_ (i:=12) (N:=some 48) (v:=?_) (a' := ?_) (bb5 22 5295) rfl rfl (any_of HT_.out (by kernel_rfl)) (fun _ _ _ h => h) (Or.inl ⟨by rfl, ?_⟩) ?_ ?_
          rotate_left
          · (intro w'; go_simp; with_reducible rfl)
          rotate_left
          · (simp only [Act.put, List.setIfInBounds_toArray, List.set_cons_zero, List.set_cons_succ, i64_w, i32_w]; rfl)
          refine pure_ (i:=15) (N:=some 51) (v:=?_) (a' := ?_) (bb5 22 38063) rfl rfl (any_of HT_.out (by kernel_rfl)) (fun _ _ _ h => h) (Or.inl ⟨by rfl, ?_⟩) ?_ ?_
          rotate_left
          · (intro w'; go_simp; with_reducible rfl)
          rotate_left
          · (simp only [Act.put, List.setIfInBounds_toArray, List.set_cons_zero, List.set_cons_succ, i64_w, i32_w]; rfl)
          refine pure_ (i:=17) (N:=some 53) (v:=?_) (a' := ?_) (bb5 22 169135) rfl rfl (any_of HT_.out (by kernel_rfl)) (fun _ _ _ h => h) (Or.inl ⟨by rfl, ?_⟩) ?_ ?_
          rotate_left
          · (intro w'; go_simp; with_reducible rfl)
          rotate_left
          · (simp only [Act.put, List.setIfInBounds_toArray, List.set_cons_zero, List.set_cons_succ, i64_w, i32_w]; rfl)
          refine one_ (i:=4) (N:=some 40) (bb5 22 169151) rfl rfl (one_of HT_.out (by kernel_rfl)) (by decide) (fun K hK => ?_)
          refine goes_ Try.func32 (by kernel_rfl) rfl #[.int .i64 v] (by rfl) rfl rfl (by (try simp only [List.map_toArray, List.map_cons, List.map_nil]); first | done | rfl) ?_
          refine (c32 _ _).mono ?_
          rintro e wh0 ⟨s1, rfl, hg, hb⟩
          obtain ⟨rA0, rn0, rc0, rfl⟩ := hg.form
          refine ⟨_, rfl, ?_⟩
          replace H3 := Aside0.mk ((H3.out.step hb).and (⟨fun V hV => hg.below hV⟩ : Stay (fun V => G V (.slice rA0 rn0 rc0)) wh0))
          clear hg hb
          refine hK.out _ _ ⟨Blk.c4 H3.out.now.1.e.e.k, Blk.c4 H3.out.now.1.e.k4, Blk.c4 H3.out.now.1.k6⟩ (fun hHeld => ?_)
          clear hK K
          refine norm_ (a' := ?_) ?_ ?_
          rotate_left
          · (show Act.put _ (some 40) _ = _; simp only [Act.put, List.setIfInBounds_toArray, List.set_cons_zero, List.set_cons_succ, i64_w, i32_w]; rfl)
          refine one_ (i:=6) (N:=some 42) (bb5 22 169215) rfl rfl (one_of HT_.out (by kernel_rfl)) (by decide) (fun K hK => ?_)
          refine goes_ Try.func32 (by kernel_rfl) rfl #[.int .i64 u] (by rfl) rfl rfl (by (try simp only [List.map_toArray, List.map_cons, List.map_nil]); first | done | rfl) ?_
          refine (c32 _ _).mono ?_
          rintro e wh1 ⟨s1, rfl, hg, hb⟩
          obtain ⟨rA1, rn1, rc1, rfl⟩ := hg.form
          refine ⟨_, rfl, ?_⟩
          replace H3 := Aside0.mk ((H3.out.step hb).and (⟨fun V hV => hg.below hV⟩ : Stay (fun V => G V (.slice rA1 rn1 rc1)) wh1))
          clear hg hb
          refine hK.out _ _ ⟨Blk.c4 H3.out.now.1.1.e.e.k, Blk.c4 H3.out.now.1.1.e.k4, Blk.c4 H3.out.now.1.1.k6⟩ (fun hHeld => ?_)
          clear hK K
          refine norm_ (a' := ?_) ?_ ?_
          rotate_left
          · (show Act.put _ (some 42) _ = _; simp only [Act.put, List.setIfInBounds_toArray, List.set_cons_zero, List.set_cons_succ, i64_w, i32_w]; rfl)
          refine one_ (i:=8) (N:=some 44) (bb5 22 169471) rfl rfl (one_of HT_.out (by kernel_rfl)) (by decide) (fun K hK => ?_)
          refine goes_ Try.func32 (by kernel_rfl) rfl #[.int .i64 v] (by rfl) rfl rfl (by (try simp only [List.map_toArray, List.map_cons, List.map_nil]); first | done | rfl) ?_
          refine (c32 _ _).mono ?_
          rintro e wh2 ⟨s1, rfl, hg, hb⟩
          obtain ⟨rA2, rn2, rc2, rfl⟩ := hg.form
          refine ⟨_, rfl, ?_⟩
          replace H3 := Aside0.mk ((H3.out.step hb).and (⟨fun V hV => hg.below hV⟩ : Stay (fun V => G V (.slice rA2 rn2 rc2)) wh2))
          clear hg hb
          refine hK.out _ _ ⟨Blk.c4 H3.out.now.1.1.1.e.e.k, Blk.c4 H3.out.now.1.1.1.e.k4, Blk.c4 H3.out.now.1.1.1.k6⟩ (fun hHeld => ?_)
          clear hK K
          refine norm_ (a' := ?_) ?_ ?_
          rotate_left
          · (show Act.put _ (some 44) _ = _; simp only [Act.put, List.setIfInBounds_toArray, List.set_cons_zero, List.set_cons_succ, i64_w, i32_w]; rfl)
          refine pure_ (i:=9) (N:=some 45) (v:=?_) (a' := ?_) (bb5 22 169983) rfl rfl (any_of HT_.out (by kernel_rfl)) (fun _ _ _ h => h) (Or.inl ⟨by rfl, ?_⟩) ?_ ?_
          rotate_left
          · (intro w'; go_simp; with_reducible rfl)
          rotate_left
          · (simp only [Act.put, List.setIfInBounds_toArray, List.set_cons_zero, List.set_cons_succ, i64_w, i32_w]; rfl)
          refine one_ (i:=11) (N:=some 47) (bb5 22 172031) rfl rfl (one_of HT_.out (by kernel_rfl)) (by decide) (fun K hK => ?_)
          refine goes_ Try.func32 (by kernel_rfl) rfl #[.int .i64 v] (by rfl) rfl rfl (by (try simp only [List.map_toArray, List.map_cons, List.map_nil]); first | done | rfl) ?_
          refine (c32 _ _).mono ?_
          rintro e wh3 ⟨s1, rfl, hg, hb⟩
          obtain ⟨rA3, rn3, rc3, rfl⟩ := hg.form
          refine ⟨_, rfl, ?_⟩
          replace H3 := Aside0.mk ((H3.out.step hb).and (⟨fun V hV => hg.below hV⟩ : Stay (fun V => G V (.slice rA3 rn3 rc3)) wh3))
          clear hg hb
          refine hK.out _ _ ⟨Blk.c4 H3.out.now.1.1.1.1.e.e.k, Blk.c4 H3.out.now.1.1.1.1.e.k4, Blk.c4 H3.out.now.1.1.1.1.k6⟩ (fun hHeld => ?_)
          clear hK K
          refine norm_ (a' := ?_) ?_ ?_
          rotate_left
          · (show Act.put _ (some 47) _ = _; simp only [Act.put, List.setIfInBounds_toArray, List.set_cons_zero, List.set_cons_succ, i64_w, i32_w]; rfl)
          refine one_ (i:=13) (N:=some 49) (bb5 22 180223) rfl rfl (one_of HT_.out (by kernel_rfl)) (by decide) (fun K hK => ?_)
          refine goes_ Try.func32 (by kernel_rfl) rfl #[.int .i64 u] (by rfl) rfl rfl (by (try simp only [List.map_toArray, List.map_cons, List.map_nil]); first | done | rfl) ?_
          refine (c32 _ _).mono ?_
          rintro e wh4 ⟨s1, rfl, hg, hb⟩
          obtain ⟨rA4, rn4, rc4, rfl⟩ := hg.form
          refine ⟨_, rfl, ?_⟩
          replace H3 := Aside0.mk ((H3.out.step hb).and (⟨fun V hV => hg.below hV⟩ : Stay (fun V => G V (.slice rA4 rn4 rc4)) wh4))
          clear hg hb
          refine hK.out _ _ ⟨Blk.c4 H3.out.now.1.1.1.1.1.e.e.k, Blk.c4 H3.out.now.1.1.1.1.1.e.k4, Blk.c4 H3.out.now.1.1.1.1.1.k6⟩ (fun hHeld => ?_)
          clear hK K
          refine norm_ (a' := ?_) ?_ ?_
          rotate_left
          · (show Act.put _ (some 49) _ = _; simp only [Act.put, List.setIfInBounds_toArray, List.set_cons_zero, List.set_cons_succ, i64_w, i32_w]; rfl)
          refine pure_ (i:=14) (N:=some 50) (v:=?_) (a' := ?_) (bb5 22 196607) rfl rfl (any_of HT_.out (by kernel_rfl)) (fun _ _ _ h => h) (Or.inl ⟨by rfl, ?_⟩) ?_ ?_
          rotate_left
          · (intro w'; go_simp; with_reducible rfl)
          rotate_left
          · (simp only [Act.put, List.setIfInBounds_toArray, List.set_cons_zero, List.set_cons_succ, i64_w, i32_w]; rfl)
          refine one_ (i:=16) (N:=some 52) (bb5 22 262143) rfl rfl (one_of HT_.out (by kernel_rfl)) (by decide) (fun K hK => ?_)
          refine goes_ Try.func32 (by kernel_rfl) rfl #[.int .i64 v] (by rfl) rfl rfl (by (try simp only [List.map_toArray, List.map_cons, List.map_nil]); first | done | rfl) ?_
          refine (c32 _ _).mono ?_
          rintro e wh5 ⟨s1, rfl, hg, hb⟩
          obtain ⟨rA5, rn5, rc5, rfl⟩ := hg.form
          refine ⟨_, rfl, ?_⟩
          replace H3 := Aside0.mk ((H3.out.step hb).and (⟨fun V hV => hg.below hV⟩ : Stay (fun V => G V (.slice rA5 rn5 rc5)) wh5))
          clear hg hb
          refine hK.out _ _ ⟨Blk.c4 H3.out.now.1.1.1.1.1.1.e.e.k, Blk.c4 H3.out.now.1.1.1.1.1.1.e.k4, Blk.c4 H3.out.now.1.1.1.1.1.1.k6⟩ (fun hHeld => ?_)
          clear hK K
          refine norm_ (a' := ?_) ?_ ?_
          rotate_left
          · (show Act.put _ (some 52) _ = _; simp only [Act.put, List.setIfInBounds_toArray, List.set_cons_zero, List.set_cons_succ, i64_w, i32_w]; rfl)
          refine one_ (i:=18) (N:=some 54) (bb5 22 524287) rfl rfl (one_of HT_.out (by kernel_rfl)) (by decide) (fun K hK => ?_)
          refine goes_ Try.func32 (by kernel_rfl) rfl #[.int .i64 u] (by rfl) rfl rfl (by (try simp only [List.map_toArray, List.map_cons, List.map_nil]); first | done | rfl) ?_
          refine (c32 _ _).mono ?_
          rintro e wh6 ⟨s1, rfl, hg, hb⟩
          obtain ⟨rA6, rn6, rc6, rfl⟩ := hg.form
          refine ⟨_, rfl, ?_⟩
          replace H3 := Aside0.mk ((H3.out.step hb).and (⟨fun V hV => hg.below hV⟩ : Stay (fun V => G V (.slice rA6 rn6 rc6)) wh6))
          clear hg hb
          refine hK.out _ _ ⟨Blk.c4 H3.out.now.1.1.1.1.1.1.1.e.e.k, Blk.c4 H3.out.now.1.1.1.1.1.1.1.e.k4, Blk.c4 H3.out.now.1.1.1.1.1.1.1.k6⟩ (fun hHeld => ?_)
          clear hK K
          refine norm_ (a' := ?_) ?_ ?_
          rotate_left
          · (show Act.put _ (some 54) _ = _; simp only [Act.put, List.setIfInBounds_toArray, List.set_cons_zero, List.set_cons_succ, i64_w, i32_w]; rfl)
          refine pure_ (i:=19) (N:=some 55) (v:=?_) (a' := ?_) (bb5 22 1048575) rfl rfl (any_of HT_.out (by kernel_rfl)) (fun _ _ _ h => h) (Or.inl ⟨by rfl, ?_⟩) ?_ ?_
          rotate_left
          · (intro w'; go_simp; with_reducible rfl)
          rotate_left
          · (simp only [Act.put, List.setIfInBounds_toArray, List.set_cons_zero, List.set_cons_succ, i64_w, i32_w]; rfl)
          refine one_ (i:=20) (N:=some 56) (bb5 22 2097151) rfl rfl (one_of HT_.out (by kernel_rfl)) (by decide) (fun K hK => ?_)
          refine value_ (v:=.slice (some ⟨wh6.heap.size, 0, none⟩) 6 6) (w1:=wh6.alloc (.cells #[.slice sA sn sc, .slice none 0 0, .slice none 0 0, .slice none 0 0, .slice aA0 an0 ac0, .slice aA1 an1 ac1, .slice aA2 an2 ac2, .slice aA3 an3 ac3, .slice pA0 pn0 pc0, .slice pA1 pn1 pc1, .slice pA2 pn2 pc2, .slice pA3 pn3 pc3, .slice rA0 rn0 rc0, .slice rA1 rn1 rc1, .slice none 0 0, .slice rA2 rn2 rc2, .slice rA3 rn3 rc3, .slice none 0 0, .slice rA4 rn4 rc4, .slice none 0 0, .slice rA5 rn5 rc5, .slice none 0 0, .slice none 0 0, .slice rA6 rn6 rc6] 24)) (by rfl) rfl ?_ ?_
          · first | (go_simp; done) | (go_simp; rfl) | (go_simp; exact ⟨rfl, rfl⟩)
          have H4 : Aside0 (Stay (E4 w wh6.heap.size (.slice sA sn sc) (.slice aA0 an0 ac0) (.slice aA1 an1 ac1) (.slice aA2 an2 ac2) (.slice aA3 an3 ac3) (.slice pA0 pn0 pc0) (.slice pA1 pn1 pc1) (.slice pA2 pn2 pc2) (.slice pA3 pn3 pc3) (.slice rA0 rn0 rc0) (.slice rA1 rn1 rc1) (.slice rA2 rn2 rc2) (.slice rA3 rn3 rc3) (.slice rA4 rn4 rc4) (.slice rA5 rn5 rc5) (.slice rA6 rn6 rc6)) (wh6.alloc (.cells #[.slice sA sn sc, .slice none 0 0, .slice none 0 0, .slice none 0 0, .slice aA0 an0 ac0, .slice aA1 an1 ac1, .slice aA2 an2 ac2, .slice aA3 an3 ac3, .slice pA0 pn0 pc0, .slice pA1 pn1 pc1, .slice pA2 pn2 pc2, .slice pA3 pn3 pc3, .slice rA0 rn0 rc0, .slice rA1 rn1 rc1, .slice none 0 0, .slice rA2 rn2 rc2, .slice rA3 rn3 rc3, .slice none 0 0, .slice rA4 rn4 rc4, .slice none 0 0, .slice rA5 rn5 rc5, .slice none 0 0, .slice none 0 0, .slice rA6 rn6 rc6] 24))) := ⟨⟨fun V hV => by (have h1 : Below wh6.heap.size wh6 (wh6.alloc (.cells #[.slice sA sn sc, .slice none 0 0, .slice none 0 0, .slice none 0 0, .slice aA0 an0 ac0, .slice aA1 an1 ac1, .slice aA2 an2 ac2, .slice aA3 an3 ac3, .slice pA0 pn0 pc0, .slice pA1 pn1 pc1, .slice pA2 pn2 pc2, .slice pA3 pn3 pc3, .slice rA0 rn0 rc0, .slice rA1 rn1 rc1, .slice none 0 0, .slice rA2 rn2 rc2, .slice rA3 rn3 rc3, .slice none 0 0, .slice rA4 rn4 rc4, .slice none 0 0, .slice rA5 rn5 rc5, .slice none 0 0, .slice none 0 0, .slice rA6 rn6 rc6] 24)) := below_alloc (Below.refl _ _) _; have h := H3.out.out V (below_tr h1 hV); exact ⟨h.1.1.1.1.1.1.1.e.e.b, (stay_blk (blk_new wh6 _)).out V hV, h.1.1.1.1.1.1.1.e.e.g0, h.1.1.1.1.1.1.1.e.ga, h.1.1.1.1.1.1.1.gp, h.1.1.1.1.1.1.2, h.1.1.1.1.1.2, h.1.1.1.1.2, h.1.1.1.2, h.1.1.2, h.1.2, h.2⟩)⟩⟩
          replace H3 := Aside0.mk (H3.out.alloc (.cells #[.slice sA sn sc, .slice none 0 0, .slice none 0 0, .slice none 0 0, .slice aA0 an0 ac0, .slice aA1 an1 ac1, .slice aA2 an2 ac2, .slice aA3 an3 ac3, .slice pA0 pn0 pc0, .slice pA1 pn1 pc1, .slice pA2 pn2 pc2, .slice pA3 pn3 pc3, .slice rA0 rn0 rc0, .slice rA1 rn1 rc1, .slice none 0 0, .slice rA2 rn2 rc2, .slice rA3 rn3 rc3, .slice none 0 0, .slice rA4 rn4 rc4, .slice none 0 0, .slice rA5 rn5 rc5, .slice none 0 0, .slice none 0 0, .slice rA6 rn6 rc6] 24))
          refine hK.out _ _ ⟨Blk.c4 H3.out.now.1.1.1.1.1.1.1.e.e.k, Blk.c4 H3.out.now.1.1.1.1.1.1.1.e.k4, Blk.c4 H3.out.now.1.1.1.1.1.1.1.k6⟩ (fun hHeld => ?_)
          clear hK K
          refine norm_ (a' := ?_) ?_ ?_
          rotate_left
          · (show Act.put _ (some 56) _ = _; simp only [Act.put, List.setIfInBounds_toArray, List.set_cons_zero, List.set_cons_succ, i64_w, i32_w]; rfl)
          refine pure_ (i:=21) (N:=some 8) (v:=?_) (a' := ?_) (bb5 22 4194303) rfl rfl (any_of HT_.out (by kernel_rfl)) (fun _ _ _ h => h) (Or.inl ⟨by rfl, ?_⟩) ?_ ?_
          rotate_left
          · (intro w'; go_simp; with_reducible rfl)
          rotate_left
          · (simp only [Act.put, List.setIfInBounds_toArray, List.set_cons_zero, List.set_cons_succ, i64_w, i32_w]; rfl)
          refine done_ (done_of HT_.out (by kernel_rfl)) ?_
          clear hHeld HT_ HW_ H3
          go_wp2
          go_loopw [9] (fun v9 w' => ∃ i : Nat, v9 = .int .i64 i ∧ i ≤ 6 ∧ Aside0 (Stay (E4 w wh6.heap.size (.slice sA sn sc) (.slice aA0 an0 ac0) (.slice aA1 an1 ac1) (.slice aA2 an2 ac2) (.slice aA3 an3 ac3) (.slice pA0 pn0 pc0) (.slice pA1 pn1 pc1) (.slice pA2 pn2 pc2) (.slice pA3 pn3 pc3) (.slice rA0 rn0 rc0) (.slice rA1 rn1 rc1) (.slice rA2 rn2 rc2) (.slice rA3 rn3 rc3) (.slice rA4 rn4 rc4) (.slice rA5 rn5 rc5) (.slice rA6 rn6 rc6)) w')) (fun v9 _ => 6 - (intOf v9).toNat)
          case atStart => exact ⟨0, rfl, by omega, H4⟩
          case round =>
            obtain ⟨i, rfl, hi, H5⟩ := hrel
            clear H4
            by_cases hli : i < 6
            · obtain rfl | rfl | rfl | rfl | rfl | rfl : i = 0 ∨ i = 1 ∨ i = 2 ∨ i = 3 ∨ i = 4 ∨ i = 5 := by omega
              · go_wp2
                go_loopw [10] (fun v10 w' => ∃ x : Nat, v10 = .int .i64 x ∧ x ≤ 21 ∧ Aside0 (Stay (E4 w wh6.heap.size (.slice sA sn sc) (.slice aA0 an0 ac0) (.slice aA1 an1 ac1) (.slice aA2 an2 ac2) (.slice aA3 an3 ac3) (.slice pA0 pn0 pc0) (.slice pA1 pn1 pc1) (.slice pA2 pn2 pc2) (.slice pA3 pn3 pc3) (.slice rA0 rn0 rc0) (.slice rA1 rn1 rc1) (.slice rA2 rn2 rc2) (.slice rA3 rn3 rc3) (.slice rA4 rn4 rc4) (.slice rA5 rn5 rc5) (.slice rA6 rn6 rc6)) w')) (fun v10 _ => 21 - (intOf v10).toNat)
                case atStart => exact ⟨0, rfl, by omega, H5⟩
                case round =>
                  obtain ⟨x9, rfl, hx, H6⟩ := hrel
                  clear H5
                  by_cases hlx : x9 < 16
                  · go_wp2
                    obtain ⟨wq, rfl⟩ : ∃ wq : World, wq = wr := ⟨_, rfl⟩
                    refine start_ (n:=15) (S:=fun w' => w'.cell? ⟨wh6.heap.size, 0, none⟩ = some (.slice sA sn sc) ∧ w'.cell? ⟨wh6.heap.size, 1, none⟩ = some (.slice none 0 0) ∧ w'.cell? ⟨wh6.heap.size, 2, none⟩ = some (.slice none 0 0) ∧ w'.cell? ⟨wh6.heap.size, 3, none⟩ = some (.slice none 0 0)) (ds:=[]) (bb5 15 0) (by kernel_rfl) rfl rfl ⟨Blk.cell H6.out.now.k8 0, Blk.cell H6.out.now.k8 1, Blk.cell H6.out.now.k8 2, Blk.cell H6.out.now.k8 3⟩ (fun hHeld => ?_); refine with_tabW qa.tab19 qa.bits19 (fun HT_ HW_ => ?_)
                    replace H6 := Aside0.mk H6.out.drew
                    generalize wr.drew = wz at H6 hHeld ⊢
                    refine pure_ (i:=0) (N:=some 70) (v:=?_) (a' := ?_) (bb5 15 1) rfl rfl (any_of HT_.out (by kernel_rfl)) (fun _ _ _ h => h) (Or.inl ⟨by rfl, ?_⟩) ?_ ?_
                    rotate_left
                    · (intro w'; go_simp; with_reducible rfl)
                    rotate_left
                    · (simp only [Act.put, List.setIfInBounds_toArray, List.set_cons_zero, List.set_cons_succ, i64_w, i32_w]; rfl)
                    refine pure_ (i:=1) (N:=some 71) (v:=?_) (a' := ?_) (bb5 15 3) rfl rfl (any_of HT_.out (by kernel_rfl)) (fun _ _ _ h => h) (Or.inl ⟨by rfl, ?_⟩) ?_ ?_
                    rotate_left
                    · (intro w'; go_simp; with_reducible rfl)
                    rotate_left
                    · (simp only [Act.put, List.setIfInBounds_toArray, List.set_cons_zero, List.set_cons_succ, i64_w, i32_w]; rfl)
                    refine pure_ (i:=2) (N:=some 72) (v:=?_) (a' := ?_) (bb5 15 7) rfl rfl (any_of HT_.out (by kernel_rfl)) (fun _ _ _ h => h) (Or.inl ⟨by rfl, ?_⟩) ?_ ?_
                    rotate_left
                    · (intro w'; go_simp; with_reducible rfl)
                    rotate_left
                    · (simp only [Act.put, List.setIfInBounds_toArray, List.set_cons_zero, List.set_cons_succ, i64_w, i32_w]; rfl)
                    refine take_ (i:=3) (N:=some 73) (v:=?_) (a' := ?_) (bb5 15 15) rfl rfl (take_ofW HT_.out HW_.out (by kernel_rfl)) (fun _ _ _ h => h) (Or.inl ⟨by rfl, ?_⟩) hHeld ?_ ?_
                    rotate_left
                    · (rintro w' ⟨e0, e1, e2, e3⟩; go_simp; with_reducible rfl)
                    rotate_left
                    · (simp only [Act.put, List.setIfInBounds_toArray, List.set_cons_zero, List.set_cons_succ, i64_w, i32_w]; rfl)
                    refine pure_ (i:=4) (N:=some 74) (v:=?_) (a' := ?_) (bb5 15 31) rfl rfl (any_of HT_.out (by kernel_rfl)) (fun _ _ _ h => h) (Or.inl ⟨by rfl, ?_⟩) ?_ ?_
                    rotate_left
                    · (intro w'; go_simp; with_reducible rfl)
                    rotate_left
                    · (simp only [Act.put, List.setIfInBounds_toArray, List.set_cons_zero, List.set_cons_succ, i64_w, i32_w]; rfl)
                    refine pure_ (i:=6) (N:=some 76) (v:=?_) (a' := ?_) (bb5 15 95) rfl rfl (any_of HT_.out (by kernel_rfl)) (fun _ _ _ h => h) (Or.inl ⟨by rfl, ?_⟩) ?_ ?_
                    rotate_left
                    · (intro w'; go_simp; with_reducible rfl)
                    rotate_left
                    · (simp only [Act.put, List.setIfInBounds_toArray, List.set_cons_zero, List.set_cons_succ, i64_w, i32_w]; rfl)
                    refine pure_ (i:=7) (N:=some 77) (v:=?_) (a' := ?_) (bb5 15 223) rfl rfl (any_of HT_.out (by kernel_rfl)) (fun _ _ _ h => h) (Or.inl ⟨by rfl, ?_⟩) ?_ ?_
                    rotate_left
                    · (intro w'; go_simp; with_reducible rfl)
                    rotate_left
                    · (simp only [Act.put, List.setIfInBounds_toArray, List.set_cons_zero, List.set_cons_succ, i64_w, i32_w]; rfl)
                    refine pure_ (i:=8) (N:=some 78) (v:=?_) (a' := ?_) (bb5 15 479) rfl rfl (any_of HT_.out (by kernel_rfl)) (fun _ _ _ h => h) (Or.inl ⟨by rfl, ?_⟩) ?_ ?_
                    rotate_left
                    · (intro w'; go_simp; with_reducible rfl)
                    rotate_left
                    · (simp only [Act.put, List.setIfInBounds_toArray, List.set_cons_zero, List.set_cons_succ, i64_w, i32_w]; rfl)
                    refine pure_ (i:=9) (N:=some 79) (v:=?_) (a' := ?_) (bb5 15 991) rfl rfl (any_of HT_.out (by kernel_rfl)) (fun _ _ _ h => h) (Or.inl ⟨by rfl, ?_⟩) ?_ ?_
                    rotate_left
                    · (intro w'; go_simp; with_reducible rfl)
                    rotate_left
                    · (simp only [Act.put, List.setIfInBounds_toArray, List.set_cons_zero, List.set_cons_succ, i64_w, i32_w]; rfl)
                    refine pure_ (i:=10) (N:=some 80) (v:=?_) (a' := ?_) (bb5 15 2015) rfl rfl (any_of HT_.out (by kernel_rfl)) (fun _ _ _ h => h) (Or.inl ⟨by rfl, ?_⟩) ?_ ?_
                    rotate_left
                    · (intro w'; go_simp; with_reducible rfl)
                    rotate_left
                    · (simp only [Act.put, List.setIfInBounds_toArray, List.set_cons_zero, List.set_cons_succ, i64_w, i32_w]; rfl)
                    refine pure_ (i:=11) (N:=some 81) (v:=?_) (a' := ?_) (bb5 15 4063) rfl rfl (any_of HT_.out (by kernel_rfl)) (fun _ _ _ h => h) (Or.inl ⟨by rfl, ?_⟩) ?_ ?_
                    rotate_left
                    · (intro w'; go_simp; with_reducible rfl)
                    rotate_left
                    · (simp only [Act.put, List.setIfInBounds_toArray, List.set_cons_zero, List.set_cons_succ, i64_w, i32_w]; rfl)
                    refine pure_ (i:=12) (N:=some 82) (v:=?_) (a' := ?_) (bb5 15 8159) rfl rfl (any_of HT_.out (by kernel_rfl)) (fun _ _ _ h => h) (Or.inl ⟨by rfl, ?_⟩) ?_ ?_
                    rotate_left
                    · (intro w'; go_simp; with_reducible rfl)
                    rotate_left
                    · (simp only [Act.put, List.setIfInBounds_toArray, List.set_cons_zero, List.set_cons_succ, i64_w, i32_w]; rfl)
                    refine one_ (i:=5) (N:=some 75) (bb5 15 8191) rfl rfl (one_of HT_.out (by kernel_rfl)) (by decide) (fun K hK => ?_)
                    refine goes_ Try.func32 (by kernel_rfl) rfl #[.int .i64 x9] (by rfl) rfl rfl (by (try simp only [List.map_toArray, List.map_cons, List.map_nil]); first | done | rfl) ?_
                    refine (c32 _ _).mono ?_
                    rintro e wy ⟨s1, rfl, hg, hb⟩
                    obtain ⟨tA, tn, tc, rfl⟩ := hg.form
                    refine ⟨_, rfl, ?_⟩
                    replace H6 := Aside0.mk (H6.out.step hb)
                    have HY := Aside0.mk hg
                    clear hg hb
                    refine hK.out _ _ ⟨Blk.cell H6.out.now.k8 0, Blk.cell H6.out.now.k8 1, Blk.cell H6.out.now.k8 2, Blk.cell H6.out.now.k8 3⟩ (fun hHeld => ?_)
                    clear hK K
                    refine norm_ (a' := ?_) ?_ ?_
                    rotate_left
                    · (show Act.put _ (some 75) _ = _; simp only [Act.put, List.setIfInBounds_toArray, List.set_cons_zero, List.set_cons_succ, i64_w, i32_w]; rfl)
                    refine one_ (i:=13) (N:=some 83) (bb5 15 16383) rfl rfl (one_of HT_.out (by kernel_rfl)) (by decide) (fun K hK => ?_)
                    refine goes_ Try.func5 (by kernel_rfl) rfl #[.agg #[.slice sA sn sc, .slice none 0 0, .slice none 0 0, .slice none 0 0], .slice tA tn tc, .int .i64 (wrap64 (1 + (wrap64 (wrap64 ((v : Int) + (u : Int)) + (x9 : Int))).tmod 4))] (by rfl) rfl rfl (by (try simp only [List.map_toArray, List.map_cons, List.map_nil]); first | done | rfl) ?_
                    refine (c5 _ ⟨H6.out.now.gs, G.nil _, G.nil _, G.nil _⟩ HY.out).mono ?_
                    rintro e wx ⟨rfl, hb⟩
                    refine ⟨_, rfl, ?_⟩
                    replace H6 := Aside0.mk (H6.out.step hb)
                    clear hb HY
                    refine hK.out _ _ ⟨Blk.cell H6.out.now.k8 0, Blk.cell H6.out.now.k8 1, Blk.cell H6.out.now.k8 2, Blk.cell H6.out.now.k8 3⟩ (fun hHeld => ?_)
                    clear hK K
                    refine norm_ (a' := ?_) ?_ ?_
                    rotate_left
                    · (show Act.put _ (some 83) _ = _; simp only [Act.put, List.setIfInBounds_toArray, List.set_cons_zero, List.set_cons_succ, i64_w, i32_w]; rfl)
                    refine pure_ (i:=14) (N:=some 84) (v:=?_) (a' := ?_) (bb5 15 32767) rfl rfl (any_of HT_.out (by kernel_rfl)) (fun _ _ _ h => h) (Or.inl ⟨by rfl, ?_⟩) ?_ ?_
                    rotate_left
                    · (intro w'; go_simp; with_reducible rfl)
                    rotate_left
                    · (simp only [Act.put, List.setIfInBounds_toArray, List.set_cons_zero, List.set_cons_succ, i64_w, i32_w]; rfl)
                    refine done_ (done_of HT_.out (by kernel_rfl)) ?_
                    clear hHeld HT_ HW_
                    go_wp2
                    go_roundw
                    case rel => exact ⟨x9 + 1, by go_num, by omega, H6⟩
                    case measure => simp [intOf]; omega
                  · go_wp2
                    go_roundw
                    case rel => exact ⟨1, by go_num, by omega, H6⟩
                    case measure => first | (simp [intOf]; done) | (simp [intOf]; omega)
              · go_wp2
                go_loopw [10] (fun v10 w' => ∃ x : Nat, v10 = .int .i64 x ∧ x ≤ 21 ∧ Aside0 (Stay (E4 w wh6.heap.size (.slice sA sn sc) (.slice aA0 an0 ac0) (.slice aA1 an1 ac1) (.slice aA2 an2 ac2) (.slice aA3 an3 ac3) (.slice pA0 pn0 pc0) (.slice pA1 pn1 pc1) (.slice pA2 pn2 pc2) (.slice pA3 pn3 pc3) (.slice rA0 rn0 rc0) (.slice rA1 rn1 rc1) (.slice rA2 rn2 rc2) (.slice rA3 rn3 rc3) (.slice rA4 rn4 rc4) (.slice rA5 rn5 rc5) (.slice rA6 rn6 rc6)) w')) (fun v10 _ => 21 - (intOf v10).toNat)
                case atStart => exact ⟨0, rfl, by omega, H5⟩
                case round =>
                  obtain ⟨x9, rfl, hx, H6⟩ := hrel
                  clear H5
                  by_cases hlx : x9 < 16
                  · go_wp2
                    obtain ⟨wq, rfl⟩ : ∃ wq : World, wq = wr := ⟨_, rfl⟩
                    refine start_ (n:=15) (S:=fun w' => w'.cell? ⟨wh6.heap.size, 4, none⟩ = some (.slice aA0 an0 ac0) ∧ w'.cell? ⟨wh6.heap.size, 5, none⟩ = some (.slice aA1 an1 ac1) ∧ w'.cell? ⟨wh6.heap.size, 6, none⟩ = some (.slice aA2 an2 ac2) ∧ w'.cell? ⟨wh6.heap.size, 7, none⟩ = some (.slice aA3 an3 ac3)) (ds:=[]) (bb5 15 0) (by kernel_rfl) rfl rfl ⟨Blk.cell H6.out.now.k8 4, Blk.cell H6.out.now.k8 5, Blk.cell H6.out.now.k8 6, Blk.cell H6.out.now.k8 7⟩ (fun hHeld => ?_); refine with_tabW qa.tab19 qa.bits19 (fun HT_ HW_ => ?_)
                    replace H6 := Aside0.mk H6.out.drew
                    generalize wr.drew = wz at H6 hHeld ⊢
                    refine pure_ (i:=0) (N:=some 70) (v:=?_) (a' := ?_) (bb5 15 1) rfl rfl (any_of HT_.out (by kernel_rfl)) (fun _ _ _ h => h) (Or.inl ⟨by rfl, ?_⟩) ?_ ?_
                    rotate_left
                    · (intro w'; go_simp; with_reducible rfl)
                    rotate_left
                    · (simp only [Act.put, List.setIfInBounds_toArray, List.set_cons_zero, List.set_cons_succ, i64_w, i32_w]; rfl)
                    refine pure_ (i:=1) (N:=some 71) (v:=?_) (a' := ?_) (bb5 15 3) rfl rfl (any_of HT_.out (by kernel_rfl)) (fun _ _ _ h => h) (Or.inl ⟨by rfl, ?_⟩) ?_ ?_
                    rotate_left
                    · (intro w'; go_simp; with_reducible rfl)
                    rotate_left
                    · (simp only [Act.put, List.setIfInBounds_toArray, List.set_cons_zero, List.set_cons_succ, i64_w, i32_w]; rfl)
                    refine pure_ (i:=2) (N:=some 72) (v:=?_) (a' := ?_) (bb5 15 7) rfl rfl (any_of HT_.out (by kernel_rfl)) (fun _ _ _ h => h) (Or.inl ⟨by rfl, ?_⟩) ?_ ?_
                    rotate_left
                    · (intro w'; go_simp; with_reducible rfl)
                    rotate_left
                    · (simp only [Act.put, List.setIfInBounds_toArray, List.set_cons_zero, List.set_cons_succ, i64_w, i32_w]; rfl)
                    refine take_ (i:=3) (N:=some 73) (v:=?_) (a' := ?_) (bb5 15 15) rfl rfl (take_ofW HT_.out HW_.out (by kernel_rfl)) (fun _ _ _ h => h) (Or.inl ⟨by rfl, ?_⟩) hHeld ?_ ?_
                    rotate_left
                    · (rintro w' ⟨e0, e1, e2, e3⟩; go_simp; with_reducible rfl)
                    rotate_left
                    · (simp only [Act.put, List.setIfInBounds_toArray, List.set_cons_zero, List.set_cons_succ, i64_w, i32_w]; rfl)
                    refine pure_ (i:=4) (N:=some 74) (v:=?_) (a' := ?_) (bb5 15 31) rfl rfl (any_of HT_.out (by kernel_rfl)) (fun _ _ _ h => h) (Or.inl ⟨by rfl, ?_⟩) ?_ ?_
                    rotate_left
                    · (intro w'; go_simp; with_reducible rfl)
                    rotate_left
                    · (simp only [Act.put, List.setIfInBounds_toArray, List.set_cons_zero, List.set_cons_succ, i64_w, i32_w]; rfl)
                    refine pure_ (i:=6) (N:=some 76) (v:=?_) (a' := ?_) (bb5 15 95) rfl rfl (any_of HT_.out (by kernel_rfl)) (fun _ _ _ h => h) (Or.inl ⟨by rfl, ?_⟩) ?_ ?_
                    rotate_left
                    · (intro w'; go_simp; with_reducible rfl)
                    rotate_left
                    · (simp only [Act.put, List.setIfInBounds_toArray, List.set_cons_zero, List.set_cons_succ, i64_w, i32_w]; rfl)
                    refine pure_ (i:=7) (N:=some 77) (v:=?_) (a' := ?_) (bb5 15 223) rfl rfl (any_of HT_.out (by kernel_rfl)) (fun _ _ _ h => h) (Or.inl ⟨by rfl, ?_⟩) ?_ ?_
                    rotate_left
                    · (intro w'; go_simp; with_reducible rfl)
                    rotate_left
                    · (simp only [Act.put, List.setIfInBounds_toArray, List.set_cons_zero, List.set_cons_succ, i64_w, i32_w]; rfl)
                    refine pure_ (i:=8) (N:=some 78) (v:=?_) (a' := ?_) (bb5 15 479) rfl rfl (any_of HT_.out (by kernel_rfl)) (fun _ _ _ h => h) (Or.inl ⟨by rfl, ?_⟩) ?_ ?_
                    rotate_left
                    · (intro w'; go_simp; with_reducible rfl)
                    rotate_left
                    · (simp only [Act.put, List.setIfInBounds_toArray, List.set_cons_zero, List.set_cons_succ, i64_w, i32_w]; rfl)
                    refine pure_ (i:=9) (N:=some 79) (v:=?_) (a' := ?_) (bb5 15 991) rfl rfl (any_of HT_.out (by kernel_rfl)) (fun _ _ _ h => h) (Or.inl ⟨by rfl, ?_⟩) ?_ ?_
                    rotate_left
                    · (intro w'; go_simp; with_reducible rfl)
                    rotate_left
                    · (simp only [Act.put, List.setIfInBounds_toArray, List.set_cons_zero, List.set_cons_succ, i64_w, i32_w]; rfl)
                    refine pure_ (i:=10) (N:=some 80) (v:=?_) (a' := ?_) (bb5 15 2015) rfl rfl (any_of HT_.out (by kernel_rfl)) (fun _ _ _ h => h) (Or.inl ⟨by rfl, ?_⟩) ?_ ?_
                    rotate_left
                    · (intro w'; go_simp; with_reducible rfl)
                    rotate_left
                    · (simp only [Act.put, List.setIfInBounds_toArray, List.set_cons_zero, List.set_cons_succ, i64_w, i32_w]; rfl)
                    refine pure_ (i:=11) (N:=some 81) (v:=?_) (a' := ?_) (bb5 15 4063) rfl rfl (any_of HT_.out (by kernel_rfl)) (fun _ _ _ h => h) (Or.inl ⟨by rfl, ?_⟩) ?_ ?_
                    rotate_left
                    · (intro w'; go_simp; with_reducible rfl)
                    rotate_left
                    · (simp only [Act.put, List.setIfInBounds_toArray, List.set_cons_zero, List.set_cons_succ, i64_w, i32_w]; rfl)
                    refine pure_ (i:=12) (N:=some 82) (v:=?_) (a' := ?_) (bb5 15 8159) rfl rfl (any_of HT_.out (by kernel_rfl)) (fun _ _ _ h => h) (Or.inl ⟨by rfl, ?_⟩) ?_ ?_
                    rotate_left
                    · (intro w'; go_simp; with_reducible rfl)
                    rotate_left
                    · (simp only [Act.put, List.setIfInBounds_toArray, List.set_cons_zero, List.set_cons_succ, i64_w, i32_w]; rfl)
                    refine one_ (i:=5) (N:=some 75) (bb5 15 8191) rfl rfl (one_of HT_.out (by kernel_rfl)) (by decide) (fun K hK => ?_)
                    refine goes_ Try.func32 (by kernel_rfl) rfl #[.int .i64 x9] (by rfl) rfl rfl (by (try simp only [List.map_toArray, List.map_cons, List.map_nil]); first | done | rfl) ?_
                    refine (c32 _ _).mono ?_
                    rintro e wy ⟨s1, rfl, hg, hb⟩
                    obtain ⟨tA, tn, tc, rfl⟩ := hg.form
                    refine ⟨_, rfl, ?_⟩
                    replace H6 := Aside0.mk (H6.out.step hb)
                    have HY := Aside0.mk hg
                    clear hg hb
                    refine hK.out _ _ ⟨Blk.cell H6.out.now.k8 4, Blk.cell H6.out.now.k8 5, Blk.cell H6.out.now.k8 6, Blk.cell H6.out.now.k8 7⟩ (fun hHeld => ?_)
                    clear hK K
                    refine norm_ (a' := ?_) ?_ ?_
                    rotate_left
                    · (show Act.put _ (some 75) _ = _; simp only [Act.put, List.setIfInBounds_toArray, List.set_cons_zero, List.set_cons_succ, i64_w, i32_w]; rfl)
                    refine one_ (i:=13) (N:=some 83) (bb5 15 16383) rfl rfl (one_of HT_.out (by kernel_rfl)) (by decide) (fun K hK => ?_)
                    refine goes_ Try.func5 (by kernel_rfl) rfl #[.agg #[.slice aA0 an0 ac0, .slice aA1 an1 ac1, .slice aA2 an2 ac2, .slice aA3 an3 ac3], .slice tA tn tc, .int .i64 (wrap64 (1 + (wrap64 (wrap64 ((v : Int) + (u : Int)) + (x9 : Int))).tmod 4))] (by rfl) rfl rfl (by (try simp only [List.map_toArray, List.map_cons, List.map_nil]); first | done | rfl) ?_
                    refine (c5 _ H6.out.now.ga HY.out).mono ?_
                    rintro e wx ⟨rfl, hb⟩
                    refine ⟨_, rfl, ?_⟩
                    replace H6 := Aside0.mk (H6.out.step hb)
                    clear hb HY
                    refine hK.out _ _ ⟨Blk.cell H6.out.now.k8 4, Blk.cell H6.out.now.k8 5, Blk.cell H6.out.now.k8 6, Blk.cell H6.out.now.k8 7⟩ (fun hHeld => ?_)
                    clear hK K
                    refine norm_ (a' := ?_) ?_ ?_
                    rotate_left
                    · (show Act.put _ (some 83) _ = _; simp only [Act.put, List.setIfInBounds_toArray, List.set_cons_zero, List.set_cons_succ, i64_w, i32_w]; rfl)
                    refine pure_ (i:=14) (N:=some 84) (v:=?_) (a' := ?_) (bb5 15 32767) rfl rfl (any_of HT_.out (by kernel_rfl)) (fun _ _ _ h => h) (Or.inl ⟨by rfl, ?_⟩) ?_ ?_
                    rotate_left
                    · (intro w'; go_simp; with_reducible rfl)
                    rotate_left
                    · (simp only [Act.put, List.setIfInBounds_toArray, List.set_cons_zero, List.set_cons_succ, i64_w, i32_w]; rfl)
                    refine done_ (done_of HT_.out (by kernel_rfl)) ?_
                    clear hHeld HT_ HW_
                    go_wp2
                    go_roundw
                    case rel => exact ⟨x9 + 1, by go_num, by omega, H6⟩
                    case measure => simp [intOf]; omega
                  · go_wp2
                    go_roundw
                    case rel => exact ⟨2, by go_num, by omega, H6⟩
                    case measure => first | (simp [intOf]; done) | (simp [intOf]; omega)
              · go_wp2
                go_loopw [10] (fun v10 w' => ∃ x : Nat, v10 = .int .i64 x ∧ x ≤ 21 ∧ Aside0 (Stay (E4 w wh6.heap.size (.slice sA sn sc) (.slice aA0 an0 ac0) (.slice aA1 an1 ac1) (.slice aA2 an2 ac2) (.slice aA3 an3 ac3) (.slice pA0 pn0 pc0) (.slice pA1 pn1 pc1) (.slice pA2 pn2 pc2) (.slice pA3 pn3 pc3) (.slice rA0 rn0 rc0) (.slice rA1 rn1 rc1) (.slice rA2 rn2 rc2) (.slice rA3 rn3 rc3) (.slice rA4 rn4 rc4) (.slice rA5 rn5 rc5) (.slice rA6 rn6 rc6)) w')) (fun v10 _ => 21 - (intOf v10).toNat)
                case atStart => exact ⟨0, rfl, by omega, H5⟩
                case round =>
                  obtain ⟨x9, rfl, hx, H6⟩ := hrel
                  clear H5
                  by_cases hlx : x9 < 16
                  · go_wp2
                    obtain ⟨wq, rfl⟩ : ∃ wq : World, wq = wr := ⟨_, rfl⟩
                    refine start_ (n:=15) (S:=fun w' => w'.cell? ⟨wh6.heap.size, 8, none⟩ = some (.slice pA0 pn0 pc0) ∧ w'.cell? ⟨wh6.heap.size, 9, none⟩ = some (.slice pA1 pn1 pc1) ∧ w'.cell? ⟨wh6.heap.size, 10, none⟩ = some (.slice pA2 pn2 pc2) ∧ w'.cell? ⟨wh6.heap.size, 11, none⟩ = some (.slice pA3 pn3 pc3)) (ds:=[]) (bb5 15 0) (by kernel_rfl) rfl rfl ⟨Blk.cell H6.out.now.k8 8, Blk.cell H6.out.now.k8 9, Blk.cell H6.out.now.k8 10, Blk.cell H6.out.now.k8 11⟩ (fun hHeld => ?_); refine with_tabW qa.tab19 qa.bits19 (fun HT_ HW_ => ?_)
                    replace H6 := Aside0.mk H6.out.drew
                    generalize wr.drew = wz at H6 hHeld ⊢
                    refine pure_ (i:=0) (N:=some 70) (v:=?_) (a' := ?_) (bb5 15 1) rfl rfl (any_of HT_.out (by kernel_rfl)) (fun _ _ _ h => h) (Or.inl ⟨by rfl, ?_⟩) ?_ ?_
                    rotate_left
                    · (intro w'; go_simp; with_reducible rfl)
                    rotate_left
                    · (simp only [Act.put, List.setIfInBounds_toArray, List.set_cons_zero, List.set_cons_succ, i64_w, i32_w]; rfl)
                    refine pure_ (i:=1) (N:=some 71) (v:=?_) (a' := ?_) (bb5 15 3) rfl rfl (any_of HT_.out (by kernel_rfl)) (fun _ _ _ h => h) (Or.inl ⟨by rfl, ?_⟩) ?_ ?_
                    rotate_left
                    · (intro w'; go_simp; with_reducible rfl)
                    rotate_left
                    · (simp only [Act.put, List.setIfInBounds_toArray, List.set_cons_zero, List.set_cons_succ, i64_w, i32_w]; rfl)
                    refine pure_ (i:=2) (N:=some 72) (v:=?_) (a' := ?_) (bb5 15 7) rfl rfl (any_of HT_.out (by kernel_rfl)) (fun _ _ _ h => h) (Or.inl ⟨by rfl, ?_⟩) ?_ ?_
                    rotate_left
                    · (intro w'; go_simp; with_reducible rfl)
                    rotate_left
                    · (simp only [Act.put, List.setIfInBounds_toArray, List.set_cons_zero, List.set_cons_succ, i64_w, i32_w]; rfl)
                    refine take_ (i:=3) (N:=some 73) (v:=?_) (a' := ?_) (bb5 15 15) rfl rfl (take_ofW HT_.out HW_.out (by kernel_rfl)) (fun _ _ _ h => h) (Or.inl ⟨by rfl, ?_⟩) hHeld ?_ ?_
                    rotate_left
                    · (rintro w' ⟨e0, e1, e2, e3⟩; go_simp; with_reducible rfl)
                    rotate_left
                    · (simp only [Act.put, List.setIfInBounds_toArray, List.set_cons_zero, List.set_cons_succ, i64_w, i32_w]; rfl)
                    refine pure_ (i:=4) (N:=some 74) (v:=?_) (a' := ?_) (bb5 15 31) rfl rfl (any_of HT_.out (by kernel_rfl)) (fun _ _ _ h => h) (Or.inl ⟨by rfl, ?_⟩) ?_ ?_
                    rotate_left
                    · (intro w'; go_simp; with_reducible rfl)
                    rotate_left
                    · (simp only [Act.put, List.setIfInBounds_toArray, List.set_cons_zero, List.set_cons_succ, i64_w, i32_w]; rfl)
                    refine pure_ (i:=6) (N:=some 76) (v:=?_) (a' := ?_) (bb5 15 95) rfl rfl (any_of HT_.out (by kernel_rfl)) (fun _ _ _ h => h) (Or.inl ⟨by rfl, ?_⟩) ?_ ?_
                    rotate_left
                    · (intro w'; go_simp; with_reducible rfl)
                    rotate_left
                    · (simp only [Act.put, List.setIfInBounds_toArray, List.set_cons_zero, List.set_cons_succ, i64_w, i32_w]; rfl)
                    refine pure_ (i:=7) (N:=some 77) (v:=?_) (a' := ?_) (bb5 15 223) rfl rfl (any_of HT_.out (by kernel_rfl)) (fun _ _ _ h => h) (Or.inl ⟨by rfl, ?_⟩) ?_ ?_
                    rotate_left
                    · (intro w'; go_simp; with_reducible rfl)
                    rotate_left
                    · (simp only [Act.put, List.setIfInBounds_toArray, List.set_cons_zero, List.set_cons_succ, i64_w, i32_w]; rfl)
                    refine pure_ (i:=8) (N:=some 78) (v:=?_) (a' := ?_) (bb5 15 479) rfl rfl (any_of HT_.out (by kernel_rfl)) (fun _ _ _ h => h) (Or.inl ⟨by rfl, ?_⟩) ?_ ?_
                    rotate_left
                    · (intro w'; go_simp; with_reducible rfl)
                    rotate_left
                    · (simp only [Act.put, List.setIfInBounds_toArray, List.set_cons_zero, List.set_cons_succ, i64_w, i32_w]; rfl)
                    refine pure_ (i:=9) (N:=some 79) (v:=?_) (a' := ?_) (bb5 15 991) rfl rfl (any_of HT_.out (by kernel_rfl)) (fun _ _ _ h => h) (Or.inl ⟨by rfl, ?_⟩) ?_ ?_
                    rotate_left
                    · (intro w'; go_simp; with_reducible rfl)
                    rotate_left
                    · (simp only [Act.put, List.setIfInBounds_toArray, List.set_cons_zero, List.set_cons_succ, i64_w, i32_w]; rfl)
                    refine pure_ (i:=10) (N:=some 80) (v:=?_) (a' := ?_) (bb5 15 2015) rfl rfl (any_of HT_.out (by kernel_rfl)) (fun _ _ _ h => h) (Or.inl ⟨by rfl, ?_⟩) ?_ ?_
                    rotate_left
                    · (intro w'; go_simp; with_reducible rfl)
                    rotate_left
                    · (simp only [Act.put, List.setIfInBounds_toArray, List.set_cons_zero, List.set_cons_succ, i64_w, i32_w]; rfl)
                    refine pure_ (i:=11) (N:=some 81) (v:=?_) (a' := ?_) (bb5 15 4063) rfl rfl (any_of HT_.out (by kernel_rfl)) (fun _ _ _ h => h) (Or.inl ⟨by rfl, ?_⟩) ?_ ?_
                    rotate_left
                    · (intro w'; go_simp; with_reducible rfl)
                    rotate_left
                    · (simp only [Act.put, List.setIfInBounds_toArray, List.set_cons_zero, List.set_cons_succ, i64_w, i32_w]; rfl)
                    refine pure_ (i:=12) (N:=some 82) (v:=?_) (a' := ?_) (bb5 15 8159) rfl rfl (any_of HT_.out (by kernel_rfl)) (fun _ _ _ h => h) (Or.inl ⟨by rfl, ?_⟩) ?_ ?_
                    rotate_left
                    · (intro w'; go_simp; with_reducible rfl)
                    rotate_left
                    · (simp only [Act.put, List.setIfInBounds_toArray, List.set_cons_zero, List.set_cons_succ, i64_w, i32_w]; rfl)
                    refine one_ (i:=5) (N:=some 75) (bb5 15 8191) rfl rfl (one_of HT_.out (by kernel_rfl)) (by decide) (fun K hK => ?_)
                    refine goes_ Try.func32 (by kernel_rfl) rfl #[.int .i64 x9] (by rfl) rfl rfl (by (try simp only [List.map_toArray, List.map_cons, List.map_nil]); first | done | rfl) ?_
                    refine (c32 _ _).mono ?_
                    rintro e wy ⟨s1, rfl, hg, hb⟩
                    obtain ⟨tA, tn, tc, rfl⟩ := hg.form
                    refine ⟨_, rfl, ?_⟩
                    replace H6 := Aside0.mk (H6.out.step hb)
                    have HY := Aside0.mk hg
                    clear hg hb
                    refine hK.out _ _ ⟨Blk.cell H6.out.now.k8 8, Blk.cell H6.out.now.k8 9, Blk.cell H6.out.now.k8 10, Blk.cell H6.out.now.k8 11⟩ (fun hHeld => ?_)
                    clear hK K
                    refine norm_ (a' := ?_) ?_ ?_
                    rotate_left
                    · (show Act.put _ (some 75) _ = _; simp only [Act.put, List.setIfInBounds_toArray, List.set_cons_zero, List.set_cons_succ, i64_w, i32_w]; rfl)
                    refine one_ (i:=13) (N:=some 83) (bb5 15 16383) rfl rfl (one_of HT_.out (by kernel_rfl)) (by decide) (fun K hK => ?_)
                    refine goes_ Try.func5 (by kernel_rfl) rfl #[.agg #[.slice pA0 pn0 pc0, .slice pA1 pn1 pc1, .slice pA2 pn2 pc2, .slice pA3 pn3 pc3], .slice tA tn tc, .int .i64 (wrap64 (1 + (wrap64 (wrap64 ((v : Int) + (u : Int)) + (x9 : Int))).tmod 4))] (by rfl) rfl rfl (by (try simp only [List.map_toArray, List.map_cons, List.map_nil]); first | done | rfl) ?_
                    refine (c5 _ H6.out.now.gp HY.out).mono ?_
                    rintro e wx ⟨rfl, hb⟩
                    refine ⟨_, rfl, ?_⟩
                    replace H6 := Aside0.mk (H6.out.step hb)
                    clear hb HY
                    refine hK.out _ _ ⟨Blk.cell H6.out.now.k8 8, Blk.cell H6.out.now.k8 9, Blk.cell H6.out.now.k8 10, Blk.cell H6.out.now.k8 11⟩ (fun hHeld => ?_)
                    clear hK K
                    refine norm_ (a' := ?_) ?_ ?_
                    rotate_left
                    · (show Act.put _ (some 83) _ = _; simp only [Act.put, List.setIfInBounds_toArray, List.set_cons_zero, List.set_cons_succ, i64_w, i32_w]; rfl)
                    refine pure_ (i:=14) (N:=some 84) (v:=?_) (a' := ?_) (bb5 15 32767) rfl rfl (any_of HT_.out (by kernel_rfl)) (fun _ _ _ h => h) (Or.inl ⟨by rfl, ?_⟩) ?_ ?_
                    rotate_left
                    · (intro w'; go_simp; with_reducible rfl)
                    rotate_left
                    · (simp only [Act.put, List.setIfInBounds_toArray, List.set_cons_zero, List.set_cons_succ, i64_w, i32_w]; rfl)
                    refine done_ (done_of HT_.out (by kernel_rfl)) ?_
                    clear hHeld HT_ HW_
                    go_wp2
                    go_roundw
                    case rel => exact ⟨x9 + 1, by go_num, by omega, H6⟩
                    case measure => simp [intOf]; omega
                  · go_wp2
                    go_roundw
                    case rel => exact ⟨3, by go_num, by omega, H6⟩
                    case measure => first | (simp [intOf]; done) | (simp [intOf]; omega)
              · go_wp2
                go_loopw [10] (fun v10 w' => ∃ x : Nat, v10 = .int .i64 x ∧ x ≤ 21 ∧ Aside0 (Stay (E4 w wh6.heap.size (.slice sA sn sc) (.slice aA0 an0 ac0) (.slice aA1 an1 ac1) (.slice aA2 an2 ac2) (.slice aA3 an3 ac3) (.slice pA0 pn0 pc0) (.slice pA1 pn1 pc1) (.slice pA2 pn2 pc2) (.slice pA3 pn3 pc3) (.slice rA0 rn0 rc0) (.slice rA1 rn1 rc1) (.slice rA2 rn2 rc2) (.slice rA3 rn3 rc3) (.slice rA4 rn4 rc4) (.slice rA5 rn5 rc5) (.slice rA6 rn6 rc6)) w')) (fun v10 _ => 21 - (intOf v10).toNat)
                case atStart => exact ⟨0, rfl, by omega, H5⟩
                case round =>
                  obtain ⟨x9, rfl, hx, H6⟩ := hrel
                  clear H5
                  by_cases hlx : x9 < 16
                  · go_wp2
                    obtain ⟨wq, rfl⟩ : ∃ wq : World, wq = wr := ⟨_, rfl⟩
                    refine start_ (n:=15) (S:=fun w' => w'.cell? ⟨wh6.heap.size, 12, none⟩ = some (.slice rA0 rn0 rc0) ∧ w'.cell? ⟨wh6.heap.size, 13, none⟩ = some (.slice rA1 rn1 rc1) ∧ w'.cell? ⟨wh6.heap.size, 14, none⟩ = some (.slice none 0 0) ∧ w'.cell? ⟨wh6.heap.size, 15, none⟩ = some (.slice rA2 rn2 rc2)) (ds:=[]) (bb5 15 0) (by kernel_rfl) rfl rfl ⟨Blk.cell H6.out.now.k8 12, Blk.cell H6.out.now.k8 13, Blk.cell H6.out.now.k8 14, Blk.cell H6.out.now.k8 15⟩ (fun hHeld => ?_); refine with_tabW qa.tab19 qa.bits19 (fun HT_ HW_ => ?_)
                    replace H6 := Aside0.mk H6.out.drew
                    generalize wr.drew = wz at H6 hHeld ⊢
                    refine pure_ (i:=0) (N:=some 70) (v:=?_) (a' := ?_) (bb5 15 1) rfl rfl (any_of HT_.out (by kernel_rfl)) (fun _ _ _ h => h) (Or.inl ⟨by rfl, ?_⟩) ?_ ?_
                    rotate_left
                    · (intro w'; go_simp; with_reducible rfl)
                    rotate_left
                    · (simp only [Act.put, List.setIfInBounds_toArray, List.set_cons_zero, List.set_cons_succ, i64_w, i32_w]; rfl)
                    refine pure_ (i:=1) (N:=some 71) (v:=?_) (a' := ?_) (bb5 15 3) rfl rfl (any_of HT_.out (by kernel_rfl)) (fun _ _ _ h => h) (Or.inl ⟨by rfl, ?_⟩) ?_ ?_
                    rotate_left
                    · (intro w'; go_simp; with_reducible rfl)
                    rotate_left
                    · (simp only [Act.put, List.setIfInBounds_toArray, List.set_cons_zero, List.set_cons_succ, i64_w, i32_w]; rfl)
                    refine pure_ (i:=2) (N:=some 72) (v:=?_) (a' := ?_) (bb5 15 7) rfl rfl (any_of HT_.out (by kernel_rfl)) (fun _ _ _ h => h) (Or.inl ⟨by rfl, ?_⟩) ?_ ?_
                    rotate_left
                    · (intro w'; go_simp; with_reducible rfl)
                    rotate_left
                    · (simp only [Act.put, List.setIfInBounds_toArray, List.set_cons_zero, List.set_cons_succ, i64_w, i32_w]; rfl)
                    refine take_ (i:=3) (N:=some 73) (v:=?_) (a' := ?_) (bb5 15 15) rfl rfl (take_ofW HT_.out HW_.out (by kernel_rfl)) (fun _ _ _ h => h) (Or.inl ⟨by rfl, ?_⟩) hHeld ?_ ?_
                    rotate_left
                    · (rintro w' ⟨e0, e1, e2, e3⟩; go_simp; with_reducible rfl)
                    rotate_left
                    · (simp only [Act.put, List.setIfInBounds_toArray, List.set_cons_zero, List.set_cons_succ, i64_w, i32_w]; rfl)
                    refine pure_ (i:=4) (N:=some 74) (v:=?_) (a' := ?_) (bb5 15 31) rfl rfl (any_of HT_.out (by kernel_rfl)) (fun _ _ _ h => h) (Or.inl ⟨by rfl, ?_⟩) ?_ ?_
                    rotate_left
                    · (intro w'; go_simp; with_reducible rfl)
                    rotate_left
                    · (simp only [Act.put, List.setIfInBounds_toArray, List.set_cons_zero, List.set_cons_succ, i64_w, i32_w]; rfl)
                    refine pure_ (i:=6) (N:=some 76) (v:=?_) (a' := ?_) (bb5 15 95) rfl rfl (any_of HT_.out (by kernel_rfl)) (fun _ _ _ h => h) (Or.inl ⟨by rfl, ?_⟩) ?_ ?_
                    rotate_left
                    · (intro w'; go_simp; with_reducible rfl)
                    rotate_left
                    · (simp only [Act.put, List.setIfInBounds_toArray, List.set_cons_zero, List.set_cons_succ, i64_w, i32_w]; rfl)
                    refine pure_ (i:=7) (N:=some 77) (v:=?_) (a' := ?_) (bb5 15 223) rfl rfl (any_of HT_.out (by kernel_rfl)) (fun _ _ _ h => h) (Or.inl ⟨by rfl, ?_⟩) ?_ ?_
                    rotate_left
                    · (intro w'; go_simp; with_reducible rfl)
                    rotate_left
                    · (simp only [Act.put, List.setIfInBounds_toArray, List.set_cons_zero, List.set_cons_succ, i64_w, i32_w]; rfl)
                    refine pure_ (i:=8) (N:=some 78) (v:=?_) (a' := ?_) (bb5 15 479) rfl rfl (any_of HT_.out (by kernel_rfl)) (fun _ _ _ h => h) (Or.inl ⟨by rfl, ?_⟩) ?_ ?_
                    rotate_left
                    · (intro w'; go_simp; with_reducible rfl)
                    rotate_left
                    · (simp only [Act.put, List.setIfInBounds_toArray, List.set_cons_zero, List.set_cons_succ, i64_w, i32_w]; rfl)
                    refine pure_ (i:=9) (N:=some 79) (v:=?_) (a' := ?_) (bb5 15 991) rfl rfl (any_of HT_.out (by kernel_rfl)) (fun _ _ _ h => h) (Or.inl ⟨by rfl, ?_⟩) ?_ ?_
                    rotate_left
                    · (intro w'; go_simp; with_reducible rfl)
                    rotate_left
                    · (simp only [Act.put, List.setIfInBounds_toArray, List.set_cons_zero, List.set_cons_succ, i64_w, i32_w]; rfl)
                    refine pure_ (i:=10) (N:=some 80) (v:=?_) (a' := ?_) (bb5 15 2015) rfl rfl (any_of HT_.out (by kernel_rfl)) (fun _ _ _ h => h) (Or.inl ⟨by rfl, ?_⟩) ?_ ?_
                    rotate_left
                    · (intro w'; go_simp; with_reducible rfl)
                    rotate_left
                    · (simp only [Act.put, List.setIfInBounds_toArray, List.set_cons_zero, List.set_cons_succ, i64_w, i32_w]; rfl)
                    refine pure_ (i:=11) (N:=some 81) (v:=?_) (a' := ?_) (bb5 15 4063) rfl rfl (any_of HT_.out (by kernel_rfl)) (fun _ _ _ h => h) (Or.inl ⟨by rfl, ?_⟩) ?_ ?_
                    rotate_left
                    · (intro w'; go_simp; with_reducible rfl)
                    rotate_left
                    · (simp only [Act.put, List.setIfInBounds_toArray, List.set_cons_zero, List.set_cons_succ, i64_w, i32_w]; rfl)
                    refine pure_ (i:=12) (N:=some 82) (v:=?_) (a' := ?_) (bb5 15 8159) rfl rfl (any_of HT_.out (by kernel_rfl)) (fun _ _ _ h => h) (Or.inl ⟨by rfl, ?_⟩) ?_ ?_
                    rotate_left
                    · (intro w'; go_simp; with_reducible rfl)
                    rotate_left
                    · (simp only [Act.put, List.setIfInBounds_toArray, List.set_cons_zero, List.set_cons_succ, i64_w, i32_w]; rfl)
                    refine one_ (i:=5) (N:=some 75) (bb5 15 8191) rfl rfl (one_of HT_.out (by kernel_rfl)) (by decide) (fun K hK => ?_)
                    refine goes_ Try.func32 (by kernel_rfl) rfl #[.int .i64 x9] (by rfl) rfl rfl (by (try simp only [List.map_toArray, List.map_cons, List.map_nil]); first | done | rfl) ?_
                    refine (c32 _ _).mono ?_
                    rintro e wy ⟨s1, rfl, hg, hb⟩
                    obtain ⟨tA, tn, tc, rfl⟩ := hg.form
                    refine ⟨_, rfl, ?_⟩
                    replace H6 := Aside0.mk (H6.out.step hb)
                    have HY := Aside0.mk hg
                    clear hg hb
                    refine hK.out _ _ ⟨Blk.cell H6.out.now.k8 12, Blk.cell H6.out.now.k8 13, Blk.cell H6.out.now.k8 14, Blk.cell H6.out.now.k8 15⟩ (fun hHeld => ?_)
                    clear hK K
                    refine norm_ (a' := ?_) ?_ ?_
                    rotate_left
                    · (show Act.put _ (some 75) _ = _; simp only [Act.put, List.setIfInBounds_toArray, List.set_cons_zero, List.set_cons_succ, i64_w, i32_w]; rfl)
                    refine one_ (i:=13) (N:=some 83) (bb5 15 16383) rfl rfl (one_of HT_.out (by kernel_rfl)) (by decide) (fun K hK => ?_)
                    refine goes_ Try.func5 (by kernel_rfl) rfl #[.agg #[.slice rA0 rn0 rc0, .slice rA1 rn1 rc1, .slice none 0 0, .slice rA2 rn2 rc2], .slice tA tn tc, .int .i64 (wrap64 (1 + (wrap64 (wrap64 ((v : Int) + (u : Int)) + (x9 : Int))).tmod 4))] (by rfl) rfl rfl (by (try simp only [List.map_toArray, List.map_cons, List.map_nil]); first | done | rfl) ?_
                    refine (c5 _ ⟨H6.out.now.r0, H6.out.now.r1, G.nil _, H6.out.now.r2⟩ HY.out).mono ?_
                    rintro e wx ⟨rfl, hb⟩
                    refine ⟨_, rfl, ?_⟩
                    replace H6 := Aside0.mk (H6.out.step hb)
                    clear hb HY
                    refine hK.out _ _ ⟨Blk.cell H6.out.now.k8 12, Blk.cell H6.out.now.k8 13, Blk.cell H6.out.now.k8 14, Blk.cell H6.out.now.k8 15⟩ (fun hHeld => ?_)
                    clear hK K
                    refine norm_ (a' := ?_) ?_ ?_
                    rotate_left
                    · (show Act.put _ (some 83) _ = _; simp only [Act.put, List.setIfInBounds_toArray, List.set_cons_zero, List.set_cons_succ, i64_w, i32_w]; rfl)
                    refine pure_ (i:=14) (N:=some 84) (v:=?_) (a' := ?_) (bb5 15 32767) rfl rfl (any_of HT_.out (by kernel_rfl)) (fun _ _ _ h => h) (Or.inl ⟨by rfl, ?_⟩) ?_ ?_
                    rotate_left
                    · (intro w'; go_simp; with_reducible rfl)
                    rotate_left
                    · (simp only [Act.put, List.setIfInBounds_toArray, List.set_cons_zero, List.set_cons_succ, i64_w, i32_w]; rfl)
                    refine done_ (done_of HT_.out (by kernel_rfl)) ?_
                    clear hHeld HT_ HW_
                    go_wp2
                    go_roundw
                    case rel => exact ⟨x9 + 2, by go_num, by omega, H6⟩
                    case measure => simp [intOf]; omega
                  · go_wp2
                    go_roundw
                    case rel => exact ⟨4, by go_num, by omega, H6⟩
                    case measure => first | (simp [intOf]; done) | (simp [intOf]; omega)
              · go_wp2
                go_loopw [10] (fun v10 w' => ∃ x : Nat, v10 = .int .i64 x ∧ x ≤ 21 ∧ Aside0 (Stay (E4 w wh6.heap.size (.slice sA sn sc) (.slice aA0 an0 ac0) (.slice aA1 an1 ac1) (.slice aA2 an2 ac2) (.slice aA3 an3 ac3) (.slice pA0 pn0 pc0) (.slice pA1 pn1 pc1) (.slice pA2 pn2 pc2) (.slice pA3 pn3 pc3) (.slice rA0 rn0 rc0) (.slice rA1 rn1 rc1) (.slice rA2 rn2 rc2) (.slice rA3 rn3 rc3) (.slice rA4 rn4 rc4) (.slice rA5 rn5 rc5) (.slice rA6 rn6 rc6)) w')) (fun v10 _ => 21 - (intOf v10).toNat)
                case atStart => exact ⟨0, rfl, by omega, H5⟩
                case round =>
                  obtain ⟨x9, rfl, hx, H6⟩ := hrel
                  clear H5
                  by_cases hlx : x9 < 16
                  · go_wp2
                    obtain ⟨wq, rfl⟩ : ∃ wq : World, wq = wr := ⟨_, rfl⟩
                    refine start_ (n:=15) (S:=fun w' => w'.cell? ⟨wh6.heap.size, 16, none⟩ = some (.slice rA3 rn3 rc3) ∧ w'.cell? ⟨wh6.heap.size, 17, none⟩ = some (.slice none 0 0) ∧ w'.cell? ⟨wh6.heap.size, 18, none⟩ = some (.slice rA4 rn4 rc4) ∧ w'.cell? ⟨wh6.heap.size, 19, none⟩ = some (.slice none 0 0)) (ds:=[]) (bb5 15 0) (by kernel_rfl) rfl rfl ⟨Blk.cell H6.out.now.k8 16, Blk.cell H6.out.now.k8 17, Blk.cell H6.out.now.k8 18, Blk.cell H6.out.now.k8 19⟩ (fun hHeld => ?_); refine with_tabW qa.tab19 qa.bits19 (fun HT_ HW_ => ?_)
                    replace H6 := Aside0.mk H6.out.drew
                    generalize wr.drew = wz at H6 hHeld ⊢
                    refine pure_ (i:=0) (N:=some 70) (v:=?_) (a' := ?_) (bb5 15 1) rfl rfl (any_of HT_.out (by kernel_rfl)) (fun _ _ _ h => h) (Or.inl ⟨by rfl, ?_⟩) ?_ ?_
                    rotate_left
                    · (intro w'; go_simp; with_reducible rfl)
                    rotate_left
                    · (simp only [Act.put, List.setIfInBounds_toArray, List.set_cons_zero, List.set_cons_succ, i64_w, i32_w]; rfl)
                    refine pure_ (i:=1) (N:=some 71) (v:=?_) (a' := ?_) (bb5 15 3) rfl rfl (any_of HT_.out (by kernel_rfl)) (fun _ _ _ h => h) (Or.inl ⟨by rfl, ?_⟩) ?_ ?_
                    rotate_left
                    · (intro w'; go_simp; with_reducible rfl)
                    rotate_left
                    · (simp only [Act.put, List.setIfInBounds_toArray, List.set_cons_zero, List.set_cons_succ, i64_w, i32_w]; rfl)
                    refine pure_ (i:=2) (N:=some 72) (v:=?_) (a' := ?_) (bb5 15 7) rfl rfl (any_of HT_.out (by kernel_rfl)) (fun _ _ _ h => h) (Or.inl ⟨by rfl, ?_⟩) ?_ ?_
                    rotate_left
                    · (intro w'; go_simp; with_reducible rfl)
                    rotate_left
                    · (simp only [Act.put, List.setIfInBounds_toArray, List.set_cons_zero, List.set_cons_succ, i64_w, i32_w]; rfl)
                    refine take_ (i:=3) (N:=some 73) (v:=?_) (a' := ?_) (bb5 15 15) rfl rfl (take_ofW HT_.out HW_.out (by kernel_rfl)) (fun _ _ _ h => h) (Or.inl ⟨by rfl, ?_⟩) hHeld ?_ ?_
                    rotate_left
                    · (rintro w' ⟨e0, e1, e2, e3⟩; go_simp; with_reducible rfl)
                    rotate_left
                    · (simp only [Act.put, List.setIfInBounds_toArray, List.set_cons_zero, List.set_cons_succ, i64_w, i32_w]; rfl)
                    refine pure_ (i:=4) (N:=some 74) (v:=?_) (a' := ?_) (bb5 15 31) rfl rfl (any_of HT_.out (by kernel_rfl)) (fun _ _ _ h => h) (Or.inl ⟨by rfl, ?_⟩) ?_ ?_
                    rotate_left
                    · (intro w'; go_simp; with_reducible rfl)
                    rotate_left
                    · (simp only [Act.put, List.setIfInBounds_toArray, List.set_cons_zero, List.set_cons_succ, i64_w, i32_w]; rfl)
                    refine pure_ (i:=6) (N:=some 76) (v:=?_) (a' := ?_) (bb5 15 95) rfl rfl (any_of HT_.out (by kernel_rfl)) (fun _ _ _ h => h) (Or.inl ⟨by rfl, ?_⟩) ?_ ?_
                    rotate_left
                    · (intro w'; go_simp; with_reducible rfl)
                    rotate_left
                    · (simp only [Act.put, List.setIfInBounds_toArray, List.set_cons_zero, List.set_cons_succ, i64_w, i32_w]; rfl)
                    refine pure_ (i:=7) (N:=some 77) (v:=?_) (a' := ?_) (bb5 15 223) rfl rfl (any_of HT_.out (by kernel_rfl)) (fun _ _ _ h => h) (Or.inl ⟨by rfl, ?_⟩) ?_ ?_
                    rotate_left
                    · (intro w'; go_simp; with_reducible rfl)
                    rotate_left
                    · (simp only [Act.put, List.setIfInBounds_toArray, List.set_cons_zero, List.set_cons_succ, i64_w, i32_w]; rfl)
                    refine pure_ (i:=8) (N:=some 78) (v:=?_) (a' := ?_) (bb5 15 479) rfl rfl (any_of HT_.out (by kernel_rfl)) (fun _ _ _ h => h) (Or.inl ⟨by rfl, ?_⟩) ?_ ?_
                    rotate_left
                    · (intro w'; go_simp; with_reducible rfl)
                    rotate_left
                    · (simp only [Act.put, List.setIfInBounds_toArray, List.set_cons_zero, List.set_cons_succ, i64_w, i32_w]; rfl)
                    refine pure_ (i:=9) (N:=some 79) (v:=?_) (a' := ?_) (bb5 15 991) rfl rfl (any_of HT_.out (by kernel_rfl)) (fun _ _ _ h => h) (Or.inl ⟨by rfl, ?_⟩) ?_ ?_
                    rotate_left
                    · (intro w'; go_simp; with_reducible rfl)
                    rotate_left
                    · (simp only [Act.put, List.setIfInBounds_toArray, List.set_cons_zero, List.set_cons_succ, i64_w, i32_w]; rfl)
                    refine pure_ (i:=10) (N:=some 80) (v:=?_) (a' := ?_) (bb5 15 2015) rfl rfl (any_of HT_.out (by kernel_rfl)) (fun _ _ _ h => h) (Or.inl ⟨by rfl, ?_⟩) ?_ ?_
                    rotate_left
                    · (intro w'; go_simp; with_reducible rfl)
                    rotate_left
                    · (simp only [Act.put, List.setIfInBounds_toArray, List.set_cons_zero, List.set_cons_succ, i64_w, i32_w]; rfl)
                    refine pure_ (i:=11) (N:=some 81) (v:=?_) (a' := ?_) (bb5 15 4063) rfl rfl (any_of HT_.out (by kernel_rfl)) (fun _ _ _ h => h) (Or.inl ⟨by rfl, ?_⟩) ?_ ?_
                    rotate_left
                    · (intro w'; go_simp; with_reducible rfl)
                    rotate_left
                    · (simp only [Act.put, List.setIfInBounds_toArray, List.set_cons_zero, List.set_cons_succ, i64_w, i32_w]; rfl)
                    refine pure_ (i:=12) (N:=some 82) (v:=?_) (a' := ?_) (bb5 15 8159) rfl rfl (any_of HT_.out (by kernel_rfl)) (fun _ _ _ h => h) (Or.inl ⟨by rfl, ?_⟩) ?_ ?_
                    rotate_left
                    · (intro w'; go_simp; with_reducible rfl)
                    rotate_left
                    · (simp only [Act.put, List.setIfInBounds_toArray, List.set_cons_zero, List.set_cons_succ, i64_w, i32_w]; rfl)
                    refine one_ (i:=5) (N:=some 75) (bb5 15 8191) rfl rfl (one_of HT_.out (by kernel_rfl)) (by decide) (fun K hK => ?_)
                    refine goes_ Try.func32 (by kernel_rfl) rfl #[.int .i64 x9] (by rfl) rfl rfl (by (try simp only [List.map_toArray, List.map_cons, List.map_nil]); first | done | rfl) ?_
                    refine (c32 _ _).mono ?_
                    rintro e wy ⟨s1, rfl, hg, hb⟩
                    obtain ⟨tA, tn, tc, rfl⟩ := hg.form
                    refine ⟨_, rfl, ?_⟩
                    replace H6 := Aside0.mk (H6.out.step hb)
                    have HY := Aside0.mk hg
                    clear hg hb
                    refine hK.out _ _ ⟨Blk.cell H6.out.now.k8 16, Blk.cell H6.out.now.k8 17, Blk.cell H6.out.now.k8 18, Blk.cell H6.out.now.k8 19⟩ (fun hHeld => ?_)
                    clear hK K
                    refine norm_ (a' := ?_) ?_ ?_
                    rotate_left
                    · (show Act.put _ (some 75) _ = _; simp only [Act.put, List.setIfInBounds_toArray, List.set_cons_zero, List.set_cons_succ, i64_w, i32_w]; rfl)
                    refine one_ (i:=13) (N:=some 83) (bb5 15 16383) rfl rfl (one_of HT_.out (by kernel_rfl)) (by decide) (fun K hK => ?_)
                    refine goes_ Try.func5 (by kernel_rfl) rfl #[.agg #[.slice rA3 rn3 rc3, .slice none 0 0, .slice rA4 rn4 rc4, .slice none 0 0], .slice tA tn tc, .int .i64 (wrap64 (1 + (wrap64 (wrap64 ((v : Int) + (u : Int)) + (x9 : Int))).tmod 4))] (by rfl) rfl rfl (by (try simp only [List.map_toArray, List.map_cons, List.map_nil]); first | done | rfl) ?_
                    refine (c5 _ ⟨H6.out.now.r3, G.nil _, H6.out.now.r4, G.nil _⟩ HY.out).mono ?_
                    rintro e wx ⟨rfl, hb⟩
                    refine ⟨_, rfl, ?_⟩
                    replace H6 := Aside0.mk (H6.out.step hb)
                    clear hb HY
                    refine hK.out _ _ ⟨Blk.cell H6.out.now.k8 16, Blk.cell H6.out.now.k8 17, Blk.cell H6.out.now.k8 18, Blk.cell H6.out.now.k8 19⟩ (fun hHeld => ?_)
                    clear hK K
                    refine norm_ (a' := ?_) ?_ ?_
                    rotate_left
                    · (show Act.put _ (some 83) _ = _; simp only [Act.put, List.setIfInBounds_toArray, List.set_cons_zero, List.set_cons_succ, i64_w, i32_w]; rfl)
                    refine pure_ (i:=14) (N:=some 84) (v:=?_) (a' := ?_) (bb5 15 32767) rfl rfl (any_of HT_.out (by kernel_rfl)) (fun _ _ _ h => h) (Or.inl ⟨by rfl, ?_⟩) ?_ ?_
                    rotate_left
                    · (intro w'; go_simp; with_reducible rfl)
                    rotate_left
                    · (simp only [Act.put, List.setIfInBounds_toArray, List.set_cons_zero, List.set_cons_succ, i64_w, i32_w]; rfl)
                    refine done_ (done_of HT_.out (by kernel_rfl)) ?_
                    clear hHeld HT_ HW_
                    go_wp2
                    go_roundw
                    case rel => exact ⟨x9 + 2, by go_num, by omega, H6⟩
                    case measure => simp [intOf]; omega
                  · go_wp2
                    go_roundw
                    case rel => exact ⟨5, by go_num, by omega, H6⟩
                    case measure => first | (simp [intOf]; done) | (simp [intOf]; omega)
              · go_wp2
                go_loopw [10] (fun v10 w' => ∃ x : Nat, v10 = .int .i64 x ∧ x ≤ 21 ∧ Aside0 (Stay (E4 w wh6.heap.size (.slice sA sn sc) (.slice aA0 an0 ac0) (.slice aA1 an1 ac1) (.slice aA2 an2 ac2) (.slice aA3 an3 ac3) (.slice pA0 pn0 pc0) (.slice pA1 pn1 pc1) (.slice pA2 pn2 pc2) (.slice pA3 pn3 pc3) (.slice rA0 rn0 rc0) (.slice rA1 rn1 rc1) (.slice rA2 rn2 rc2) (.slice rA3 rn3 rc3) (.slice rA4 rn4 rc4) (.slice rA5 rn5 rc5) (.slice rA6 rn6 rc6)) w')) (fun v10 _ => 21 - (intOf v10).toNat)
                case atStart => exact ⟨0, rfl, by omega, H5⟩
                case round =>
                  obtain ⟨x9, rfl, hx, H6⟩ := hrel
                  clear H5
                  by_cases hlx : x9 < 16
                  · go_wp2
                    obtain ⟨wq, rfl⟩ : ∃ wq : World, wq = wr := ⟨_, rfl⟩
                    refine start_ (n:=15) (S:=fun w' => w'.cell? ⟨wh6.heap.size, 20, none⟩ = some (.slice rA5 rn5 rc5) ∧ w'.cell? ⟨wh6.heap.size, 21, none⟩ = some (.slice none 0 0) ∧ w'.cell? ⟨wh6.heap.size, 22, none⟩ = some (.slice none 0 0) ∧ w'.cell? ⟨wh6.heap.size, 23, none⟩ = some (.slice rA6 rn6 rc6)) (ds:=[]) (bb5 15 0) (by kernel_rfl) rfl rfl ⟨Blk.cell H6.out.now.k8 20, Blk.cell H6.out.now.k8 21, Blk.cell H6.out.now.k8 22, Blk.cell H6.out.now.k8 23⟩ (fun hHeld => ?_); refine with_tabW qa.tab19 qa.bits19 (fun HT_ HW_ => ?_)
                    replace H6 := Aside0.mk H6.out.drew
                    generalize wr.drew = wz at H6 hHeld ⊢
                    refine pure_ (i:=0) (N:=some 70) (v:=?_) (a' := ?_) (bb5 15 1) rfl rfl (any_of HT_.out (by kernel_rfl)) (fun _ _ _ h => h) (Or.inl ⟨by rfl, ?_⟩) ?_ ?_
                    rotate_left
                    · (intro w'; go_simp; with_reducible rfl)
                    rotate_left
                    · (simp only [Act.put, List.setIfInBounds_toArray, List.set_cons_zero, List.set_cons_succ, i64_w, i32_w]; rfl)
                    refine pure_ (i:=1) (N:=some 71) (v:=?_) (a' := ?_) (bb5 15 3) rfl rfl (any_of HT_.out (by kernel_rfl)) (fun _ _ _ h => h) (Or.inl ⟨by rfl, ?_⟩) ?_ ?_
                    rotate_left
                    · (intro w'; go_simp; with_reducible rfl)
                    rotate_left
                    · (simp only [Act.put, List.setIfInBounds_toArray, List.set_cons_zero, List.set_cons_succ, i64_w, i32_w]; rfl)
                    refine pure_ (i:=2) (N:=some 72) (v:=?_) (a' := ?_) (bb5 15 7) rfl rfl (any_of HT_.out (by kernel_rfl)) (fun _ _ _ h => h) (Or.inl ⟨by rfl, ?_⟩) ?_ ?_
                    rotate_left
                    · (intro w'; go_simp; with_reducible rfl)
                    rotate_left
                    · (simp only [Act.put, List.setIfInBounds_toArray, List.set_cons_zero, List.set_cons_succ, i64_w, i32_w]; rfl)
                    refine take_ (i:=3) (N:=some 73) (v:=?_) (a' := ?_) (bb5 15 15) rfl rfl (take_ofW HT_.out HW_.out (by kernel_rfl)) (fun _ _ _ h => h) (Or.inl ⟨by rfl, ?_⟩) hHeld ?_ ?_
                    rotate_left
                    · (rintro w' ⟨e0, e1, e2, e3⟩; go_simp; with_reducible rfl)
                    rotate_left
                    · (simp only [Act.put, List.setIfInBounds_toArray, List.set_cons_zero, List.set_cons_succ, i64_w, i32_w]; rfl)
                    refine pure_ (i:=4) (N:=some 74) (v:=?_) (a' := ?_) (bb5 15 31) rfl rfl (any_of HT_.out (by kernel_rfl)) (fun _ _ _ h => h) (Or.inl ⟨by rfl, ?_⟩) ?_ ?_
                    rotate_left
                    · (intro w'; go_simp; with_reducible rfl)
                    rotate_left
                    · (simp only [Act.put, List.setIfInBounds_toArray, List.set_cons_zero, List.set_cons_succ, i64_w, i32_w]; rfl)
                    refine pure_ (i:=6) (N:=some 76) (v:=?_) (a' := ?_) (bb5 15 95) rfl rfl (any_of HT_.out (by kernel_rfl)) (fun _ _ _ h => h) (Or.inl ⟨by rfl, ?_⟩) ?_ ?_
                    rotate_left
                    · (intro w'; go_simp; with_reducible rfl)
                    rotate_left
                    · (simp only [Act.put, List.setIfInBounds_toArray, List.set_cons_zero, List.set_cons_succ, i64_w, i32_w]; rfl)
                    refine pure_ (i:=7) (N:=some 77) (v:=?_) (a' := ?_) (bb5 15 223) rfl rfl (any_of HT_.out (by kernel_rfl)) (fun _ _ _ h => h) (Or.inl ⟨by rfl, ?_⟩) ?_ ?_
                    rotate_left
                    · (intro w'; go_simp; with_reducible rfl)
                    rotate_left
                    · (simp only [Act.put, List.setIfInBounds_toArray, List.set_cons_zero, List.set_cons_succ, i64_w, i32_w]; rfl)
                    refine pure_ (i:=8) (N:=some 78) (v:=?_) (a' := ?_) (bb5 15 479) rfl rfl (any_of HT_.out (by kernel_rfl)) (fun _ _ _ h => h) (Or.inl ⟨by rfl, ?_⟩) ?_ ?_
                    rotate_left
                    · (intro w'; go_simp; with_reducible rfl)
                    rotate_left
                    · (simp only [Act.put, List.setIfInBounds_toArray, List.set_cons_zero, List.set_cons_succ, i64_w, i32_w]; rfl)
                    refine pure_ (i:=9) (N:=some 79) (v:=?_) (a' := ?_) (bb5 15 991) rfl rfl (any_of HT_.out (by kernel_rfl)) (fun _ _ _ h => h) (Or.inl ⟨by rfl, ?_⟩) ?_ ?_
                    rotate_left
                    · (intro w'; go_simp; with_reducible rfl)
                    rotate_left
                    · (simp only [Act.put, List.setIfInBounds_toArray, List.set_cons_zero, List.set_cons_succ, i64_w, i32_w]; rfl)
                    refine pure_ (i:=10) (N:=some 80) (v:=?_) (a' := ?_) (bb5 15 2015) rfl rfl (any_of HT_.out (by kernel_rfl)) (fun _ _ _ h => h) (Or.inl ⟨by rfl, ?_⟩) ?_ ?_
                    rotate_left
                    · (intro w'; go_simp; with_reducible rfl)
                    rotate_left
                    · (simp only [Act.put, List.setIfInBounds_toArray, List.set_cons_zero, List.set_cons_succ, i64_w, i32_w]; rfl)
                    refine pure_ (i:=11) (N:=some 81) (v:=?_) (a' := ?_) (bb5 15 4063) rfl rfl (any_of HT_.out (by kernel_rfl)) (fun _ _ _ h => h) (Or.inl ⟨by rfl, ?_⟩) ?_ ?_
                    rotate_left
                    · (intro w'; go_simp; with_reducible rfl)
                    rotate_left
                    · (simp only [Act.put, List.setIfInBounds_toArray, List.set_cons_zero, List.set_cons_succ, i64_w, i32_w]; rfl)
                    refine pure_ (i:=12) (N:=some 82) (v:=?_) (a' := ?_) (bb5 15 8159) rfl rfl (any_of HT_.out (by kernel_rfl)) (fun _ _ _ h => h) (Or.inl ⟨by rfl, ?_⟩) ?_ ?_
                    rotate_left
                    · (intro w'; go_simp; with_reducible rfl)
                    rotate_left
                    · (simp only [Act.put, List.setIfInBounds_toArray, List.set_cons_zero, List.set_cons_succ, i64_w, i32_w]; rfl)
                    refine one_ (i:=5) (N:=some 75) (bb5 15 8191) rfl rfl (one_of HT_.out (by kernel_rfl)) (by decide) (fun K hK => ?_)
                    refine goes_ Try.func32 (by kernel_rfl) rfl #[.int .i64 x9] (by rfl) rfl rfl (by (try simp only [List.map_toArray, List.map_cons, List.map_nil]); first | done | rfl) ?_
                    refine (c32 _ _).mono ?_
                    rintro e wy ⟨s1, rfl, hg, hb⟩
                    obtain ⟨tA, tn, tc, rfl⟩ := hg.form
                    refine ⟨_, rfl, ?_⟩
                    replace H6 := Aside0.mk (H6.out.step hb)
                    have HY := Aside0.mk hg
                    clear hg hb
                    refine hK.out _ _ ⟨Blk.cell H6.out.now.k8 20, Blk.cell H6.out.now.k8 21, Blk.cell H6.out.now.k8 22, Blk.cell H6.out.now.k8 23⟩ (fun hHeld => ?_)
                    clear hK K
                    refine norm_ (a' := ?_) ?_ ?_
                    rotate_left
                    · (show Act.put _ (some 75) _ = _; simp only [Act.put, List.setIfInBounds_toArray, List.set_cons_zero, List.set_cons_succ, i64_w, i32_w]; rfl)
                    refine one_ (i:=13) (N:=some 83) (bb5 15 16383) rfl rfl (one_of HT_.out (by kernel_rfl)) (by decide) (fun K hK => ?_)
                    refine goes_ Try.func5 (by kernel_rfl) rfl #[.agg #[.slice rA5 rn5 rc5, .slice none 0 0, .slice none 0 0, .slice rA6 rn6 rc6], .slice tA tn tc, .int .i64 (wrap64 (1 + (wrap64 (wrap64 ((v : Int) + (u : Int)) + (x9 : Int))).tmod 4))] (by rfl) rfl rfl (by (try simp only [List.map_toArray, List.map_cons, List.map_nil]); first | done | rfl) ?_
                    refine (c5 _ ⟨H6.out.now.r5, G.nil _, G.nil _, H6.out.now.r6⟩ HY.out).mono ?_
                    rintro e wx ⟨rfl, hb⟩
                    refine ⟨_, rfl, ?_⟩
                    replace H6 := Aside0.mk (H6.out.step hb)
                    clear hb HY
                    refine hK.out _ _ ⟨Blk.cell H6.out.now.k8 20, Blk.cell H6.out.now.k8 21, Blk.cell H6.out.now.k8 22, Blk.cell H6.out.now.k8 23⟩ (fun hHeld => ?_)
                    clear hK K
                    refine norm_ (a' := ?_) ?_ ?_
                    rotate_left
                    · (show Act.put _ (some 83) _ = _; simp only [Act.put, List.setIfInBounds_toArray, List.set_cons_zero, List.set_cons_succ, i64_w, i32_w]; rfl)
                    refine pure_ (i:=14) (N:=some 84) (v:=?_) (a' := ?_) (bb5 15 32767) rfl rfl (any_of HT_.out (by kernel_rfl)) (fun _ _ _ h => h) (Or.inl ⟨by rfl, ?_⟩) ?_ ?_
                    rotate_left
                    · (intro w'; go_simp; with_reducible rfl)
                    rotate_left
                    · (simp only [Act.put, List.setIfInBounds_toArray, List.set_cons_zero, List.set_cons_succ, i64_w, i32_w]; rfl)
                    refine done_ (done_of HT_.out (by kernel_rfl)) ?_
                    clear hHeld HT_ HW_
                    go_wp2
                    go_roundw
                    case rel => exact ⟨x9 + 2, by go_num, by omega, H6⟩
                    case measure => simp [intOf]; omega
                  · go_wp2
                    go_roundw
                    case rel => exact ⟨6, by go_num, by omega, H6⟩
                    case measure => first | (simp [intOf]; done) | (simp [intOf]; omega)
            · obtain rfl : i = 6 := by omega
              go_wp2
              go_roundw
              case rel => exact ⟨u + 1, by go_num, by omega, ⟨H5.out.now.b⟩⟩
              case measure => simp [intOf]; omega
        · obtain rfl : u = 16 := by omega
          go_wp2
          go_roundw
          case rel => exact ⟨v + 1, by go_num, by omega, HB3⟩
          case measure => simp [intOf]; omega
    · obtain rfl : v = 16 := by omega
      go_wp2
      go_ret
      exact ⟨rfl, HB2.out⟩
end Go.Proofs.Ytkilmclncpmjnaa.P06t
