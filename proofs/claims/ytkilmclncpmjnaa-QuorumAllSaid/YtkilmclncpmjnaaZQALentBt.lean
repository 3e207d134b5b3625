import Derived.Test.YtkilmclncpmjnaaZQALentAt

namespace Go.Proofs.Ytkilmclncpmjnaa.P06t
open Go.RowKit Go.Proofs.YtkilmclncpmjnaaW.PrintWords Go.Proofs.YtkilmclncpmjnaaW.PrintLast Go.Proofs.YtkilmclncpmjnaaW.PrintMore
/-- A row that may be written over: nil, or a block of whole numbers, wholly behind it. -/
def Owned (w : World) (B : Nat) (v : Value) : Prop := v = .slice none 0 0 ∨ ∃ g n cap cur, v = .slice (some ⟨g, 0, none⟩) n cap ∧ B ≤ g ∧ w.heap[g]? = some (.cells cur 3 (0, 0)) ∧ n ≤ cap ∧ cap ≤ maxLen ∧ cur.size = cap
/-- What writing over rows leaves: what lies below B as it was; blocks of whole numbers stay such, of their sizes. -/
structure Overs (B : Nat) (w w' : World) : Prop where
  below : Below B w w'
  rows : ∀ (k : Nat) (cur : Array Value), w.heap[k]? = some (Obj.cells cur 3 (0, 0)) → ∃ cur' : Array Value, w'.heap[k]? = some (Obj.cells cur' 3 (0, 0)) ∧ cur'.size = cur.size
  other : ∀ (k : Nat) (o : Obj), w.heap[k]? = some o → (∀ cur, o ≠ Obj.cells cur 3 (0, 0)) → w'.heap[k]? = some o
theorem Overs.refl (B : Nat) (w : World) : Overs B w w := ⟨Below.refl _ _, fun _ cur h => ⟨cur, h, rfl⟩, fun _ _ h _ => h⟩
theorem Overs.trans {B : Nat} {a b c : World} (h : Overs B a b) (k : Overs B b c) : Overs B a c :=
  ⟨h.below.trans k.below, fun i cur hi => by
    obtain ⟨c1, h1, s1⟩ := h.rows i cur hi
    obtain ⟨c2, h2, s2⟩ := k.rows i c1 h1
    exact ⟨c2, h2, s2.trans s1⟩, fun i o hi hn => k.other i o (h.other i o hi hn) hn⟩
theorem Overs.of_below {B : Nat} {a b : World} (h : Below a.heap.size a b) (hB : B ≤ a.heap.size) : Overs B a b :=
  ⟨h.mono hB, fun _ cur hk => ⟨cur, blk_below hk h, rfl⟩, fun _ _ hk _ => blk_below hk h⟩
theorem Overs.set {B : Nat} {w : World} {g i : Nat} {x : Int} {cs : Array Value} (hB : B ≤ g) (hg : w.heap[g]? = some (Obj.cells cs 3 (0, 0))) : Overs B w (w.setCell ⟨g, i, none⟩ (.int .i64 x)) :=
  ⟨(Below.refl B w).setCell (p := ⟨g, i, none⟩) hB _, fun k cur hk => by
    by_cases e : k = g
    · subst e
      exact ⟨_, by simpa using blk_set hk i (.int .i64 x), by simp⟩
    · exact ⟨cur, (Below.heap_setCell w ⟨g, i, none⟩ _ k e).trans hk, rfl⟩, fun k o hk hn => by
    by_cases e : k = g
    · subst e
      rw [hg] at hk
      injection hk with hk
      exact absurd hk.symm (hn cs)
    · exact (Below.heap_setCell w ⟨g, i, none⟩ _ k e).trans hk⟩
theorem Overs.of_set {B g : Nat} {w : World} {cs : Array Value} (hB : B ≤ g) (hg : w.heap[g]? = some (Obj.cells cs 3 (0, 0))) (i : Nat) (x : Int) : Overs B w (w.setCell ⟨g, i, none⟩ (.int .i64 x)) := Overs.set hB hg
theorem Overs.drewN (B : Nat) (w : World) (n : Nat) : Overs B w (w.drewN n) := ⟨⟨rfl, rfl, rfl, Nat.le_refl _, fun _ _ => rfl⟩, fun _ cur h => ⟨cur, h, rfl⟩, fun _ _ h _ => h⟩
theorem Owned.over {B : Nat} {a b : World} {v : Value} (h : Owned a B v) (k : Overs B a b) : Owned b B v := by
  rcases h with rfl | ⟨g, n, cap, cur, rfl, hB, hg, h1, h2, h3⟩
  · exact .inl rfl
  · obtain ⟨cur', hg', hs⟩ := k.rows g cur hg
    exact .inr ⟨g, n, cap, cur', rfl, hB, hg', h1, h2, hs.trans h3⟩
theorem Owned.of_R {ok : Nat → Prop} {base B : Nat} {w : World} {v : Value} {xs : List Int} (h : Kd.R (Kd.int .i64) 3 w base ok v xs) (hB : B ≤ base) : Owned w B v := by
  obtain ⟨_, inner, ho, _⟩ := h
  rcases ho.2 with ⟨rfl, _⟩ | ⟨g, cap, cur, rfl, hb, hg, h1, h2, h3, _⟩
  · exact .inl rfl
  · exact .inr ⟨g, _, cap, cur, rfl, by omega, hg, h1, h2, by simpa [Kd.int, Kd.scalar] using h3⟩
set_option maxHeartbeats 4000000 in
set_option maxRecDepth 100000 in
theorem over_ints (v : Value) (B : Nat) (w : World) (ho : Owned w B v) (hl : ∀ A n c, v = .slice A n c → n ≤ 1000) :
    Calls Try.prog 51 #[v] w fun e w' => e = .returned (.tuple #[]) ∧ Overs B w w' := by
  rcases ho with rfl | ⟨g, n, cap, cur, rfl, hB, hg, h1, h2, h3⟩
  · go_enter Try.func51, Try.ntmps51
    go_wp2
    go_loopw [3] (fun v3 w' => v3 = .int .i64 0 ∧ w' = w) (fun _ _ => 0)
    case atStart => exact ⟨rfl, rfl⟩
    case round =>
      obtain ⟨rfl, rfl⟩ := hrel
      go_wp2
      go_end0
      exact ⟨rfl, Overs.refl _ _⟩
  · have hn := hl _ _ _ rfl
    clear hl
    have HG := Aside0.mk hg
    clear hg
    simp only [maxLen] at h2
    by_cases hcap : cap ≤ n + 12
    · have hcap' : (cap : Int) ≤ (n : Int) + 12 := by omega
      go_enter Try.func51, Try.ntmps51
      go_wp2
      go_loopw [3] (fun v3 w' => ∃ i : Nat, i ≤ cap ∧ v3 = .int .i64 i ∧ Aside0 (Overs B w w')) (fun v3 _ => cap - (intOf v3).toNat)
      case atStart => exact ⟨0, by omega, rfl, ⟨Overs.refl _ _⟩⟩
      case round =>
        obtain ⟨i, hi, rfl, HV⟩ := hrel
        by_cases hlt : i < cap
        · obtain ⟨cur', hg', hs'⟩ := HV.out.rows g cur HG.out
          have hmark := mark_2 i (by omega) (by omega)
          have HM := Aside0.mk hmark
          clear hmark
          have b1 : (0 : Int) ≤ (i : Int) := by omega
          have b2 : (i : Int) < ((cap : Nat) : Int) := by omega
          have HK := Aside0.mk hg'
          have hcell : wr.cell? ⟨g, i, none⟩ = some (cur'[i]'(by omega)) := (blk_cell hg' i).trans (Array.getElem?_eq_getElem (by omega))
          have hfz : wr.frozen? ⟨g, i, none⟩ = false := blk_frozen hg' i
          clear hg'
          go_wp2_with (go_at_call 42; refine (watershedkit_mark.calls 2 i _ _ HM.out).mono ?_; rintro e w' ⟨rfl, ⟨nd, rfl⟩⟩)
          go_roundw
          case rel => exact ⟨i + 1, by omega, by go_num, ⟨(HV.out.trans (Overs.drewN _ _ _)).trans (Overs.of_set hB (blk_drewN HK.out _) _ _)⟩⟩
          case measure => simp [intOf]; omega
        · obtain rfl : i = cap := by omega
          go_wp2
          go_end0
          exact ⟨rfl, HV.out⟩
    · have hcap' : (n : Int) + 12 < (cap : Int) := by omega
      have e12 : ((n : Int) + 12).toNat = n + 12 := by omega
      go_enter Try.func51, Try.ntmps51
      go_wp2
      (try simp only [e12])
      go_loopw [3] (fun v3 w' => ∃ i : Nat, i ≤ n + 12 ∧ v3 = .int .i64 i ∧ Aside0 (Overs B w w')) (fun v3 _ => (n + 12) - (intOf v3).toNat)
      case atStart => exact ⟨0, by omega, rfl, ⟨Overs.refl _ _⟩⟩
      case round =>
        obtain ⟨i, hi, rfl, HV⟩ := hrel
        by_cases hlt : i < (n + 12)
        · obtain ⟨cur', hg', hs'⟩ := HV.out.rows g cur HG.out
          have hmark := mark_2 i (by omega) (by omega)
          have HM := Aside0.mk hmark
          clear hmark
          have b1 : (0 : Int) ≤ (i : Int) := by omega
          have b2 : (i : Int) < (((n + 12) : Nat) : Int) := by omega
          have HK := Aside0.mk hg'
          have hcell : wr.cell? ⟨g, i, none⟩ = some (cur'[i]'(by omega)) := (blk_cell hg' i).trans (Array.getElem?_eq_getElem (by omega))
          have hfz : wr.frozen? ⟨g, i, none⟩ = false := blk_frozen hg' i
          clear hg'
          go_wp2_with (go_at_call 42; refine (watershedkit_mark.calls 2 i _ _ HM.out).mono ?_; rintro e w' ⟨rfl, ⟨nd, rfl⟩⟩)
          go_roundw
          case rel => exact ⟨i + 1, by omega, by go_num, ⟨(HV.out.trans (Overs.drewN _ _ _)).trans (Overs.of_set hB (blk_drewN HK.out _) _ _)⟩⟩
          case measure => simp [intOf]; omega
        · obtain rfl : i = n + 12 := by omega
          go_wp2
          go_end0
          exact ⟨rfl, HV.out⟩
theorem results_c1 {P : Program} {fn : Func} {p : Tmp} {ty : TypeId} (h : fn.results = #[.cell p ty]) (tmps : Array Value) (w : World) (g : Nat) (t : TypeId) (cs : Array Value) (fr : Nat × Nat) (d : TypeDesc)
    (hp : tmps.getD p undef = .pointer (some ⟨g, 0, none⟩)) (hg : w.heap[g]? = some (.cells cs t fr))
    (hu : P.underlying ty = some d) (hd : (match d with | .struct _ | .array _ _ => true | _ => false) = true) (hi : (P.info? ty).map (·.size) = some cs.size) :
    (results fn tmps).run P w = .ok (.agg cs) w := by
  have hp' : tmps[p]?.getD undef = .pointer (some ⟨g, 0, none⟩) := by simpa using hp
  simp [results, h, hp', asAddr, run_loadVar_row w g t ty cs fr d hg hu hd hi]
set_option maxHeartbeats 4000000 in
set_option maxRecDepth 100000 in
theorem lent_config (A0 A1 A2 A3 : Option Addr) (c0 c1 c2 c3 : Nat) (l0 l1 l2 l3 : List Int) (w : World) (h0 : Kd.C (Kd.int .i64) w A0 l0.length l0) (h1 : Kd.C (Kd.int .i64) w A1 l1.length l1) (h2 : Kd.C (Kd.int .i64) w A2 l2.length l2) (h3 : Kd.C (Kd.int .i64) w A3 l3.length l3)
    (b0 : l0.length ≤ 1000) (b1 : l1.length ≤ 1000) (b2 : l2.length ≤ 1000) (b3 : l3.length ≤ 1000) :
    Calls Try.prog 18 #[.agg #[.slice A0 l0.length c0, .slice A1 l1.length c1, .slice A2 l2.length c2, .slice A3 l3.length c3]] w fun e w' => ∃ g0 g1 g2 g3,
      e = .returned (.agg #[.slice (some ⟨g0, 0, none⟩) l0.length (l0.length + 12), .slice (some ⟨g1, 0, none⟩) l1.length (l1.length + 12), .slice (some ⟨g2, 0, none⟩) l2.length (l2.length + 12), .slice (some ⟨g3, 0, none⟩) l3.length (l3.length + 12)]) ∧
      (w'.heap[g0]? = some (.cells (nums .i64 (l0 ++ marks 8000024 12)).toArray 3 (0, 0)) ∧ w'.heap[g1]? = some (.cells (nums .i64 (l1 ++ marks 8000024 12)).toArray 3 (0, 0)) ∧ w'.heap[g2]? = some (.cells (nums .i64 (l2 ++ marks 8000024 12)).toArray 3 (0, 0)) ∧ w'.heap[g3]? = some (.cells (nums .i64 (l3 ++ marks 8000024 12)).toArray 3 (0, 0))) ∧ Below w.heap.size w w' := by
  have H0 := Aside0.mk h0
  have H1 := Aside0.mk h1
  have H2 := Aside0.mk h2
  have H3 := Aside0.mk h3
  have B0 := Aside0.mk b0
  have B1 := Aside0.mk b1
  have B2 := Aside0.mk b2
  have B3 := Aside0.mk b3
  clear h0 h1 h2 h3 b0 b1 b2 b3
  have hu := Try.underlying24
  go_enter Try.func18, Try.ntmps18
  go_wp2_with (fail)
  refine (lent_ints A0 c0 l0 _ (Kd.C_alloc (Kd.C_alloc H0.out _) _) B0.out).mono ?_
  rintro e w1 ⟨g0, rfl, k0, q0, hb⟩
  have HB := Aside0.mk (below_step (below_alloc (below_alloc (Below.refl _ _) _) _) hb)
  have KG := blk_below (blk_alloc (blk_new w (.cells #[.slice A0 l0.length c0, .slice A1 l1.length c1, .slice A2 l2.length c2, .slice A3 l3.length c3] 24)) (.cells #[.slice none 0 0, .slice none 0 0, .slice none 0 0, .slice none 0 0] 24)) hb
  have KR := blk_below (blk_new (w.alloc (.cells #[.slice A0 l0.length c0, .slice A1 l1.length c1, .slice A2 l2.length c2, .slice A3 l3.length c3] 24)) (.cells #[.slice none 0 0, .slice none 0 0, .slice none 0 0, .slice none 0 0] 24)) hb
  rw [World.size_alloc] at KR
  have q0' : w.heap.size + 2 ≤ g0 := by rw [World.size_alloc, World.size_alloc] at q0; exact q0
  clear q0 hb
  replace k0 := Aside0.mk k0
  obtain ⟨G, hG⟩ : ∃ G, w.heap.size = G := ⟨_, rfl⟩
  rw [hG] at KG KR q0' ⊢
  have HBs := Aside0.mk (show G + 2 ≤ w1.heap.size from by have := blk_lt KR; omega)
  have cg0 : w1.cell? ⟨G, 0, none⟩ = some (.slice A0 l0.length c0) := (blk_cell KG 0).trans rfl
  have fg0 := blk_frozen KG 0
  have cg1 : w1.cell? ⟨G, 1, none⟩ = some (.slice A1 l1.length c1) := (blk_cell KG 1).trans rfl
  have fg1 := blk_frozen KG 1
  have cg2 : w1.cell? ⟨G, 2, none⟩ = some (.slice A2 l2.length c2) := (blk_cell KG 2).trans rfl
  have fg2 := blk_frozen KG 2
  have cg3 : w1.cell? ⟨G, 3, none⟩ = some (.slice A3 l3.length c3) := (blk_cell KG 3).trans rfl
  have fg3 := blk_frozen KG 3
  have cr0 : w1.cell? ⟨G + 1, 0, none⟩ = some (.slice none 0 0) := (blk_cell KR 0).trans rfl
  have fr0 := blk_frozen KR 0
  have cr1 : w1.cell? ⟨G + 1, 1, none⟩ = some (.slice none 0 0) := (blk_cell KR 1).trans rfl
  have fr1 := blk_frozen KR 1
  have cr2 : w1.cell? ⟨G + 1, 2, none⟩ = some (.slice none 0 0) := (blk_cell KR 2).trans rfl
  have fr2 := blk_frozen KR 2
  have cr3 : w1.cell? ⟨G + 1, 3, none⟩ = some (.slice none 0 0) := (blk_cell KR 3).trans rfl
  have fr3 := blk_frozen KR 3
  replace KG := Aside0.mk KG
  replace KR := Aside0.mk KR
  go_wp2_with (fail)
  clear cg0 cg1 cg2 cg3 fg0 fg1 fg2 fg3 cr0 cr1 cr2 cr3 fr0 fr1 fr2 fr3
  refine (lent_ints A1 c1 l1 _ (Kd.C_below H1.out (below_set HB.out (Nat.le_of_eq hG))) B1.out).mono ?_
  rintro e w2 ⟨g1, rfl, k1, q1, hb⟩
  replace HB := Aside0.mk (below_step (below_set HB.out (Nat.le_of_eq hG)) hb)
  replace KG := blk_below (show (w1.setCell ⟨G, 0, none⟩ (.slice (some ⟨g0, 0, none⟩) l0.length (l0.length + 12))).heap[G]? = some (.cells #[.slice (some ⟨g0, 0, none⟩) l0.length (l0.length + 12), .slice A1 l1.length c1, .slice A2 l2.length c2, .slice A3 l3.length c3] 24 (0, 0)) from by simpa using blk_set KG.out 0 (.slice (some ⟨g0, 0, none⟩) l0.length (l0.length + 12))) hb
  replace KR := blk_below (blk_far KR.out (by simp) _) hb
  replace k0 := Aside0.mk (blk_below (blk_far k0.out (by simp; omega) _) hb)
  have q1s : w1.heap.size ≤ g1 := by simpa using q1
  have q1' : G + 2 ≤ g1 := Nat.le_trans HBs.out q1s
  clear q1 q1s hb
  replace k1 := Aside0.mk k1
  replace HBs := Aside0.mk (show G + 2 ≤ w2.heap.size from by have := blk_lt KR; omega)
  have cg0 : w2.cell? ⟨G, 0, none⟩ = some (.slice (some ⟨g0, 0, none⟩) l0.length (l0.length + 12)) := (blk_cell KG 0).trans rfl
  have fg0 := blk_frozen KG 0
  have cg1 : w2.cell? ⟨G, 1, none⟩ = some (.slice A1 l1.length c1) := (blk_cell KG 1).trans rfl
  have fg1 := blk_frozen KG 1
  have cg2 : w2.cell? ⟨G, 2, none⟩ = some (.slice A2 l2.length c2) := (blk_cell KG 2).trans rfl
  have fg2 := blk_frozen KG 2
  have cg3 : w2.cell? ⟨G, 3, none⟩ = some (.slice A3 l3.length c3) := (blk_cell KG 3).trans rfl
  have fg3 := blk_frozen KG 3
  have cr0 : w2.cell? ⟨G + 1, 0, none⟩ = some (.slice none 0 0) := (blk_cell KR 0).trans rfl
  have fr0 := blk_frozen KR 0
  have cr1 : w2.cell? ⟨G + 1, 1, none⟩ = some (.slice none 0 0) := (blk_cell KR 1).trans rfl
  have fr1 := blk_frozen KR 1
  have cr2 : w2.cell? ⟨G + 1, 2, none⟩ = some (.slice none 0 0) := (blk_cell KR 2).trans rfl
  have fr2 := blk_frozen KR 2
  have cr3 : w2.cell? ⟨G + 1, 3, none⟩ = some (.slice none 0 0) := (blk_cell KR 3).trans rfl
  have fr3 := blk_frozen KR 3
  replace KG := Aside0.mk KG
  replace KR := Aside0.mk KR
  go_wp2_with (fail)
  clear cg0 cg1 cg2 cg3 fg0 fg1 fg2 fg3 cr0 cr1 cr2 cr3 fr0 fr1 fr2 fr3
  refine (lent_ints A2 c2 l2 _ (Kd.C_below H2.out (below_set HB.out (Nat.le_of_eq hG))) B2.out).mono ?_
  rintro e w3 ⟨g2, rfl, k2, q2, hb⟩
  replace HB := Aside0.mk (below_step (below_set HB.out (Nat.le_of_eq hG)) hb)
  replace KG := blk_below (show (w2.setCell ⟨G, 1, none⟩ (.slice (some ⟨g1, 0, none⟩) l1.length (l1.length + 12))).heap[G]? = some (.cells #[.slice (some ⟨g0, 0, none⟩) l0.length (l0.length + 12), .slice (some ⟨g1, 0, none⟩) l1.length (l1.length + 12), .slice A2 l2.length c2, .slice A3 l3.length c3] 24 (0, 0)) from by simpa using blk_set KG.out 1 (.slice (some ⟨g1, 0, none⟩) l1.length (l1.length + 12))) hb
  replace KR := blk_below (blk_far KR.out (by simp) _) hb
  replace k0 := Aside0.mk (blk_below (blk_far k0.out (by simp; omega) _) hb)
  replace k1 := Aside0.mk (blk_below (blk_far k1.out (by simp; omega) _) hb)
  have q2s : w2.heap.size ≤ g2 := by simpa using q2
  have q2' : G + 2 ≤ g2 := Nat.le_trans HBs.out q2s
  clear q2 q2s hb
  replace k2 := Aside0.mk k2
  replace HBs := Aside0.mk (show G + 2 ≤ w3.heap.size from by have := blk_lt KR; omega)
  have cg0 : w3.cell? ⟨G, 0, none⟩ = some (.slice (some ⟨g0, 0, none⟩) l0.length (l0.length + 12)) := (blk_cell KG 0).trans rfl
  have fg0 := blk_frozen KG 0
  have cg1 : w3.cell? ⟨G, 1, none⟩ = some (.slice (some ⟨g1, 0, none⟩) l1.length (l1.length + 12)) := (blk_cell KG 1).trans rfl
  have fg1 := blk_frozen KG 1
  have cg2 : w3.cell? ⟨G, 2, none⟩ = some (.slice A2 l2.length c2) := (blk_cell KG 2).trans rfl
  have fg2 := blk_frozen KG 2
  have cg3 : w3.cell? ⟨G, 3, none⟩ = some (.slice A3 l3.length c3) := (blk_cell KG 3).trans rfl
  have fg3 := blk_frozen KG 3
  have cr0 : w3.cell? ⟨G + 1, 0, none⟩ = some (.slice none 0 0) := (blk_cell KR 0).trans rfl
  have fr0 := blk_frozen KR 0
  have cr1 : w3.cell? ⟨G + 1, 1, none⟩ = some (.slice none 0 0) := (blk_cell KR 1).trans rfl
  have fr1 := blk_frozen KR 1
  have cr2 : w3.cell? ⟨G + 1, 2, none⟩ = some (.slice none 0 0) := (blk_cell KR 2).trans rfl
  have fr2 := blk_frozen KR 2
  have cr3 : w3.cell? ⟨G + 1, 3, none⟩ = some (.slice none 0 0) := (blk_cell KR 3).trans rfl
  have fr3 := blk_frozen KR 3
  replace KG := Aside0.mk KG
  replace KR := Aside0.mk KR
  go_wp2_with (fail)
  clear cg0 cg1 cg2 cg3 fg0 fg1 fg2 fg3 cr0 cr1 cr2 cr3 fr0 fr1 fr2 fr3
  refine (lent_ints A3 c3 l3 _ (Kd.C_below H3.out (below_set HB.out (Nat.le_of_eq hG))) B3.out).mono ?_
  rintro e w4 ⟨g3, rfl, k3, q3, hb⟩
  replace HB := Aside0.mk (below_step (below_set HB.out (Nat.le_of_eq hG)) hb)
  replace KG := blk_below (show (w3.setCell ⟨G, 2, none⟩ (.slice (some ⟨g2, 0, none⟩) l2.length (l2.length + 12))).heap[G]? = some (.cells #[.slice (some ⟨g0, 0, none⟩) l0.length (l0.length + 12), .slice (some ⟨g1, 0, none⟩) l1.length (l1.length + 12), .slice (some ⟨g2, 0, none⟩) l2.length (l2.length + 12), .slice A3 l3.length c3] 24 (0, 0)) from by simpa using blk_set KG.out 2 (.slice (some ⟨g2, 0, none⟩) l2.length (l2.length + 12))) hb
  replace KR := blk_below (blk_far KR.out (by simp) _) hb
  replace k0 := Aside0.mk (blk_below (blk_far k0.out (by simp; omega) _) hb)
  replace k1 := Aside0.mk (blk_below (blk_far k1.out (by simp; omega) _) hb)
  replace k2 := Aside0.mk (blk_below (blk_far k2.out (by simp; omega) _) hb)
  have q3s : w3.heap.size ≤ g3 := by simpa using q3
  have q3' : G + 2 ≤ g3 := Nat.le_trans HBs.out q3s
  clear q3 q3s hb
  replace k3 := Aside0.mk k3
  replace HBs := Aside0.mk (show G + 2 ≤ w4.heap.size from by have := blk_lt KR; omega)
  have cg0 : w4.cell? ⟨G, 0, none⟩ = some (.slice (some ⟨g0, 0, none⟩) l0.length (l0.length + 12)) := (blk_cell KG 0).trans rfl
  have fg0 := blk_frozen KG 0
  have cg1 : w4.cell? ⟨G, 1, none⟩ = some (.slice (some ⟨g1, 0, none⟩) l1.length (l1.length + 12)) := (blk_cell KG 1).trans rfl
  have fg1 := blk_frozen KG 1
  have cg2 : w4.cell? ⟨G, 2, none⟩ = some (.slice (some ⟨g2, 0, none⟩) l2.length (l2.length + 12)) := (blk_cell KG 2).trans rfl
  have fg2 := blk_frozen KG 2
  have cg3 : w4.cell? ⟨G, 3, none⟩ = some (.slice A3 l3.length c3) := (blk_cell KG 3).trans rfl
  have fg3 := blk_frozen KG 3
  have cr0 : w4.cell? ⟨G + 1, 0, none⟩ = some (.slice none 0 0) := (blk_cell KR 0).trans rfl
  have fr0 := blk_frozen KR 0
  have cr1 : w4.cell? ⟨G + 1, 1, none⟩ = some (.slice none 0 0) := (blk_cell KR 1).trans rfl
  have fr1 := blk_frozen KR 1
  have cr2 : w4.cell? ⟨G + 1, 2, none⟩ = some (.slice none 0 0) := (blk_cell KR 2).trans rfl
  have fr2 := blk_frozen KR 2
  have cr3 : w4.cell? ⟨G + 1, 3, none⟩ = some (.slice none 0 0) := (blk_cell KR 3).trans rfl
  have fr3 := blk_frozen KR 3
  replace KG := Aside0.mk KG
  replace KR := Aside0.mk KR
  go_wp2_with (fail)
  have s0 := blk_far (p := ⟨G, 3, none⟩) KR.out (by simp) (.slice (some ⟨g3, 0, none⟩) l3.length (l3.length + 12))
  have s1 : ((w4.setCell ⟨G, 3, none⟩ (.slice (some ⟨g3, 0, none⟩) l3.length (l3.length + 12))).setCell ⟨G + 1, 0, none⟩ (.slice (some ⟨g0, 0, none⟩) l0.length (l0.length + 12))).heap[G + 1]? = some (.cells #[.slice (some ⟨g0, 0, none⟩) l0.length (l0.length + 12), .slice none 0 0, .slice none 0 0, .slice none 0 0] 24 (0, 0)) := by simpa using blk_set s0 0 (.slice (some ⟨g0, 0, none⟩) l0.length (l0.length + 12))
  have s2 : (((w4.setCell ⟨G, 3, none⟩ (.slice (some ⟨g3, 0, none⟩) l3.length (l3.length + 12))).setCell ⟨G + 1, 0, none⟩ (.slice (some ⟨g0, 0, none⟩) l0.length (l0.length + 12))).setCell ⟨G + 1, 1, none⟩ (.slice (some ⟨g1, 0, none⟩) l1.length (l1.length + 12))).heap[G + 1]? = some (.cells #[.slice (some ⟨g0, 0, none⟩) l0.length (l0.length + 12), .slice (some ⟨g1, 0, none⟩) l1.length (l1.length + 12), .slice none 0 0, .slice none 0 0] 24 (0, 0)) := by simpa using blk_set s1 1 (.slice (some ⟨g1, 0, none⟩) l1.length (l1.length + 12))
  have s3 : ((((w4.setCell ⟨G, 3, none⟩ (.slice (some ⟨g3, 0, none⟩) l3.length (l3.length + 12))).setCell ⟨G + 1, 0, none⟩ (.slice (some ⟨g0, 0, none⟩) l0.length (l0.length + 12))).setCell ⟨G + 1, 1, none⟩ (.slice (some ⟨g1, 0, none⟩) l1.length (l1.length + 12))).setCell ⟨G + 1, 2, none⟩ (.slice (some ⟨g2, 0, none⟩) l2.length (l2.length + 12))).heap[G + 1]? = some (.cells #[.slice (some ⟨g0, 0, none⟩) l0.length (l0.length + 12), .slice (some ⟨g1, 0, none⟩) l1.length (l1.length + 12), .slice (some ⟨g2, 0, none⟩) l2.length (l2.length + 12), .slice none 0 0] 24 (0, 0)) := by simpa using blk_set s2 2 (.slice (some ⟨g2, 0, none⟩) l2.length (l2.length + 12))
  have s4 : (((((w4.setCell ⟨G, 3, none⟩ (.slice (some ⟨g3, 0, none⟩) l3.length (l3.length + 12))).setCell ⟨G + 1, 0, none⟩ (.slice (some ⟨g0, 0, none⟩) l0.length (l0.length + 12))).setCell ⟨G + 1, 1, none⟩ (.slice (some ⟨g1, 0, none⟩) l1.length (l1.length + 12))).setCell ⟨G + 1, 2, none⟩ (.slice (some ⟨g2, 0, none⟩) l2.length (l2.length + 12))).setCell ⟨G + 1, 3, none⟩ (.slice (some ⟨g3, 0, none⟩) l3.length (l3.length + 12))).heap[G + 1]? = some (.cells #[.slice (some ⟨g0, 0, none⟩) l0.length (l0.length + 12), .slice (some ⟨g1, 0, none⟩) l1.length (l1.length + 12), .slice (some ⟨g2, 0, none⟩) l2.length (l2.length + 12), .slice (some ⟨g3, 0, none⟩) l3.length (l3.length + 12)] 24 (0, 0)) := by simpa using blk_set s3 3 (.slice (some ⟨g3, 0, none⟩) l3.length (l3.length + 12))
  have t0 := blk_far (p := ⟨G + 1, 3, none⟩) (blk_far (p := ⟨G + 1, 2, none⟩) (blk_far (p := ⟨G + 1, 1, none⟩) (blk_far (p := ⟨G + 1, 0, none⟩) (blk_far (p := ⟨G, 3, none⟩) k0.out (by simp; omega) (.slice (some ⟨g3, 0, none⟩) l3.length (l3.length + 12))) (by simp; omega) (.slice (some ⟨g0, 0, none⟩) l0.length (l0.length + 12))) (by simp; omega) (.slice (some ⟨g1, 0, none⟩) l1.length (l1.length + 12))) (by simp; omega) (.slice (some ⟨g2, 0, none⟩) l2.length (l2.length + 12))) (by simp; omega) (.slice (some ⟨g3, 0, none⟩) l3.length (l3.length + 12))
  have t1 := blk_far (p := ⟨G + 1, 3, none⟩) (blk_far (p := ⟨G + 1, 2, none⟩) (blk_far (p := ⟨G + 1, 1, none⟩) (blk_far (p := ⟨G + 1, 0, none⟩) (blk_far (p := ⟨G, 3, none⟩) k1.out (by simp; omega) (.slice (some ⟨g3, 0, none⟩) l3.length (l3.length + 12))) (by simp; omega) (.slice (some ⟨g0, 0, none⟩) l0.length (l0.length + 12))) (by simp; omega) (.slice (some ⟨g1, 0, none⟩) l1.length (l1.length + 12))) (by simp; omega) (.slice (some ⟨g2, 0, none⟩) l2.length (l2.length + 12))) (by simp; omega) (.slice (some ⟨g3, 0, none⟩) l3.length (l3.length + 12))
  have t2 := blk_far (p := ⟨G + 1, 3, none⟩) (blk_far (p := ⟨G + 1, 2, none⟩) (blk_far (p := ⟨G + 1, 1, none⟩) (blk_far (p := ⟨G + 1, 0, none⟩) (blk_far (p := ⟨G, 3, none⟩) k2.out (by simp; omega) (.slice (some ⟨g3, 0, none⟩) l3.length (l3.length + 12))) (by simp; omega) (.slice (some ⟨g0, 0, none⟩) l0.length (l0.length + 12))) (by simp; omega) (.slice (some ⟨g1, 0, none⟩) l1.length (l1.length + 12))) (by simp; omega) (.slice (some ⟨g2, 0, none⟩) l2.length (l2.length + 12))) (by simp; omega) (.slice (some ⟨g3, 0, none⟩) l3.length (l3.length + 12))
  have t3 := blk_far (p := ⟨G + 1, 3, none⟩) (blk_far (p := ⟨G + 1, 2, none⟩) (blk_far (p := ⟨G + 1, 1, none⟩) (blk_far (p := ⟨G + 1, 0, none⟩) (blk_far (p := ⟨G, 3, none⟩) k3.out (by simp; omega) (.slice (some ⟨g3, 0, none⟩) l3.length (l3.length + 12))) (by simp; omega) (.slice (some ⟨g0, 0, none⟩) l0.length (l0.length + 12))) (by simp; omega) (.slice (some ⟨g1, 0, none⟩) l1.length (l1.length + 12))) (by simp; omega) (.slice (some ⟨g2, 0, none⟩) l2.length (l2.length + 12))) (by simp; omega) (.slice (some ⟨g3, 0, none⟩) l3.length (l3.length + 12))
  refine bodyPost_ret (results_c1 rfl _ _ (G + 1) 24 #[.slice (some ⟨g0, 0, none⟩) l0.length (l0.length + 12), .slice (some ⟨g1, 0, none⟩) l1.length (l1.length + 12), .slice (some ⟨g2, 0, none⟩) l2.length (l2.length + 12), .slice (some ⟨g3, 0, none⟩) l3.length (l3.length + 12)] (0, 0) _ rfl s4 Try.underlying24 rfl (by kernel_rfl)) rfl ?_
  refine ⟨g0, g1, g2, g3, rfl, ⟨t0, t1, t2, t3⟩, ?_⟩
  rw [← hG]
  exact below_set (below_set (below_set (below_set (below_set HB.out (Nat.le_of_eq rfl)) (Nat.le_of_lt (Nat.lt_succ_self _))) (Nat.le_of_lt (Nat.lt_succ_self _))) (Nat.le_of_lt (Nat.lt_succ_self _))) (Nat.le_of_lt (Nat.lt_succ_self _))
set_option maxHeartbeats 4000000 in
set_option maxRecDepth 100000 in
theorem over_config (A0 A1 A2 A3 : Option Addr) (n0 n1 n2 n3 c0 c1 c2 c3 B : Nat) (w : World) (h0 : Owned w B (.slice A0 n0 c0)) (h1 : Owned w B (.slice A1 n1 c1)) (h2 : Owned w B (.slice A2 n2 c2)) (h3 : Owned w B (.slice A3 n3 c3)) (hB : B ≤ w.heap.size)
    (b0 : n0 ≤ 1000) (b1 : n1 ≤ 1000) (b2 : n2 ≤ 1000) (b3 : n3 ≤ 1000) :
    Calls Try.prog 29 #[.agg #[.slice A0 n0 c0, .slice A1 n1 c1, .slice A2 n2 c2, .slice A3 n3 c3]] w fun e w' => e = .returned (.tuple #[]) ∧ Overs B w w' := by
  have H0 := Aside0.mk h0
  have B0 := Aside0.mk b0
  have H1 := Aside0.mk h1
  have B1 := Aside0.mk b1
  have H2 := Aside0.mk h2
  have B2 := Aside0.mk b2
  have H3 := Aside0.mk h3
  have B3 := Aside0.mk b3
  clear h0 h1 h2 h3 b0 b1 b2 b3
  have hu := Try.underlying24
  have HV := Aside0.mk (Overs.of_below (below_alloc (Below.refl w.heap.size w) (.cells #[.slice A0 n0 c0, .slice A1 n1 c1, .slice A2 n2 c2, .slice A3 n3 c3] 24)) hB)
  have KG := Aside0.mk (blk_new w (.cells #[.slice A0 n0 c0, .slice A1 n1 c1, .slice A2 n2 c2, .slice A3 n3 c3] 24))
  go_enter Try.func29, Try.ntmps29
  go_wp2_with (fail)
  obtain ⟨G, hG⟩ : ∃ G, w.heap.size = G := ⟨_, rfl⟩
  rw [hG] at KG hB ⊢
  obtain ⟨wa, hwa⟩ : ∃ wa, w.alloc (.cells #[.slice A0 n0 c0, .slice A1 n1 c1, .slice A2 n2 c2, .slice A3 n3 c3] 24) = wa := ⟨_, rfl⟩
  rw [hwa] at HV KG ⊢
  clear hwa hG
  have HW := HV
  refine (over_ints (.slice A0 n0 c0) B wa (H0.out.over HV.out) (fun A n c e => by injection e with _ e; have := B0.out; omega)).mono ?_
  rintro e w1 ⟨rfl, hv⟩
  replace HV := Aside0.mk (HV.out.trans hv)
  replace KG := Aside0.mk (hv.other _ _ KG.out (fun cur e => by injection e with _ e; exact absurd e (by decide)))
  clear hv
  have cg0 : w1.cell? ⟨G, 0, none⟩ = some (.slice A0 n0 c0) := (blk_cell KG.out 0).trans rfl
  have cg1 : w1.cell? ⟨G, 1, none⟩ = some (.slice A1 n1 c1) := (blk_cell KG.out 1).trans rfl
  have cg2 : w1.cell? ⟨G, 2, none⟩ = some (.slice A2 n2 c2) := (blk_cell KG.out 2).trans rfl
  have cg3 : w1.cell? ⟨G, 3, none⟩ = some (.slice A3 n3 c3) := (blk_cell KG.out 3).trans rfl
  go_wp2_with (fail)
  clear cg0 cg1 cg2 cg3
  refine (over_ints (.slice A1 n1 c1) B w1 (H1.out.over HV.out) (fun A n c e => by injection e with _ e; have := B1.out; omega)).mono ?_
  rintro e w2 ⟨rfl, hv⟩
  replace HV := Aside0.mk (HV.out.trans hv)
  replace KG := Aside0.mk (hv.other _ _ KG.out (fun cur e => by injection e with _ e; exact absurd e (by decide)))
  clear hv
  have cg0 : w2.cell? ⟨G, 0, none⟩ = some (.slice A0 n0 c0) := (blk_cell KG.out 0).trans rfl
  have cg1 : w2.cell? ⟨G, 1, none⟩ = some (.slice A1 n1 c1) := (blk_cell KG.out 1).trans rfl
  have cg2 : w2.cell? ⟨G, 2, none⟩ = some (.slice A2 n2 c2) := (blk_cell KG.out 2).trans rfl
  have cg3 : w2.cell? ⟨G, 3, none⟩ = some (.slice A3 n3 c3) := (blk_cell KG.out 3).trans rfl
  go_wp2_with (fail)
  clear cg0 cg1 cg2 cg3
  refine (over_ints (.slice A2 n2 c2) B w2 (H2.out.over HV.out) (fun A n c e => by injection e with _ e; have := B2.out; omega)).mono ?_
  rintro e w3 ⟨rfl, hv⟩
  replace HV := Aside0.mk (HV.out.trans hv)
  replace KG := Aside0.mk (hv.other _ _ KG.out (fun cur e => by injection e with _ e; exact absurd e (by decide)))
  clear hv
  have cg0 : w3.cell? ⟨G, 0, none⟩ = some (.slice A0 n0 c0) := (blk_cell KG.out 0).trans rfl
  have cg1 : w3.cell? ⟨G, 1, none⟩ = some (.slice A1 n1 c1) := (blk_cell KG.out 1).trans rfl
  have cg2 : w3.cell? ⟨G, 2, none⟩ = some (.slice A2 n2 c2) := (blk_cell KG.out 2).trans rfl
  have cg3 : w3.cell? ⟨G, 3, none⟩ = some (.slice A3 n3 c3) := (blk_cell KG.out 3).trans rfl
  go_wp2_with (fail)
  clear cg0 cg1 cg2 cg3
  refine (over_ints (.slice A3 n3 c3) B w3 (H3.out.over HV.out) (fun A n c e => by injection e with _ e; have := B3.out; omega)).mono ?_
  rintro e w4 ⟨rfl, hv⟩
  replace HV := Aside0.mk (HV.out.trans hv)
  replace KG := Aside0.mk (hv.other _ _ KG.out (fun cur e => by injection e with _ e; exact absurd e (by decide)))
  clear hv
  go_wp2_with (fail)
  go_end0
  exact ⟨rfl, HV.out⟩
/-- What is lent is read as what it was lent for. -/
theorem c_lent {W : World} {g : Nat} (l m : List Int) (h : W.heap[g]? = some (.cells (nums .i64 (l ++ m)).toArray 3 (0, 0))) (hm : l.length ≤ 1000) : Kd.C (Kd.int .i64) W (some ⟨g, 0, none⟩) l.length l := by
  refine ⟨rfl, by omega, fun _ => ⟨_, rfl, fun j p hj => ⟨[.int .i64 p], rfl, rfl, fun i u hu => ?_⟩⟩⟩
  cases i with
  | zero =>
    have hu' : u = .int .i64 p := by simpa using hu.symm
    subst hu'
    have h2 := blk_cell h j
    simp only [Kd.int, Kd.scalar, Nat.mul_one, Nat.add_zero]
    have h3 : (⟨g, 0, none⟩ : Addr).add j = ⟨g, j, none⟩ := by unfold Addr.add; split <;> simp_all
    rw [h3, h2]
    have hjl := (List.getElem?_eq_some_iff.1 hj).1
    simp only [nums, List.getElem?_toArray, List.getElem?_map]
    rw [List.getElem?_append_left hjl, hj]
    rfl
  | succ i => simp at hu
set_option maxHeartbeats 4000000 in
set_option maxRecDepth 100000 in
theorem kept_config (k g0 g1 g2 g3 : Nat) (A0 A1 A2 A3 : Option Addr) (c0 c1 c2 c3 : Nat) (l0 l1 l2 l3 : List Int) (w : World) (hf : watershedkit_SameConfig.f k l0 l1 l2 l3 l0 l1 l2 l3 = some true)
    (k0 : w.heap[g0]? = some (.cells (nums .i64 (l0 ++ marks 8000024 12)).toArray 3 (0, 0))) (k1 : w.heap[g1]? = some (.cells (nums .i64 (l1 ++ marks 8000024 12)).toArray 3 (0, 0))) (k2 : w.heap[g2]? = some (.cells (nums .i64 (l2 ++ marks 8000024 12)).toArray 3 (0, 0))) (k3 : w.heap[g3]? = some (.cells (nums .i64 (l3 ++ marks 8000024 12)).toArray 3 (0, 0)))
    (h0 : Kd.C (Kd.int .i64) w A0 l0.length l0) (h1 : Kd.C (Kd.int .i64) w A1 l1.length l1) (h2 : Kd.C (Kd.int .i64) w A2 l2.length l2) (h3 : Kd.C (Kd.int .i64) w A3 l3.length l3) (q0 : l0.length ≤ c0) (q1 : l1.length ≤ c1) (q2 : l2.length ≤ c2) (q3 : l3.length ≤ c3)
    (b0 : l0.length ≤ 1000) (b1 : l1.length ≤ 1000) (b2 : l2.length ≤ 1000) (b3 : l3.length ≤ 1000) :
    Calls Try.prog 30 #[.agg #[.slice (some ⟨g0, 0, none⟩) l0.length (l0.length + 12), .slice (some ⟨g1, 0, none⟩) l1.length (l1.length + 12), .slice (some ⟨g2, 0, none⟩) l2.length (l2.length + 12), .slice (some ⟨g3, 0, none⟩) l3.length (l3.length + 12)], .agg #[.slice A0 l0.length c0, .slice A1 l1.length c1, .slice A2 l2.length c2, .slice A3 l3.length c3]] w fun e w' => e = .returned (.bool true) ∧ Below w.heap.size w w' := by
  have H0 := Aside0.mk h0
  have K0 := Aside0.mk k0
  have B0 := Aside0.mk b0
  have Q0 := Aside0.mk q0
  have H1 := Aside0.mk h1
  have K1 := Aside0.mk k1
  have B1 := Aside0.mk b1
  have Q1 := Aside0.mk q1
  have H2 := Aside0.mk h2
  have K2 := Aside0.mk k2
  have B2 := Aside0.mk b2
  have Q2 := Aside0.mk q2
  have H3 := Aside0.mk h3
  have K3 := Aside0.mk k3
  have B3 := Aside0.mk b3
  have Q3 := Aside0.mk q3
  have HF := Aside0.mk hf
  clear hf h0 h1 h2 h3 k0 k1 k2 k3 b0 b1 b2 b3 q0 q1 q2 q3
  have hu := Try.underlying24
  have HB := Aside0.mk (Below.refl w.heap.size w)
  go_enter Try.func30, Try.ntmps30
  go_upto_region 1 with (fail)
  have KI := blk_alloc (blk_new w (.cells #[.slice (some ⟨g0, 0, none⟩) l0.length (l0.length + 12), .slice (some ⟨g1, 0, none⟩) l1.length (l1.length + 12), .slice (some ⟨g2, 0, none⟩) l2.length (l2.length + 12), .slice (some ⟨g3, 0, none⟩) l3.length (l3.length + 12)] 24)) (.cells #[.slice A0 l0.length c0, .slice A1 l1.length c1, .slice A2 l2.length c2, .slice A3 l3.length c3] 24)
  have KC := blk_new (w.alloc (.cells #[.slice (some ⟨g0, 0, none⟩) l0.length (l0.length + 12), .slice (some ⟨g1, 0, none⟩) l1.length (l1.length + 12), .slice (some ⟨g2, 0, none⟩) l2.length (l2.length + 12), .slice (some ⟨g3, 0, none⟩) l3.length (l3.length + 12)] 24)) (.cells #[.slice A0 l0.length c0, .slice A1 l1.length c1, .slice A2 l2.length c2, .slice A3 l3.length c3] 24)
  have hb := below_alloc (below_alloc (Below.refl w.heap.size w) (.cells #[.slice (some ⟨g0, 0, none⟩) l0.length (l0.length + 12), .slice (some ⟨g1, 0, none⟩) l1.length (l1.length + 12), .slice (some ⟨g2, 0, none⟩) l2.length (l2.length + 12), .slice (some ⟨g3, 0, none⟩) l3.length (l3.length + 12)] 24)) (.cells #[.slice A0 l0.length c0, .slice A1 l1.length c1, .slice A2 l2.length c2, .slice A3 l3.length c3] 24)
  rw [World.size_alloc] at KC
  obtain ⟨wa, hwa⟩ : ∃ wa, (w.alloc (.cells #[.slice (some ⟨g0, 0, none⟩) l0.length (l0.length + 12), .slice (some ⟨g1, 0, none⟩) l1.length (l1.length + 12), .slice (some ⟨g2, 0, none⟩) l2.length (l2.length + 12), .slice (some ⟨g3, 0, none⟩) l3.length (l3.length + 12)] 24)).alloc (.cells #[.slice A0 l0.length c0, .slice A1 l1.length c1, .slice A2 l2.length c2, .slice A3 l3.length c3] 24) = wa := ⟨_, rfl⟩
  rw [hwa] at KI KC hb ⊢
  replace H0 := Aside0.mk (Kd.C_below H0.out hb)
  replace K0 := Aside0.mk (blk_below K0.out hb)
  replace H1 := Aside0.mk (Kd.C_below H1.out hb)
  replace K1 := Aside0.mk (blk_below K1.out hb)
  replace H2 := Aside0.mk (Kd.C_below H2.out hb)
  replace K2 := Aside0.mk (blk_below K2.out hb)
  replace H3 := Aside0.mk (Kd.C_below H3.out hb)
  replace K3 := Aside0.mk (blk_below K3.out hb)
  replace HB := Aside0.mk (below_step HB.out hb)
  clear hwa hb
  obtain ⟨G, hG⟩ : ∃ G, w.heap.size = G := ⟨_, rfl⟩
  rw [hG] at KI KC ⊢
  clear hG
  replace KI := Aside0.mk KI
  replace KC := Aside0.mk KC
  have ci0 : wa.cell? ⟨G, 0, none⟩ = some (.slice (some ⟨g0, 0, none⟩) l0.length (l0.length + 12)) := (blk_cell KI.out 0).trans rfl
  have cc0 : wa.cell? ⟨G + 1, 0, none⟩ = some (.slice A0 l0.length c0) := (blk_cell KC.out 0).trans rfl
  have ci1 : wa.cell? ⟨G, 1, none⟩ = some (.slice (some ⟨g1, 0, none⟩) l1.length (l1.length + 12)) := (blk_cell KI.out 1).trans rfl
  have cc1 : wa.cell? ⟨G + 1, 1, none⟩ = some (.slice A1 l1.length c1) := (blk_cell KC.out 1).trans rfl
  have ci2 : wa.cell? ⟨G, 2, none⟩ = some (.slice (some ⟨g2, 0, none⟩) l2.length (l2.length + 12)) := (blk_cell KI.out 2).trans rfl
  have cc2 : wa.cell? ⟨G + 1, 2, none⟩ = some (.slice A2 l2.length c2) := (blk_cell KC.out 2).trans rfl
  have ci3 : wa.cell? ⟨G, 3, none⟩ = some (.slice (some ⟨g3, 0, none⟩) l3.length (l3.length + 12)) := (blk_cell KI.out 3).trans rfl
  have cc3 : wa.cell? ⟨G + 1, 3, none⟩ = some (.slice A3 l3.length c3) := (blk_cell KC.out 3).trans rfl
  go_wp2_with (fail)
  clear ci0 ci1 ci2 ci3 cc0 cc1 cc2 cc3
  refine (watershedkit_SameConfig.calls k _ _ l0 _ _ l1 _ _ l2 _ _ l3 _ _ l0 _ _ l1 _ _ l2 _ _ l3 true _ (c_lent _ _ K0.out B0.out) (by omega) (c_lent _ _ K1.out B1.out) (by omega) (c_lent _ _ K2.out B2.out) (by omega) (c_lent _ _ K3.out B3.out) (by omega) H0.out Q0.out H1.out Q1.out H2.out Q2.out H3.out Q3.out HF.out).mono ?_
  rintro e w1 ⟨rfl, hb⟩
  replace H0 := Aside0.mk (Kd.C_below H0.out hb)
  replace K0 := Aside0.mk (blk_below K0.out hb)
  replace H1 := Aside0.mk (Kd.C_below H1.out hb)
  replace K1 := Aside0.mk (blk_below K1.out hb)
  replace H2 := Aside0.mk (Kd.C_below H2.out hb)
  replace K2 := Aside0.mk (blk_below K2.out hb)
  replace H3 := Aside0.mk (Kd.C_below H3.out hb)
  replace K3 := Aside0.mk (blk_below K3.out hb)
  replace HB := Aside0.mk (below_step HB.out hb)
  replace KI := Aside0.mk (blk_below KI.out hb)
  replace KC := Aside0.mk (blk_below KC.out hb)
  clear hb
  have ci0 : w1.cell? ⟨G, 0, none⟩ = some (.slice (some ⟨g0, 0, none⟩) l0.length (l0.length + 12)) := (blk_cell KI.out 0).trans rfl
  have cc0 : w1.cell? ⟨G + 1, 0, none⟩ = some (.slice A0 l0.length c0) := (blk_cell KC.out 0).trans rfl
  have ci1 : w1.cell? ⟨G, 1, none⟩ = some (.slice (some ⟨g1, 0, none⟩) l1.length (l1.length + 12)) := (blk_cell KI.out 1).trans rfl
  have cc1 : w1.cell? ⟨G + 1, 1, none⟩ = some (.slice A1 l1.length c1) := (blk_cell KC.out 1).trans rfl
  have ci2 : w1.cell? ⟨G, 2, none⟩ = some (.slice (some ⟨g2, 0, none⟩) l2.length (l2.length + 12)) := (blk_cell KI.out 2).trans rfl
  have cc2 : w1.cell? ⟨G + 1, 2, none⟩ = some (.slice A2 l2.length c2) := (blk_cell KC.out 2).trans rfl
  have ci3 : w1.cell? ⟨G, 3, none⟩ = some (.slice (some ⟨g3, 0, none⟩) l3.length (l3.length + 12)) := (blk_cell KI.out 3).trans rfl
  have cc3 : w1.cell? ⟨G + 1, 3, none⟩ = some (.slice A3 l3.length c3) := (blk_cell KC.out 3).trans rfl
  go_wp2_with (fail)
  clear ci0 ci1 ci2 ci3 cc0 cc1 cc2 cc3
  refine (kept_ints g0 A0 c0 l0 _ K0.out H0.out B0.out).mono ?_
  rintro e w2 ⟨rfl, hd⟩
  have hb := hd.below
  clear hd
  replace H0 := Aside0.mk (Kd.C_below H0.out hb)
  replace K0 := Aside0.mk (blk_below K0.out hb)
  replace H1 := Aside0.mk (Kd.C_below H1.out hb)
  replace K1 := Aside0.mk (blk_below K1.out hb)
  replace H2 := Aside0.mk (Kd.C_below H2.out hb)
  replace K2 := Aside0.mk (blk_below K2.out hb)
  replace H3 := Aside0.mk (Kd.C_below H3.out hb)
  replace K3 := Aside0.mk (blk_below K3.out hb)
  replace HB := Aside0.mk (below_step HB.out hb)
  replace KI := Aside0.mk (blk_below KI.out hb)
  replace KC := Aside0.mk (blk_below KC.out hb)
  clear hb
  have ci0 : w2.cell? ⟨G, 0, none⟩ = some (.slice (some ⟨g0, 0, none⟩) l0.length (l0.length + 12)) := (blk_cell KI.out 0).trans rfl
  have cc0 : w2.cell? ⟨G + 1, 0, none⟩ = some (.slice A0 l0.length c0) := (blk_cell KC.out 0).trans rfl
  have ci1 : w2.cell? ⟨G, 1, none⟩ = some (.slice (some ⟨g1, 0, none⟩) l1.length (l1.length + 12)) := (blk_cell KI.out 1).trans rfl
  have cc1 : w2.cell? ⟨G + 1, 1, none⟩ = some (.slice A1 l1.length c1) := (blk_cell KC.out 1).trans rfl
  have ci2 : w2.cell? ⟨G, 2, none⟩ = some (.slice (some ⟨g2, 0, none⟩) l2.length (l2.length + 12)) := (blk_cell KI.out 2).trans rfl
  have cc2 : w2.cell? ⟨G + 1, 2, none⟩ = some (.slice A2 l2.length c2) := (blk_cell KC.out 2).trans rfl
  have ci3 : w2.cell? ⟨G, 3, none⟩ = some (.slice (some ⟨g3, 0, none⟩) l3.length (l3.length + 12)) := (blk_cell KI.out 3).trans rfl
  have cc3 : w2.cell? ⟨G + 1, 3, none⟩ = some (.slice A3 l3.length c3) := (blk_cell KC.out 3).trans rfl
  go_wp2_with (fail)
  clear ci0 ci1 ci2 ci3 cc0 cc1 cc2 cc3
  refine (kept_ints g1 A1 c1 l1 _ K1.out H1.out B1.out).mono ?_
  rintro e w3 ⟨rfl, hd⟩
  have hb := hd.below
  clear hd
  replace H0 := Aside0.mk (Kd.C_below H0.out hb)
  replace K0 := Aside0.mk (blk_below K0.out hb)
  replace H1 := Aside0.mk (Kd.C_below H1.out hb)
  replace K1 := Aside0.mk (blk_below K1.out hb)
  replace H2 := Aside0.mk (Kd.C_below H2.out hb)
  replace K2 := Aside0.mk (blk_below K2.out hb)
  replace H3 := Aside0.mk (Kd.C_below H3.out hb)
  replace K3 := Aside0.mk (blk_below K3.out hb)
  replace HB := Aside0.mk (below_step HB.out hb)
  replace KI := Aside0.mk (blk_below KI.out hb)
  replace KC := Aside0.mk (blk_below KC.out hb)
  clear hb
  have ci0 : w3.cell? ⟨G, 0, none⟩ = some (.slice (some ⟨g0, 0, none⟩) l0.length (l0.length + 12)) := (blk_cell KI.out 0).trans rfl
  have cc0 : w3.cell? ⟨G + 1, 0, none⟩ = some (.slice A0 l0.length c0) := (blk_cell KC.out 0).trans rfl
  have ci1 : w3.cell? ⟨G, 1, none⟩ = some (.slice (some ⟨g1, 0, none⟩) l1.length (l1.length + 12)) := (blk_cell KI.out 1).trans rfl
  have cc1 : w3.cell? ⟨G + 1, 1, none⟩ = some (.slice A1 l1.length c1) := (blk_cell KC.out 1).trans rfl
  have ci2 : w3.cell? ⟨G, 2, none⟩ = some (.slice (some ⟨g2, 0, none⟩) l2.length (l2.length + 12)) := (blk_cell KI.out 2).trans rfl
  have cc2 : w3.cell? ⟨G + 1, 2, none⟩ = some (.slice A2 l2.length c2) := (blk_cell KC.out 2).trans rfl
  have ci3 : w3.cell? ⟨G, 3, none⟩ = some (.slice (some ⟨g3, 0, none⟩) l3.length (l3.length + 12)) := (blk_cell KI.out 3).trans rfl
  have cc3 : w3.cell? ⟨G + 1, 3, none⟩ = some (.slice A3 l3.length c3) := (blk_cell KC.out 3).trans rfl
  go_wp2_with (fail)
  clear ci0 ci1 ci2 ci3 cc0 cc1 cc2 cc3
  refine (kept_ints g2 A2 c2 l2 _ K2.out H2.out B2.out).mono ?_
  rintro e w4 ⟨rfl, hd⟩
  have hb := hd.below
  clear hd
  replace H0 := Aside0.mk (Kd.C_below H0.out hb)
  replace K0 := Aside0.mk (blk_below K0.out hb)
  replace H1 := Aside0.mk (Kd.C_below H1.out hb)
  replace K1 := Aside0.mk (blk_below K1.out hb)
  replace H2 := Aside0.mk (Kd.C_below H2.out hb)
  replace K2 := Aside0.mk (blk_below K2.out hb)
  replace H3 := Aside0.mk (Kd.C_below H3.out hb)
  replace K3 := Aside0.mk (blk_below K3.out hb)
  replace HB := Aside0.mk (below_step HB.out hb)
  replace KI := Aside0.mk (blk_below KI.out hb)
  replace KC := Aside0.mk (blk_below KC.out hb)
  clear hb
  have ci0 : w4.cell? ⟨G, 0, none⟩ = some (.slice (some ⟨g0, 0, none⟩) l0.length (l0.length + 12)) := (blk_cell KI.out 0).trans rfl
  have cc0 : w4.cell? ⟨G + 1, 0, none⟩ = some (.slice A0 l0.length c0) := (blk_cell KC.out 0).trans rfl
  have ci1 : w4.cell? ⟨G, 1, none⟩ = some (.slice (some ⟨g1, 0, none⟩) l1.length (l1.length + 12)) := (blk_cell KI.out 1).trans rfl
  have cc1 : w4.cell? ⟨G + 1, 1, none⟩ = some (.slice A1 l1.length c1) := (blk_cell KC.out 1).trans rfl
  have ci2 : w4.cell? ⟨G, 2, none⟩ = some (.slice (some ⟨g2, 0, none⟩) l2.length (l2.length + 12)) := (blk_cell KI.out 2).trans rfl
  have cc2 : w4.cell? ⟨G + 1, 2, none⟩ = some (.slice A2 l2.length c2) := (blk_cell KC.out 2).trans rfl
  have ci3 : w4.cell? ⟨G, 3, none⟩ = some (.slice (some ⟨g3, 0, none⟩) l3.length (l3.length + 12)) := (blk_cell KI.out 3).trans rfl
  have cc3 : w4.cell? ⟨G + 1, 3, none⟩ = some (.slice A3 l3.length c3) := (blk_cell KC.out 3).trans rfl
  go_wp2_with (fail)
  clear ci0 ci1 ci2 ci3 cc0 cc1 cc2 cc3
  refine (kept_ints g3 A3 c3 l3 _ K3.out H3.out B3.out).mono ?_
  rintro e w5 ⟨rfl, hd⟩
  have hb := hd.below
  clear hd
  replace H0 := Aside0.mk (Kd.C_below H0.out hb)
  replace K0 := Aside0.mk (blk_below K0.out hb)
  replace H1 := Aside0.mk (Kd.C_below H1.out hb)
  replace K1 := Aside0.mk (blk_below K1.out hb)
  replace H2 := Aside0.mk (Kd.C_below H2.out hb)
  replace K2 := Aside0.mk (blk_below K2.out hb)
  replace H3 := Aside0.mk (Kd.C_below H3.out hb)
  replace K3 := Aside0.mk (blk_below K3.out hb)
  replace HB := Aside0.mk (below_step HB.out hb)
  replace KI := Aside0.mk (blk_below KI.out hb)
  replace KC := Aside0.mk (blk_below KC.out hb)
  clear hb
  go_wp2
  go_ret
  exact ⟨rfl, HB.out⟩
end Go.Proofs.Ytkilmclncpmjnaa.P06t
