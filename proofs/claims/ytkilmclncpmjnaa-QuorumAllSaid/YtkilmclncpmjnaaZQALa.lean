import Derived.Test.YtkilmclncpmjnaaZQAWd
set_option linter.unusedSimpArgs false
set_option linter.unusedVariables false
namespace Go.Proofs.Ytkilmclncpmjnaa.P06t
open Go.RowKit Go.Proofs.YtkilmclncpmjnaaW.PrintWords Go.Proofs.YtkilmclncpmjnaaW.PrintLast Go.Proofs.YtkilmclncpmjnaaW.PrintMore Go.Proofs.Ytkilmclncpmjnaa.St
def qt.T10 : Bool × List (List Nat × List Nat) := (true, [([], []), ([], []), ([0, 1], [0, 1]), ([2], [2]), ([3], [3]), ([3], [3]), ([4, 5, 3], [3, 4, 5]), ([3, 6], [3, 6]), ([7, 3], [7]), ([8], [8]), ([8], [8]), ([9, 10, 8, 8], [8, 9, 10]), ([11, 8], [8, 11]), ([8, 12], [8, 12]), ([13, 11], [13]), ([14], [14]), ([14], [14]), ([15, 16, 14, 14], [14, 15, 16]), ([17, 14], [14, 17]), ([14, 18], [14, 18]), ([19, 17], [19]), ([20], [20]), ([21, 20, 20], [20, 21]), ([20], [20]), ([23, 22, 20], [20, 23]), ([22, 24, 20], [20, 22, 24]), ([20, 25], [20, 25]), ([26, 24], [26]), ([27], [27]), ([27], [27]), ([28, 29, 27, 27], [27, 28, 29]), ([27], [27]), ([27], [27]), ([31, 32, 30, 27], [27, 31, 32]), ([30, 33, 27], [27, 30, 33]), ([27, 34], [27, 34])])
def qt.B10 : List Nat := [0, 0, 3, 7, 15, 15, 63, 127, 255, 511, 511, 2047, 4095, 8191, 16383, 32767, 32767, 131071, 262143, 524287, 1048575, 2097151, 4194303, 2097151, 16777215, 33554431, 67108863, 134217727, 268435455, 268435455, 1073741823, 268435455, 268435455, 8589934591, 17179869183, 34359738367]
theorem qt.tab10 : rtab .any (opsOf Try.f5 10) = qt.T10 := by kernel_rfl
theorem qt.bits10 : waitsOk qt.T10.2 qt.B10 = true := by kernel_rfl
def qt.T12 : Bool × List (List Nat × List Nat) := (true, [([], []), ([], []), ([0, 1], [0, 1]), ([], []), ([], []), ([3, 4, 2], [3, 4]), ([2, 5], [2, 5]), ([6, 5], [6]), ([7], [7]), ([7], [7]), ([8, 9, 7, 7], [7, 8, 9]), ([7], [7]), ([7], [7]), ([11, 12, 10, 7], [7, 11, 12]), ([10, 13, 7], [7, 10, 13]), ([7, 14], [7, 14]), ([15, 13], [15]), ([16], [16]), ([17, 16, 16], [16, 17]), ([16], [16]), ([19, 18, 16], [16, 19]), ([18, 20, 20, 16], [16, 18, 20]), ([21, 16], [16, 21]), ([16, 22], [16, 22])])
def qt.B12 : List Nat := [0, 0, 3, 0, 0, 31, 63, 127, 255, 255, 1023, 255, 255, 8191, 16383, 32767, 65535, 131071, 262143, 131071, 1048575, 2097151, 4194303, 8388607]
theorem qt.tab12 : rtab .any (opsOf Try.f5 12) = qt.T12 := by kernel_rfl
theorem qt.bits12 : waitsOk qt.T12.2 qt.B12 = true := by kernel_rfl
abbrev bb5 (n m : Nat) : Array Bool := ((List.range n).map fun i => m.testBit i).toArray
structure T1 (w : World) (s0 s1 s2 s3 ss : Value) (l0 l1 l2 l3 ls : List Int) (V : World) : Prop where
  b : Below w.heap.size w V
  k3 : Blk V w.heap.size #[s0, s1, s2, s3] 24
  r : R4 V s0 s1 s2 s3 l0 l1 l2 l3
  rs : Row V ss ls
structure T2 (w : World) (s0 s1 s2 s3 ss : Value) (l0 l1 l2 l3 ls : List Int) (g7 : Nat) (i0 i1 i2 i3 j : Value) (V : World) : Prop where
  p : T1 w s0 s1 s2 s3 ss l0 l1 l2 l3 ls V
  k7 : Blk V g7 #[i0, i1, i2, i3] 24
  li : Lent V i0 l0 ∧ Lent V i1 l1 ∧ Lent V i2 l2 ∧ Lent V i3 l3
  lj : Lent V j ls
theorem T2.ri {w : World} {s0 s1 s2 s3 ss : Value} {l0 l1 l2 l3 ls : List Int} {g7 : Nat} {i0 i1 i2 i3 j : Value} {V : World} (h : T2 w s0 s1 s2 s3 ss l0 l1 l2 l3 ls g7 i0 i1 i2 i3 j V) (b0 : l0.length ≤ 40) (b1 : l1.length ≤ 40) (b2 : l2.length ≤ 40) (b3 : l3.length ≤ 40) : R4 V i0 i1 i2 i3 l0 l1 l2 l3 := ⟨h.li.1.row (by omega), h.li.2.1.row (by omega), h.li.2.2.1.row (by omega), h.li.2.2.2.row (by omega)⟩
structure T3 (W2 : World) (g9 : Nat) (a0 a1 a2 a3 : Value) (b0 b1 b2 b3 : List Int) (V : World) : Prop where
  b : Below W2.heap.size W2 V
  k : Blk V g9 #[a0, a1, a2, a3] 24
  r : R4 V a0 a1 a2 a3 b0 b1 b2 b3
  o : O4 V W2.heap.size a0 a1 a2 a3
theorem stay_T3 {W2 W W' : World} {a0 a1 a2 a3 : Value} {b0 b1 b2 b3 : List Int} (hb2 : Below W2.heap.size W2 W) (hb : Below W.heap.size W W') (r : R4 W' a0 a1 a2 a3 b0 b1 b2 b3) (o : O4 W' W.heap.size a0 a1 a2 a3) : Stay (T3 W2 W'.heap.size a0 a1 a2 a3 b0 b1 b2 b3) (W'.alloc (.cells #[a0, a1, a2, a3] 24)) := by
  have h1 : Below W'.heap.size W' (W'.alloc (.cells #[a0, a1, a2, a3] 24)) := below_alloc (Below.refl _ _) _
  have hs : W2.heap.size ≤ W.heap.size := hb2.size
  have lw : ∀ {s : Value}, Owned W' W.heap.size s → Owned W' W2.heap.size s := fun {s} h => by
    rcases h with h | ⟨g, n, cap, cur, e, hB, r⟩
    · exact .inl h
    · exact .inr ⟨g, n, cap, cur, e, by omega, r⟩
  have o2 : O4 W' W2.heap.size a0 a1 a2 a3 := ⟨lw o.o0, lw o.o1, lw o.o2, lw o.o3⟩
  have hs2 : W2.heap.size ≤ W'.heap.size := Nat.le_trans hs hb.size
  exact ⟨fun V hV => ⟨below_tr (below_tr hb2 hb) (below_tr h1 hV), (stay_blk (blk_new W' _)).out V hV, r.below (below_tr h1 hV), o2.below hs2 (below_tr h1 hV)⟩⟩
theorem Lent.stay4 {W : World} {i0 i1 i2 i3 : Value} {l0 l1 l2 l3 : List Int} (h : Lent W i0 l0 ∧ Lent W i1 l1 ∧ Lent W i2 l2 ∧ Lent W i3 l3) {V : World} (hV : Below W.heap.size W V) : Lent V i0 l0 ∧ Lent V i1 l1 ∧ Lent V i2 l2 ∧ Lent V i3 l3 := ⟨h.1.below hV, h.2.1.below hV, h.2.2.1.below hV, h.2.2.2.below hV⟩
set_option maxHeartbeats 8000000 in
set_option maxRecDepth 100000 in
theorem tells_walk {k : Nat} (s0 s1 s2 s3 ss : Value) (l0 l1 l2 l3 ls : List Int) (node : Int) (b0 b1 b2 b3 x0 x1 x2 x3 : List Int) (e5 : Int) (y5 t6 u6 v6 z6 : Bool) (w : World)
    (hr : R4 w s0 s1 s2 s3 l0 l1 l2 l3) (hrs : Row w ss ls) (m0 : l0.length ≤ 40) (m1 : l1.length ≤ 40) (m2 : l2.length ≤ 40) (m3 : l3.length ≤ 40) (ms : ls.length ≤ 40)
    (n0 : b0.length ≤ 1000 ∧ b1.length ≤ 1000 ∧ b2.length ≤ 1000 ∧ b3.length ≤ 1000) (n1 : x0.length ≤ 1000 ∧ x1.length ≤ 1000 ∧ x2.length ≤ 1000 ∧ x3.length ≤ 1000)
    (hgr : watershedlaw06_great.f l0 l1 l2 l3 ls = some false)
    (hbg : quorum_Begin.f k l0 l1 l2 l3 ls = some (b0, b1, b2, b3, e5)) (hbr : watershedref06_Begin.f k l0 l1 l2 l3 ls = some (b0, b1, b2, b3, e5))
    (hnx : quorum_Next.f k l0 l1 l2 l3 = some (x0, x1, x2, x3, y5)) (hnr : watershedref06_Next.f k l0 l1 l2 l3 = some (x0, x1, x2, x3, y5))
    (hs1 : watershedlaw06_same.f k b0 b1 b2 b3 b0 b1 b2 b3 = some true) (hs2 : watershedlaw06_same.f k x0 x1 x2 x3 x0 x1 x2 x3 = some true)
    (hr1 : quorum_Right.f k l0 l1 l2 l3 = some t6) (hr2 : watershedref06_Right.f k l0 l1 l2 l3 = some t6)
    (ha1 : quorum_Agrees.f k l0 l1 l2 l3 ls = some u6) (ha2 : watershedref06_Agrees.f k l0 l1 l2 l3 ls = some u6)
    (hv1 : quorum_Votes.f k l0 l1 l2 l3 node = some v6) (hv2 : watershedref06_Votes.f k l0 l1 l2 l3 node = some v6)
    (hh1 : quorum_Has.f k l0 l1 l2 l3 node = some z6) (hh2 : watershedref06_Has.f k l0 l1 l2 l3 node = some z6)
    (hnd : watershedref06_Nodes.f k l0 l1 l2 l3 = some (Nd.nodesL l0 l1 l2)) (hsi : watershedkit_SameInts.f k (Nd.nodesL l0 l1 l2) (Nd.nodesL l0 l1 l2) = some true)
    (hkc : watershedkit_SameConfig.f k l0 l1 l2 l3 l0 l1 l2 l3 = some true) :
    Calls Try.prog 5 #[.agg #[s0, s1, s2, s3], ss, .int .i64 node] w fun e w' => e = .returned (.bool true) ∧ Below w.heap.size w w' := by
  have hu24 := Try.underlying24
  have HS : Aside0 (Stay (T1 w s0 s1 s2 s3 ss l0 l1 l2 l3 ls) (w.alloc (.cells #[s0, s1, s2, s3] 24))) := ⟨⟨fun V hV => by
    have h1 : Below w.heap.size w (w.alloc (.cells #[s0, s1, s2, s3] 24)) := below_alloc (Below.refl _ _) _
    exact ⟨below_tr h1 hV, (stay_blk (blk_new w _)).out V hV, hr.below (below_tr h1 hV), hrs.below (below_tr h1 hV)⟩⟩⟩
  replace hgr := Aside0.mk hgr
  replace hbg := Aside0.mk hbg
  replace hbr := Aside0.mk hbr
  replace hnx := Aside0.mk hnx
  replace hnr := Aside0.mk hnr
  replace hs1 := Aside0.mk hs1
  replace hs2 := Aside0.mk hs2
  replace hr1 := Aside0.mk hr1
  replace hr2 := Aside0.mk hr2
  replace ha1 := Aside0.mk ha1
  replace ha2 := Aside0.mk ha2
  replace hv1 := Aside0.mk hv1
  replace hv2 := Aside0.mk hv2
  replace hh1 := Aside0.mk hh1
  replace hh2 := Aside0.mk hh2
  replace hnd := Aside0.mk hnd
  replace hsi := Aside0.mk hsi
  replace hkc := Aside0.mk hkc
  replace n0 := Aside0.mk n0
  replace n1 := Aside0.mk n1
  replace m0 := Aside0.mk m0
  replace m1 := Aside0.mk m1
  replace m2 := Aside0.mk m2
  replace m3 := Aside0.mk m3
  replace ms := Aside0.mk ms
  clear hr hrs
  go_enter Try.func5, Try.ntmps5
  go_wp2_with (first
    | (go_at_call 7; (with_reducible refine (watershedlaw06_awake.calls true _ rfl).mono ?_); rintro e wa ⟨rfl, hb⟩; replace HS := Aside0.mk (HS.out.step hb); clear hb; obtain ⟨ca0, ca1, ca2, ca3⟩ := Blk.c4 HS.out.now.k3)
    | (go_at_call 8; (with_reducible refine (q8 HS.out.now.r HS.out.now.rs hgr.out).mono ?_); rintro e wb ⟨rfl, hb⟩; replace HS := Aside0.mk (HS.out.step hb); clear hb; obtain ⟨cb0, cb1, cb2, cb3⟩ := Blk.c4 HS.out.now.k3)
    | (go_at_call 18; (with_reducible refine (q18 HS.out.now.r (Nat.le_trans m0.out (by decide)) (Nat.le_trans m1.out (by decide)) (Nat.le_trans m2.out (by decide)) (Nat.le_trans m3.out (by decide))).mono ?_); rintro e wc ⟨i0, i1, i2, i3, rfl, hl, hb⟩; replace HS := Aside0.mk (HS.out.step hb); have HL := Aside0.mk hl; have oi0 := st hl.1.one; have oi1 := st hl.2.1.one; have oi2 := st hl.2.2.1.one; have oi3 := st hl.2.2.2.one; clear hb hl)
    | (go_at_call 19; (with_reducible refine (q19 HS.out.now.rs (Nat.le_trans ms.out (by decide))).mono ?_); rintro e wd ⟨j, rfl, hj, hb⟩; have HT : Aside0 (Stay (T2 w s0 s1 s2 s3 ss l0 l1 l2 l3 ls wd.heap.size i0 i1 i2 i3 j) (wd.alloc (.cells #[i0, i1, i2, i3] 24))) := ⟨⟨fun V hV => by (have h1 : Below wd.heap.size wd (wd.alloc (.cells #[i0, i1, i2, i3] 24)) := below_alloc (Below.refl _ _) _; exact ⟨(HS.out.step hb).out V (below_tr h1 hV), (stay_blk (blk_new wd _)).out V hV, Lent.stay4 HL.out (below_tr hb (below_tr h1 hV)), hj.below (below_tr h1 hV)⟩)⟩⟩; clear HS HL hj hb; obtain ⟨cd0, cd1, cd2, cd3⟩ := Blk.c4 HT.out.now.k7)
    | (go_at_call 12; (with_reducible refine (q12 (HT.out.now.ri m0.out m1.out m2.out m3.out) (HT.out.now.lj.row (Nat.le_trans ms.out (by decide))) hbg.out).mono ?_); rintro e we ⟨a0, a1, a2, a3, rfl, r, o, hb⟩; have oa0 := st r.r0.one; have oa1 := st r.r1.one; have oa2 := st r.r2.one; have oa3 := st r.r3.one; have HX := Aside0.mk (stay_T3 (W2 := (wd.alloc (.cells #[i0, i1, i2, i3] 24))) (Below.refl _ _) hb r o); clear r o hb; obtain ⟨ce0, ce1, ce2, ce3⟩ := Blk.c4 (HT.out.out _ HX.out.now.b).p.k3)
    | (go_at_call 20; (with_reducible refine (q20 (HT.out.out _ HX.out.now.b).p.r (HT.out.out _ HX.out.now.b).p.rs hbr.out).mono ?_); rintro e wf ⟨d0, d1, d2, d3, rfl, r, o, hb⟩; have od0 := st r.r0.one; have od1 := st r.r1.one; have od2 := st r.r2.one; have od3 := st r.r3.one; have HY := Aside0.mk (stay_T3 HX.out.now.b hb r o); replace HX := Aside0.mk ((HX.out.step hb).alloc (.cells #[d0, d1, d2, d3] 24)); clear r o hb; obtain ⟨cf0, cf1, cf2, cf3⟩ := Blk.c4 (HT.out.out _ HX.out.now.b).k7)
    | (go_at_call 11; (with_reducible refine (q11 ((HT.out.out _ HX.out.now.b).ri m0.out m1.out m2.out m3.out) hnx.out).mono ?_); rintro e wg ⟨p0, p1, p2, p3, rfl, r, o, hb⟩; have op0 := st r.r0.one; have op1 := st r.r1.one; have op2 := st r.r2.one; have op3 := st r.r3.one; have HP := Aside0.mk (stay_T3 HX.out.now.b hb r o); replace HX := Aside0.mk ((HX.out.step hb).alloc (.cells #[p0, p1, p2, p3] 24)); replace HY := Aside0.mk ((HY.out.step hb).alloc (.cells #[p0, p1, p2, p3] 24)); clear r o hb; obtain ⟨cg0, cg1, cg2, cg3⟩ := Blk.c4 (HT.out.out _ HX.out.now.b).p.k3)
    | (go_at_call 21; (with_reducible refine (q21 (HT.out.out _ HX.out.now.b).p.r hnr.out).mono ?_); rintro e wh ⟨z0, z1, z2, z3, rfl, r, o, hb⟩; have oz0 := st r.r0.one; have oz1 := st r.r1.one; have oz2 := st r.r2.one; have oz3 := st r.r3.one; have HZ := Aside0.mk (stay_T3 HX.out.now.b hb r o); replace HX := Aside0.mk ((HX.out.step hb).alloc (.cells #[z0, z1, z2, z3] 24)); replace HY := Aside0.mk ((HY.out.step hb).alloc (.cells #[z0, z1, z2, z3] 24)); replace HP := Aside0.mk ((HP.out.step hb).alloc (.cells #[z0, z1, z2, z3] 24)); clear r o hb))
  replace HX := Aside0.mk (((HX.out.and HY.out).and HP.out).and HZ.out)
  clear HY HP HZ
  refine start_ (n:=36) (S:=fun w' => C4 w' we.heap.size a0 a1 a2 a3 ∧ C4 w' wf.heap.size d0 d1 d2 d3 ∧ C4 w' wg.heap.size p0 p1 p2 p3 ∧ C4 w' wh.heap.size z0 z1 z2 z3 ∧ C4 w' wd.heap.size i0 i1 i2 i3 ∧ C4 w' w.heap.size s0 s1 s2 s3) (ds:=[]) (bb5 36 0) (by kernel_rfl) rfl rfl ⟨Blk.c4 HX.out.now.1.1.1.k, Blk.c4 HX.out.now.1.1.2.k, Blk.c4 HX.out.now.1.2.k, Blk.c4 HX.out.now.2.k, Blk.c4 (HT.out.out _ HX.out.now.1.1.1.b).k7, Blk.c4 (HT.out.out _ HX.out.now.1.1.1.b).p.k3⟩ (fun hHeld => ?_); refine with_tabW qt.tab10 qt.bits10 (fun HT_ HW_ => ?_)
  replace HX := Aside0.mk HX.out.drew
  generalize (wh.alloc (.cells #[z0, z1, z2, z3] 24)).drew = wr10 at HX hHeld ⊢
  refine pure_ (i:=0) (N:=some 48) (v:=?_) (a' := ?_) (bb5 36 1) rfl rfl (any_of HT_.out (by kernel_rfl)) (fun _ _ _ h => h) (Or.inl ⟨by rfl, ?_⟩) ?_ ?_
  rotate_left
  · (intro w'; go_simp; with_reducible rfl)
  rotate_left
  · (simp only [Act.put, List.setIfInBounds_toArray, List.set_cons_zero, List.set_cons_succ, i64_w, i32_w]; rfl)
  refine pure_ (i:=1) (N:=some 49) (v:=?_) (a' := ?_) (bb5 36 3) rfl rfl (any_of HT_.out (by kernel_rfl)) (fun _ _ _ h => h) (Or.inl ⟨by rfl, ?_⟩) ?_ ?_
  rotate_left
  · (intro w'; go_simp; with_reducible rfl)
  rotate_left
  · (simp only [Act.put, List.setIfInBounds_toArray, List.set_cons_zero, List.set_cons_succ, i64_w, i32_w]; rfl)
  refine pure_ (i:=2) (N:=some 50) (v:=?_) (a' := ?_) (bb5 36 7) rfl rfl (any_of HT_.out (by kernel_rfl)) (fun _ _ _ h => h) (Or.inl ⟨by rfl, ?_⟩) ?_ ?_
  rotate_left
  · (intro w'; go_simp; with_reducible rfl)
  rotate_left
  · (simp only [Act.put, List.setIfInBounds_toArray, List.set_cons_zero, List.set_cons_succ, i64_w, i32_w]; rfl)
  refine pure_ (i:=3) (N:=some 51) (v:=?_) (a' := ?_) (bb5 36 15) rfl rfl (any_of HT_.out (by kernel_rfl)) (fun _ _ _ h => h) (Or.inl ⟨by rfl, ?_⟩) ?_ ?_
  rotate_left
  · (intro w'; go_simp; with_reducible rfl)
  rotate_left
  · (simp only [Act.put, List.setIfInBounds_toArray, List.set_cons_zero, List.set_cons_succ, i64_w, i32_w]; rfl)
  refine pure_ (i:=4) (N:=some 52) (v:=?_) (a' := ?_) (bb5 36 31) rfl rfl (any_of HT_.out (by kernel_rfl)) (fun _ _ _ h => h) (Or.inl ⟨by rfl, ?_⟩) ?_ ?_
  rotate_left
  · (intro w'; go_simp; with_reducible rfl)
  rotate_left
  · (simp only [Act.put, List.setIfInBounds_toArray, List.set_cons_zero, List.set_cons_succ, i64_w, i32_w]; rfl)
  refine pure_ (i:=5) (N:=some 53) (v:=?_) (a' := ?_) (bb5 36 63) rfl rfl (any_of HT_.out (by kernel_rfl)) (fun _ _ _ h => h) (Or.inl ⟨by rfl, ?_⟩) ?_ ?_
  rotate_left
  · (intro w'; go_simp; with_reducible rfl)
  rotate_left
  · (simp only [Act.put, List.setIfInBounds_toArray, List.set_cons_zero, List.set_cons_succ, i64_w, i32_w]; rfl)
  refine pure_ (i:=6) (N:=some 54) (v:=?_) (a' := ?_) (bb5 36 127) rfl rfl (any_of HT_.out (by kernel_rfl)) (fun _ _ _ h => h) (Or.inl ⟨by rfl, ?_⟩) ?_ ?_
  rotate_left
  · (intro w'; go_simp; with_reducible rfl)
  rotate_left
  · (simp only [Act.put, List.setIfInBounds_toArray, List.set_cons_zero, List.set_cons_succ, i64_w, i32_w]; rfl)
  refine pure_ (i:=7) (N:=some 55) (v:=?_) (a' := ?_) (bb5 36 255) rfl rfl (any_of HT_.out (by kernel_rfl)) (fun _ _ _ h => h) (Or.inl ⟨by rfl, ?_⟩) ?_ ?_
  rotate_left
  · (intro w'; go_simp; with_reducible rfl)
  rotate_left
  · (simp only [Act.put, List.setIfInBounds_toArray, List.set_cons_zero, List.set_cons_succ, i64_w, i32_w]; rfl)
  refine pure_ (i:=8) (N:=some 56) (v:=?_) (a' := ?_) (bb5 36 511) rfl rfl (any_of HT_.out (by kernel_rfl)) (fun _ _ _ h => h) (Or.inl ⟨by rfl, ?_⟩) ?_ ?_
  rotate_left
  · (intro w'; go_simp; with_reducible rfl)
  rotate_left
  · (simp only [Act.put, List.setIfInBounds_toArray, List.set_cons_zero, List.set_cons_succ, i64_w, i32_w]; rfl)
  refine take_ (i:=9) (N:=some 57) (v:=?_) (a' := ?_) (bb5 36 1023) rfl rfl (take_ofW HT_.out HW_.out (by kernel_rfl)) (fun _ _ _ h => h) (Or.inl ⟨by rfl, ?_⟩) hHeld ?_ ?_
  rotate_left
  · (rintro w' ⟨⟨e00, e01, e02, e03⟩, ⟨e10, e11, e12, e13⟩, ⟨e20, e21, e22, e23⟩, ⟨e30, e31, e32, e33⟩, ⟨e40, e41, e42, e43⟩, ⟨e50, e51, e52, e53⟩⟩; go_simp; with_reducible rfl)
  rotate_left
  · (simp only [Act.put, List.setIfInBounds_toArray, List.set_cons_zero, List.set_cons_succ, i64_w, i32_w]; rfl)
  refine take_ (i:=10) (N:=some 58) (v:=?_) (a' := ?_) (bb5 36 2047) rfl rfl (take_ofW HT_.out HW_.out (by kernel_rfl)) (fun _ _ _ h => h) (Or.inl ⟨by rfl, ?_⟩) hHeld ?_ ?_
  rotate_left
  · (rintro w' ⟨⟨e00, e01, e02, e03⟩, ⟨e10, e11, e12, e13⟩, ⟨e20, e21, e22, e23⟩, ⟨e30, e31, e32, e33⟩, ⟨e40, e41, e42, e43⟩, ⟨e50, e51, e52, e53⟩⟩; go_simp; with_reducible rfl)
  rotate_left
  · (simp only [Act.put, List.setIfInBounds_toArray, List.set_cons_zero, List.set_cons_succ, i64_w, i32_w]; rfl)
  refine one_ (i:=11) (N:=some 59) (bb5 36 4095) rfl rfl (one_of HT_.out (by kernel_rfl)) (by decide) (fun K hK => ?_)
  refine goes_ Try.func22 (by kernel_rfl) rfl #[.agg #[a0, a1, a2, a3], .agg #[d0, d1, d2, d3]] (by rfl) rfl rfl (by (try simp only [List.map_toArray, List.map_cons, List.map_nil]); first | done | rfl) ?_
  refine (q22 HX.out.now.1.1.1.r HX.out.now.1.1.2.r hs1.out).mono ?_
  rintro e wr10_11 ⟨rfl, hb⟩
  refine ⟨_, rfl, ?_⟩
  replace HX := Aside0.mk (HX.out.step hb)
  clear hb
  refine hK.out _ _ ⟨Blk.c4 HX.out.now.1.1.1.k, Blk.c4 HX.out.now.1.1.2.k, Blk.c4 HX.out.now.1.2.k, Blk.c4 HX.out.now.2.k, Blk.c4 (HT.out.out _ HX.out.now.1.1.1.b).k7, Blk.c4 (HT.out.out _ HX.out.now.1.1.1.b).p.k3⟩ (fun hHeld => ?_)
  clear hK K
  refine norm_ (a' := ?_) ?_ ?_
  rotate_left
  · (show Act.put _ (some 59) _ = _; simp only [Act.put, List.setIfInBounds_toArray, List.set_cons_zero, List.set_cons_succ, i64_w, i32_w]; rfl)
  refine pure_ (i:=12) (N:=some 60) (v:=?_) (a' := ?_) (bb5 36 8191) rfl rfl (any_of HT_.out (by kernel_rfl)) (fun _ _ _ h => h) (Or.inl ⟨by rfl, ?_⟩) ?_ ?_
  rotate_left
  · (intro w'; go_simp; with_reducible rfl)
  rotate_left
  · (simp only [Act.put, List.setIfInBounds_toArray, List.set_cons_zero, List.set_cons_succ, i64_w, i32_w]; rfl)
  refine pure_ (i:=13) (N:=some 61) (v:=?_) (a' := ?_) (bb5 36 16383) rfl rfl (any_of HT_.out (by kernel_rfl)) (fun _ _ _ h => h) (Or.inl ⟨by rfl, ?_⟩) ?_ ?_
  rotate_left
  · (intro w'; go_simp; with_reducible rfl)
  rotate_left
  · (simp only [Act.put, List.setIfInBounds_toArray, List.set_cons_zero, List.set_cons_succ, i64_w, i32_w]; rfl)
  refine pure_ (i:=14) (N:=some 62) (v:=?_) (a' := ?_) (bb5 36 32767) rfl rfl (any_of HT_.out (by kernel_rfl)) (fun _ _ _ h => h) (Or.inl ⟨by rfl, ?_⟩) ?_ ?_
  rotate_left
  · (intro w'; go_simp; with_reducible rfl)
  rotate_left
  · (simp only [Act.put, List.setIfInBounds_toArray, List.set_cons_zero, List.set_cons_succ, i64_w, i32_w]; rfl)
  refine take_ (i:=15) (N:=some 63) (v:=?_) (a' := ?_) (bb5 36 65535) rfl rfl (take_ofW HT_.out HW_.out (by kernel_rfl)) (fun _ _ _ h => h) (Or.inl ⟨by rfl, ?_⟩) hHeld ?_ ?_
  rotate_left
  · (rintro w' ⟨⟨e00, e01, e02, e03⟩, ⟨e10, e11, e12, e13⟩, ⟨e20, e21, e22, e23⟩, ⟨e30, e31, e32, e33⟩, ⟨e40, e41, e42, e43⟩, ⟨e50, e51, e52, e53⟩⟩; go_simp; with_reducible rfl)
  rotate_left
  · (simp only [Act.put, List.setIfInBounds_toArray, List.set_cons_zero, List.set_cons_succ, i64_w, i32_w]; rfl)
  refine take_ (i:=16) (N:=some 64) (v:=?_) (a' := ?_) (bb5 36 131071) rfl rfl (take_ofW HT_.out HW_.out (by kernel_rfl)) (fun _ _ _ h => h) (Or.inl ⟨by rfl, ?_⟩) hHeld ?_ ?_
  rotate_left
  · (rintro w' ⟨⟨e00, e01, e02, e03⟩, ⟨e10, e11, e12, e13⟩, ⟨e20, e21, e22, e23⟩, ⟨e30, e31, e32, e33⟩, ⟨e40, e41, e42, e43⟩, ⟨e50, e51, e52, e53⟩⟩; go_simp; with_reducible rfl)
  rotate_left
  · (simp only [Act.put, List.setIfInBounds_toArray, List.set_cons_zero, List.set_cons_succ, i64_w, i32_w]; rfl)
  refine one_ (i:=17) (N:=some 65) (bb5 36 262143) rfl rfl (one_of HT_.out (by kernel_rfl)) (by decide) (fun K hK => ?_)
  refine goes_ Try.func22 (by kernel_rfl) rfl #[.agg #[p0, p1, p2, p3], .agg #[z0, z1, z2, z3]] (by rfl) rfl rfl (by (try simp only [List.map_toArray, List.map_cons, List.map_nil]); first | done | rfl) ?_
  refine (q22 HX.out.now.1.2.r HX.out.now.2.r hs2.out).mono ?_
  rintro e wr10_17 ⟨rfl, hb⟩
  refine ⟨_, rfl, ?_⟩
  replace HX := Aside0.mk (HX.out.step hb)
  clear hb
  refine hK.out _ _ ⟨Blk.c4 HX.out.now.1.1.1.k, Blk.c4 HX.out.now.1.1.2.k, Blk.c4 HX.out.now.1.2.k, Blk.c4 HX.out.now.2.k, Blk.c4 (HT.out.out _ HX.out.now.1.1.1.b).k7, Blk.c4 (HT.out.out _ HX.out.now.1.1.1.b).p.k3⟩ (fun hHeld => ?_)
  clear hK K
  refine norm_ (a' := ?_) ?_ ?_
  rotate_left
  · (show Act.put _ (some 65) _ = _; simp only [Act.put, List.setIfInBounds_toArray, List.set_cons_zero, List.set_cons_succ, i64_w, i32_w]; rfl)
  refine pure_ (i:=18) (N:=some 66) (v:=?_) (a' := ?_) (bb5 36 524287) rfl rfl (any_of HT_.out (by kernel_rfl)) (fun _ _ _ h => h) (Or.inl ⟨by rfl, ?_⟩) ?_ ?_
  rotate_left
  · (intro w'; go_simp; with_reducible rfl)
  rotate_left
  · (simp only [Act.put, List.setIfInBounds_toArray, List.set_cons_zero, List.set_cons_succ, i64_w, i32_w]; rfl)
  refine pure_ (i:=19) (N:=some 67) (v:=?_) (a' := ?_) (bb5 36 1048575) rfl rfl (any_of HT_.out (by kernel_rfl)) (fun _ _ _ h => h) (Or.inl ⟨by rfl, ?_⟩) ?_ ?_
  rotate_left
  · (intro w'; go_simp; with_reducible rfl)
  rotate_left
  · (simp only [Act.put, List.setIfInBounds_toArray, List.set_cons_zero, List.set_cons_succ, i64_w, i32_w]; rfl)
  refine pure_ (i:=20) (N:=some 68) (v:=?_) (a' := ?_) (bb5 36 2097151) rfl rfl (any_of HT_.out (by kernel_rfl)) (fun _ _ _ h => h) (Or.inl ⟨by rfl, ?_⟩) ?_ ?_
  rotate_left
  · (intro w'; go_simp; with_reducible rfl)
  rotate_left
  · (simp only [Act.put, List.setIfInBounds_toArray, List.set_cons_zero, List.set_cons_succ, i64_w, i32_w]; rfl)
  refine take_ (i:=21) (N:=some 69) (v:=?_) (a' := ?_) (bb5 36 4194303) rfl rfl (take_ofW HT_.out HW_.out (by kernel_rfl)) (fun _ _ _ h => h) (Or.inl ⟨by rfl, ?_⟩) hHeld ?_ ?_
  rotate_left
  · (rintro w' ⟨⟨e00, e01, e02, e03⟩, ⟨e10, e11, e12, e13⟩, ⟨e20, e21, e22, e23⟩, ⟨e30, e31, e32, e33⟩, ⟨e40, e41, e42, e43⟩, ⟨e50, e51, e52, e53⟩⟩; go_simp; with_reducible rfl)
  rotate_left
  · (simp only [Act.put, List.setIfInBounds_toArray, List.set_cons_zero, List.set_cons_succ, i64_w, i32_w]; rfl)
  refine take_ (i:=23) (N:=some 71) (v:=?_) (a' := ?_) (bb5 36 12582911) rfl rfl (take_ofW HT_.out HW_.out (by kernel_rfl)) (fun _ _ _ h => h) (Or.inl ⟨by rfl, ?_⟩) hHeld ?_ ?_
  rotate_left
  · (rintro w' ⟨⟨e00, e01, e02, e03⟩, ⟨e10, e11, e12, e13⟩, ⟨e20, e21, e22, e23⟩, ⟨e30, e31, e32, e33⟩, ⟨e40, e41, e42, e43⟩, ⟨e50, e51, e52, e53⟩⟩; go_simp; with_reducible rfl)
  rotate_left
  · (simp only [Act.put, List.setIfInBounds_toArray, List.set_cons_zero, List.set_cons_succ, i64_w, i32_w]; rfl)
  refine one_ (i:=22) (N:=some 70) (bb5 36 16777215) rfl rfl (one_of HT_.out (by kernel_rfl)) (by decide) (fun K hK => ?_)
  refine goes_ Try.func14 (by kernel_rfl) rfl #[.agg #[i0, i1, i2, i3]] (by rfl) rfl rfl (by (try simp only [List.map_toArray, List.map_cons, List.map_nil]); first | done | rfl) ?_
  refine (q14 ((HT.out.out _ HX.out.now.1.1.1.b).ri m0.out m1.out m2.out m3.out) hr1.out).mono ?_
  rintro e wr10_22 ⟨rfl, hb⟩
  refine ⟨_, rfl, ?_⟩
  replace HX := Aside0.mk (HX.out.step hb)
  clear hb
  refine hK.out _ _ ⟨Blk.c4 HX.out.now.1.1.1.k, Blk.c4 HX.out.now.1.1.2.k, Blk.c4 HX.out.now.1.2.k, Blk.c4 HX.out.now.2.k, Blk.c4 (HT.out.out _ HX.out.now.1.1.1.b).k7, Blk.c4 (HT.out.out _ HX.out.now.1.1.1.b).p.k3⟩ (fun hHeld => ?_)
  clear hK K
  refine norm_ (a' := ?_) ?_ ?_
  rotate_left
  · (show Act.put _ (some 70) _ = _; simp only [Act.put, List.setIfInBounds_toArray, List.set_cons_zero, List.set_cons_succ, i64_w, i32_w]; rfl)
  refine one_ (i:=24) (N:=some 72) (bb5 36 33554431) rfl rfl (one_of HT_.out (by kernel_rfl)) (by decide) (fun K hK => ?_)
  refine goes_ Try.func23 (by kernel_rfl) rfl #[.agg #[s0, s1, s2, s3]] (by rfl) rfl rfl (by (try simp only [List.map_toArray, List.map_cons, List.map_nil]); first | done | rfl) ?_
  refine (q23 (HT.out.out _ HX.out.now.1.1.1.b).p.r hr2.out).mono ?_
  rintro e wr10_24 ⟨rfl, hb⟩
  refine ⟨_, rfl, ?_⟩
  replace HX := Aside0.mk (HX.out.step hb)
  clear hb
  refine hK.out _ _ ⟨Blk.c4 HX.out.now.1.1.1.k, Blk.c4 HX.out.now.1.1.2.k, Blk.c4 HX.out.now.1.2.k, Blk.c4 HX.out.now.2.k, Blk.c4 (HT.out.out _ HX.out.now.1.1.1.b).k7, Blk.c4 (HT.out.out _ HX.out.now.1.1.1.b).p.k3⟩ (fun hHeld => ?_)
  clear hK K
  refine norm_ (a' := ?_) ?_ ?_
  rotate_left
  · (show Act.put _ (some 72) _ = _; simp only [Act.put, List.setIfInBounds_toArray, List.set_cons_zero, List.set_cons_succ, i64_w, i32_w]; rfl)
  refine pure_ (i:=25) (N:=some 73) (v:=?_) (a' := ?_) (bb5 36 67108863) rfl rfl (any_of HT_.out (by kernel_rfl)) (fun _ _ _ h => h) (Or.inl ⟨by rfl, ?_⟩) ?_ ?_
  rotate_left
  · (intro w'; go_simp; with_reducible rfl)
  rotate_left
  · (simp only [Act.put, List.setIfInBounds_toArray, List.set_cons_zero, List.set_cons_succ, i64_w, i32_w]; rfl)
  refine pure_ (i:=26) (N:=some 74) (v:=?_) (a' := ?_) (bb5 36 134217727) rfl rfl (any_of HT_.out (by kernel_rfl)) (fun _ _ _ h => h) (Or.inl ⟨by rfl, ?_⟩) ?_ ?_
  rotate_left
  · (intro w'; go_simp; with_reducible rfl)
  rotate_left
  · (simp only [Act.put, List.setIfInBounds_toArray, List.set_cons_zero, List.set_cons_succ, i64_w, i32_w]; rfl)
  refine pure_ (i:=27) (N:=some 75) (v:=?_) (a' := ?_) (bb5 36 268435455) rfl rfl (any_of HT_.out (by kernel_rfl)) (fun _ _ _ h => h) (Or.inl ⟨by rfl, ?_⟩) ?_ ?_
  rotate_left
  · (intro w'; go_simp; with_reducible rfl)
  rotate_left
  · (simp only [Act.put, List.setIfInBounds_toArray, List.set_cons_zero, List.set_cons_succ, i64_w, i32_w]; rfl)
  refine pure_ (i:=29) (N:=some 77) (v:=?_) (a' := ?_) (bb5 36 805306367) rfl rfl (any_of HT_.out (by kernel_rfl)) (fun _ _ _ h => h) (Or.inl ⟨by rfl, ?_⟩) ?_ ?_
  rotate_left
  · (intro w'; go_simp; with_reducible rfl)
  rotate_left
  · (simp only [Act.put, List.setIfInBounds_toArray, List.set_cons_zero, List.set_cons_succ, i64_w, i32_w]; rfl)
  refine pure_ (i:=32) (N:=some 80) (v:=?_) (a' := ?_) (bb5 36 5100273663) rfl rfl (any_of HT_.out (by kernel_rfl)) (fun _ _ _ h => h) (Or.inl ⟨by rfl, ?_⟩) ?_ ?_
  rotate_left
  · (intro w'; go_simp; with_reducible rfl)
  rotate_left
  · (simp only [Act.put, List.setIfInBounds_toArray, List.set_cons_zero, List.set_cons_succ, i64_w, i32_w]; rfl)
  refine take_ (i:=28) (N:=some 76) (v:=?_) (a' := ?_) (bb5 36 5368709119) rfl rfl (take_ofW HT_.out HW_.out (by kernel_rfl)) (fun _ _ _ h => h) (Or.inl ⟨by rfl, ?_⟩) hHeld ?_ ?_
  rotate_left
  · (rintro w' ⟨⟨e00, e01, e02, e03⟩, ⟨e10, e11, e12, e13⟩, ⟨e20, e21, e22, e23⟩, ⟨e30, e31, e32, e33⟩, ⟨e40, e41, e42, e43⟩, ⟨e50, e51, e52, e53⟩⟩; go_simp; with_reducible rfl)
  rotate_left
  · (simp only [Act.put, List.setIfInBounds_toArray, List.set_cons_zero, List.set_cons_succ, i64_w, i32_w]; rfl)
  refine take_ (i:=31) (N:=some 79) (v:=?_) (a' := ?_) (bb5 36 7516192767) rfl rfl (take_ofW HT_.out HW_.out (by kernel_rfl)) (fun _ _ _ h => h) (Or.inl ⟨by rfl, ?_⟩) hHeld ?_ ?_
  rotate_left
  · (rintro w' ⟨⟨e00, e01, e02, e03⟩, ⟨e10, e11, e12, e13⟩, ⟨e20, e21, e22, e23⟩, ⟨e30, e31, e32, e33⟩, ⟨e40, e41, e42, e43⟩, ⟨e50, e51, e52, e53⟩⟩; go_simp; with_reducible rfl)
  rotate_left
  · (simp only [Act.put, List.setIfInBounds_toArray, List.set_cons_zero, List.set_cons_succ, i64_w, i32_w]; rfl)
  refine one_ (i:=30) (N:=some 78) (bb5 36 8589934591) rfl rfl (one_of HT_.out (by kernel_rfl)) (by decide) (fun K hK => ?_)
  refine goes_ Try.func9 (by kernel_rfl) rfl #[.agg #[i0, i1, i2, i3], j] (by rfl) rfl rfl (by (try simp only [List.map_toArray, List.map_cons, List.map_nil]); first | done | rfl) ?_
  refine (q9 ((HT.out.out _ HX.out.now.1.1.1.b).ri m0.out m1.out m2.out m3.out) ((HT.out.out _ HX.out.now.1.1.1.b).lj.row (Nat.le_trans ms.out (by decide))) ha1.out).mono ?_
  rintro e wr10_30 ⟨rfl, hb⟩
  refine ⟨_, rfl, ?_⟩
  replace HX := Aside0.mk (HX.out.step hb)
  clear hb
  refine hK.out _ _ ⟨Blk.c4 HX.out.now.1.1.1.k, Blk.c4 HX.out.now.1.1.2.k, Blk.c4 HX.out.now.1.2.k, Blk.c4 HX.out.now.2.k, Blk.c4 (HT.out.out _ HX.out.now.1.1.1.b).k7, Blk.c4 (HT.out.out _ HX.out.now.1.1.1.b).p.k3⟩ (fun hHeld => ?_)
  clear hK K
  refine norm_ (a' := ?_) ?_ ?_
  rotate_left
  · (show Act.put _ (some 78) _ = _; simp only [Act.put, List.setIfInBounds_toArray, List.set_cons_zero, List.set_cons_succ, i64_w, i32_w]; rfl)
  refine one_ (i:=33) (N:=some 81) (bb5 36 17179869183) rfl rfl (one_of HT_.out (by kernel_rfl)) (by decide) (fun K hK => ?_)
  refine goes_ Try.func24 (by kernel_rfl) rfl #[.agg #[s0, s1, s2, s3], ss] (by rfl) rfl rfl (by (try simp only [List.map_toArray, List.map_cons, List.map_nil]); first | done | rfl) ?_
  refine (q24 (HT.out.out _ HX.out.now.1.1.1.b).p.r (HT.out.out _ HX.out.now.1.1.1.b).p.rs ha2.out).mono ?_
  rintro e wr10_33 ⟨rfl, hb⟩
  refine ⟨_, rfl, ?_⟩
  replace HX := Aside0.mk (HX.out.step hb)
  clear hb
  refine hK.out _ _ ⟨Blk.c4 HX.out.now.1.1.1.k, Blk.c4 HX.out.now.1.1.2.k, Blk.c4 HX.out.now.1.2.k, Blk.c4 HX.out.now.2.k, Blk.c4 (HT.out.out _ HX.out.now.1.1.1.b).k7, Blk.c4 (HT.out.out _ HX.out.now.1.1.1.b).p.k3⟩ (fun hHeld => ?_)
  clear hK K
  refine norm_ (a' := ?_) ?_ ?_
  rotate_left
  · (show Act.put _ (some 81) _ = _; simp only [Act.put, List.setIfInBounds_toArray, List.set_cons_zero, List.set_cons_succ, i64_w, i32_w]; rfl)
  refine pure_ (i:=34) (N:=some 82) (v:=?_) (a' := ?_) (bb5 36 34359738367) rfl rfl (any_of HT_.out (by kernel_rfl)) (fun _ _ _ h => h) (Or.inl ⟨by rfl, ?_⟩) ?_ ?_
  rotate_left
  · (intro w'; go_simp; with_reducible rfl)
  rotate_left
  · (simp only [Act.put, List.setIfInBounds_toArray, List.set_cons_zero, List.set_cons_succ, i64_w, i32_w]; rfl)
  refine pure_ (i:=35) (N:=some 83) (v:=?_) (a' := ?_) (bb5 36 68719476735) rfl rfl (any_of HT_.out (by kernel_rfl)) (fun _ _ _ h => h) (Or.inl ⟨by rfl, ?_⟩) ?_ ?_
  rotate_left
  · (intro w'; go_simp; with_reducible rfl)
  rotate_left
  · (simp only [Act.put, List.setIfInBounds_toArray, List.set_cons_zero, List.set_cons_succ, i64_w, i32_w]; rfl)
  refine done_ (done_of HT_.out (by kernel_rfl)) ?_
  go_wp2_with (fail)
  refine start_ (n:=24) (S:=fun w' => C4 w' wd.heap.size i0 i1 i2 i3 ∧ C4 w' w.heap.size s0 s1 s2 s3) (ds:=[]) (bb5 24 0) (by kernel_rfl) rfl rfl ⟨Blk.c4 (HT.out.out _ HX.out.now.1.1.1.b).k7, Blk.c4 (HT.out.out _ HX.out.now.1.1.1.b).p.k3⟩ (fun hHeld => ?_); refine with_tabW qt.tab12 qt.bits12 (fun HT_ HW_ => ?_)
  replace HX := Aside0.mk HX.out.drew
  generalize wr10_33.drew = wr12 at HX hHeld ⊢
  refine pure_ (i:=1) (N:=some 85) (v:=?_) (a' := ?_) (bb5 24 2) rfl rfl (any_of HT_.out (by kernel_rfl)) (fun _ _ _ h => h) (Or.inl ⟨by rfl, ?_⟩) ?_ ?_
  rotate_left
  · (intro w'; go_simp; with_reducible rfl)
  rotate_left
  · (simp only [Act.put, List.setIfInBounds_toArray, List.set_cons_zero, List.set_cons_succ, i64_w, i32_w]; rfl)
  refine pure_ (i:=4) (N:=some 88) (v:=?_) (a' := ?_) (bb5 24 18) rfl rfl (any_of HT_.out (by kernel_rfl)) (fun _ _ _ h => h) (Or.inl ⟨by rfl, ?_⟩) ?_ ?_
  rotate_left
  · (intro w'; go_simp; with_reducible rfl)
  rotate_left
  · (simp only [Act.put, List.setIfInBounds_toArray, List.set_cons_zero, List.set_cons_succ, i64_w, i32_w]; rfl)
  refine take_ (i:=0) (N:=some 84) (v:=?_) (a' := ?_) (bb5 24 19) rfl rfl (take_ofW HT_.out HW_.out (by kernel_rfl)) (fun _ _ _ h => h) (Or.inl ⟨by rfl, ?_⟩) hHeld ?_ ?_
  rotate_left
  · (rintro w' ⟨⟨e00, e01, e02, e03⟩, ⟨e10, e11, e12, e13⟩⟩; go_simp; with_reducible rfl)
  rotate_left
  · (simp only [Act.put, List.setIfInBounds_toArray, List.set_cons_zero, List.set_cons_succ, i64_w, i32_w]; rfl)
  refine take_ (i:=3) (N:=some 87) (v:=?_) (a' := ?_) (bb5 24 27) rfl rfl (take_ofW HT_.out HW_.out (by kernel_rfl)) (fun _ _ _ h => h) (Or.inl ⟨by rfl, ?_⟩) hHeld ?_ ?_
  rotate_left
  · (rintro w' ⟨⟨e00, e01, e02, e03⟩, ⟨e10, e11, e12, e13⟩⟩; go_simp; with_reducible rfl)
  rotate_left
  · (simp only [Act.put, List.setIfInBounds_toArray, List.set_cons_zero, List.set_cons_succ, i64_w, i32_w]; rfl)
  refine one_ (i:=2) (N:=some 86) (bb5 24 31) rfl rfl (one_of HT_.out (by kernel_rfl)) (by decide) (fun K hK => ?_)
  refine goes_ Try.func17 (by kernel_rfl) rfl #[.agg #[i0, i1, i2, i3], .int .i64 node] (by rfl) rfl rfl (by (try simp only [List.map_toArray, List.map_cons, List.map_nil]); first | done | rfl) ?_
  refine (q17 ((HT.out.out _ HX.out.now.1.1.1.b).ri m0.out m1.out m2.out m3.out) hv1.out).mono ?_
  rintro e wr12_2 ⟨rfl, hb⟩
  refine ⟨_, rfl, ?_⟩
  replace HX := Aside0.mk (HX.out.step hb)
  clear hb
  refine hK.out _ _ ⟨Blk.c4 (HT.out.out _ HX.out.now.1.1.1.b).k7, Blk.c4 (HT.out.out _ HX.out.now.1.1.1.b).p.k3⟩ (fun hHeld => ?_)
  clear hK K
  refine norm_ (a' := ?_) ?_ ?_
  rotate_left
  · (show Act.put _ (some 86) _ = _; simp only [Act.put, List.setIfInBounds_toArray, List.set_cons_zero, List.set_cons_succ, i64_w, i32_w]; rfl)
  refine one_ (i:=5) (N:=some 89) (bb5 24 63) rfl rfl (one_of HT_.out (by kernel_rfl)) (by decide) (fun K hK => ?_)
  refine goes_ Try.func25 (by kernel_rfl) rfl #[.agg #[s0, s1, s2, s3], .int .i64 node] (by rfl) rfl rfl (by (try simp only [List.map_toArray, List.map_cons, List.map_nil]); first | done | rfl) ?_
  refine (q25 (HT.out.out _ HX.out.now.1.1.1.b).p.r hv2.out).mono ?_
  rintro e wr12_5 ⟨rfl, hb⟩
  refine ⟨_, rfl, ?_⟩
  replace HX := Aside0.mk (HX.out.step hb)
  clear hb
  refine hK.out _ _ ⟨Blk.c4 (HT.out.out _ HX.out.now.1.1.1.b).k7, Blk.c4 (HT.out.out _ HX.out.now.1.1.1.b).p.k3⟩ (fun hHeld => ?_)
  clear hK K
  refine norm_ (a' := ?_) ?_ ?_
  rotate_left
  · (show Act.put _ (some 89) _ = _; simp only [Act.put, List.setIfInBounds_toArray, List.set_cons_zero, List.set_cons_succ, i64_w, i32_w]; rfl)
  refine pure_ (i:=6) (N:=some 90) (v:=?_) (a' := ?_) (bb5 24 127) rfl rfl (any_of HT_.out (by kernel_rfl)) (fun _ _ _ h => h) (Or.inl ⟨by rfl, ?_⟩) ?_ ?_
  rotate_left
  · (intro w'; go_simp; with_reducible rfl)
  rotate_left
  · (simp only [Act.put, List.setIfInBounds_toArray, List.set_cons_zero, List.set_cons_succ, i64_w, i32_w]; rfl)
  refine pure_ (i:=7) (N:=some 91) (v:=?_) (a' := ?_) (bb5 24 255) rfl rfl (any_of HT_.out (by kernel_rfl)) (fun _ _ _ h => h) (Or.inl ⟨by rfl, ?_⟩) ?_ ?_
  rotate_left
  · (intro w'; go_simp; with_reducible rfl)
  rotate_left
  · (simp only [Act.put, List.setIfInBounds_toArray, List.set_cons_zero, List.set_cons_succ, i64_w, i32_w]; rfl)
  refine pure_ (i:=9) (N:=some 93) (v:=?_) (a' := ?_) (bb5 24 767) rfl rfl (any_of HT_.out (by kernel_rfl)) (fun _ _ _ h => h) (Or.inl ⟨by rfl, ?_⟩) ?_ ?_
  rotate_left
  · (intro w'; go_simp; with_reducible rfl)
  rotate_left
  · (simp only [Act.put, List.setIfInBounds_toArray, List.set_cons_zero, List.set_cons_succ, i64_w, i32_w]; rfl)
  refine pure_ (i:=12) (N:=some 96) (v:=?_) (a' := ?_) (bb5 24 4863) rfl rfl (any_of HT_.out (by kernel_rfl)) (fun _ _ _ h => h) (Or.inl ⟨by rfl, ?_⟩) ?_ ?_
  rotate_left
  · (intro w'; go_simp; with_reducible rfl)
  rotate_left
  · (simp only [Act.put, List.setIfInBounds_toArray, List.set_cons_zero, List.set_cons_succ, i64_w, i32_w]; rfl)
  refine take_ (i:=8) (N:=some 92) (v:=?_) (a' := ?_) (bb5 24 5119) rfl rfl (take_ofW HT_.out HW_.out (by kernel_rfl)) (fun _ _ _ h => h) (Or.inl ⟨by rfl, ?_⟩) hHeld ?_ ?_
  rotate_left
  · (rintro w' ⟨⟨e00, e01, e02, e03⟩, ⟨e10, e11, e12, e13⟩⟩; go_simp; with_reducible rfl)
  rotate_left
  · (simp only [Act.put, List.setIfInBounds_toArray, List.set_cons_zero, List.set_cons_succ, i64_w, i32_w]; rfl)
  refine take_ (i:=11) (N:=some 95) (v:=?_) (a' := ?_) (bb5 24 7167) rfl rfl (take_ofW HT_.out HW_.out (by kernel_rfl)) (fun _ _ _ h => h) (Or.inl ⟨by rfl, ?_⟩) hHeld ?_ ?_
  rotate_left
  · (rintro w' ⟨⟨e00, e01, e02, e03⟩, ⟨e10, e11, e12, e13⟩⟩; go_simp; with_reducible rfl)
  rotate_left
  · (simp only [Act.put, List.setIfInBounds_toArray, List.set_cons_zero, List.set_cons_succ, i64_w, i32_w]; rfl)
  refine one_ (i:=10) (N:=some 94) (bb5 24 8191) rfl rfl (one_of HT_.out (by kernel_rfl)) (by decide) (fun K hK => ?_)
  refine goes_ Try.func16 (by kernel_rfl) rfl #[.agg #[i0, i1, i2, i3], .int .i64 node] (by rfl) rfl rfl (by (try simp only [List.map_toArray, List.map_cons, List.map_nil]); first | done | rfl) ?_
  refine (q16 ((HT.out.out _ HX.out.now.1.1.1.b).ri m0.out m1.out m2.out m3.out) hh1.out).mono ?_
  rintro e wr12_10 ⟨rfl, hb⟩
  refine ⟨_, rfl, ?_⟩
  replace HX := Aside0.mk (HX.out.step hb)
  clear hb
  refine hK.out _ _ ⟨Blk.c4 (HT.out.out _ HX.out.now.1.1.1.b).k7, Blk.c4 (HT.out.out _ HX.out.now.1.1.1.b).p.k3⟩ (fun hHeld => ?_)
  clear hK K
  refine norm_ (a' := ?_) ?_ ?_
  rotate_left
  · (show Act.put _ (some 94) _ = _; simp only [Act.put, List.setIfInBounds_toArray, List.set_cons_zero, List.set_cons_succ, i64_w, i32_w]; rfl)
  refine one_ (i:=13) (N:=some 97) (bb5 24 16383) rfl rfl (one_of HT_.out (by kernel_rfl)) (by decide) (fun K hK => ?_)
  refine goes_ Try.func26 (by kernel_rfl) rfl #[.agg #[s0, s1, s2, s3], .int .i64 node] (by rfl) rfl rfl (by (try simp only [List.map_toArray, List.map_cons, List.map_nil]); first | done | rfl) ?_
  refine (q26 (HT.out.out _ HX.out.now.1.1.1.b).p.r hh2.out).mono ?_
  rintro e wr12_13 ⟨rfl, hb⟩
  refine ⟨_, rfl, ?_⟩
  replace HX := Aside0.mk (HX.out.step hb)
  clear hb
  refine hK.out _ _ ⟨Blk.c4 (HT.out.out _ HX.out.now.1.1.1.b).k7, Blk.c4 (HT.out.out _ HX.out.now.1.1.1.b).p.k3⟩ (fun hHeld => ?_)
  clear hK K
  refine norm_ (a' := ?_) ?_ ?_
  rotate_left
  · (show Act.put _ (some 97) _ = _; simp only [Act.put, List.setIfInBounds_toArray, List.set_cons_zero, List.set_cons_succ, i64_w, i32_w]; rfl)
  refine pure_ (i:=14) (N:=some 98) (v:=?_) (a' := ?_) (bb5 24 32767) rfl rfl (any_of HT_.out (by kernel_rfl)) (fun _ _ _ h => h) (Or.inl ⟨by rfl, ?_⟩) ?_ ?_
  rotate_left
  · (intro w'; go_simp; with_reducible rfl)
  rotate_left
  · (simp only [Act.put, List.setIfInBounds_toArray, List.set_cons_zero, List.set_cons_succ, i64_w, i32_w]; rfl)
  refine pure_ (i:=15) (N:=some 99) (v:=?_) (a' := ?_) (bb5 24 65535) rfl rfl (any_of HT_.out (by kernel_rfl)) (fun _ _ _ h => h) (Or.inl ⟨by rfl, ?_⟩) ?_ ?_
  rotate_left
  · (intro w'; go_simp; with_reducible rfl)
  rotate_left
  · (simp only [Act.put, List.setIfInBounds_toArray, List.set_cons_zero, List.set_cons_succ, i64_w, i32_w]; rfl)
  refine pure_ (i:=16) (N:=some 100) (v:=?_) (a' := ?_) (bb5 24 131071) rfl rfl (any_of HT_.out (by kernel_rfl)) (fun _ _ _ h => h) (Or.inl ⟨by rfl, ?_⟩) ?_ ?_
  rotate_left
  · (intro w'; go_simp; with_reducible rfl)
  rotate_left
  · (simp only [Act.put, List.setIfInBounds_toArray, List.set_cons_zero, List.set_cons_succ, i64_w, i32_w]; rfl)
  refine take_ (i:=17) (N:=some 101) (v:=?_) (a' := ?_) (bb5 24 262143) rfl rfl (take_ofW HT_.out HW_.out (by kernel_rfl)) (fun _ _ _ h => h) (Or.inl ⟨by rfl, ?_⟩) hHeld ?_ ?_
  rotate_left
  · (rintro w' ⟨⟨e00, e01, e02, e03⟩, ⟨e10, e11, e12, e13⟩⟩; go_simp; with_reducible rfl)
  rotate_left
  · (simp only [Act.put, List.setIfInBounds_toArray, List.set_cons_zero, List.set_cons_succ, i64_w, i32_w]; rfl)
  refine take_ (i:=19) (N:=some 103) (v:=?_) (a' := ?_) (bb5 24 786431) rfl rfl (take_ofW HT_.out HW_.out (by kernel_rfl)) (fun _ _ _ h => h) (Or.inl ⟨by rfl, ?_⟩) hHeld ?_ ?_
  rotate_left
  · (rintro w' ⟨⟨e00, e01, e02, e03⟩, ⟨e10, e11, e12, e13⟩⟩; go_simp; with_reducible rfl)
  rotate_left
  · (simp only [Act.put, List.setIfInBounds_toArray, List.set_cons_zero, List.set_cons_succ, i64_w, i32_w]; rfl)
  refine one_ (i:=18) (N:=some 102) (bb5 24 1048575) rfl rfl (one_of HT_.out (by kernel_rfl)) (by decide) (fun K hK => ?_)
  refine goes_ Try.func27 (by kernel_rfl) rfl #[.agg #[i0, i1, i2, i3]] (by rfl) rfl rfl (by (try simp only [List.map_toArray, List.map_cons, List.map_nil]); first | done | rfl) ?_
  refine (q27 ((HT.out.out _ HX.out.now.1.1.1.b).ri m0.out m1.out m2.out m3.out) (Nat.le_trans m0.out (by decide)) (Nat.le_trans m1.out (by decide)) (Nat.le_trans m2.out (by decide))).mono ?_
  rintro e wr12_18 ⟨nv, rfl, hn, hb⟩
  have HN : Aside0 (Stay (fun V => Row V nv (Nd.nodesL l0 l1 l2)) wr12_18) := ⟨⟨fun V hV => hn.below hV⟩⟩
  refine ⟨_, rfl, ?_⟩
  replace HX := Aside0.mk (HX.out.step hb)
  clear hb hn
  refine hK.out _ _ ⟨Blk.c4 (HT.out.out _ HX.out.now.1.1.1.b).k7, Blk.c4 (HT.out.out _ HX.out.now.1.1.1.b).p.k3⟩ (fun hHeld => ?_)
  clear hK K
  refine norm_ (a' := ?_) ?_ ?_
  rotate_left
  · (show Act.put _ (some 102) _ = _; simp only [Act.put, List.setIfInBounds_toArray, List.set_cons_zero, List.set_cons_succ, i64_w, i32_w]; rfl)
  refine one_ (i:=20) (N:=some 104) (bb5 24 2097151) rfl rfl (one_of HT_.out (by kernel_rfl)) (by decide) (fun K hK => ?_)
  refine goes_ Try.func28 (by kernel_rfl) rfl #[.agg #[s0, s1, s2, s3]] (by rfl) rfl rfl (by (try simp only [List.map_toArray, List.map_cons, List.map_nil]); first | done | rfl) ?_
  refine (q28 (HT.out.out _ HX.out.now.1.1.1.b).p.r hnd.out).mono ?_
  rintro e wr12_20 ⟨nr, rfl, hn, hb⟩
  have HM : Aside0 (Stay (fun V => Row V nr (Nd.nodesL l0 l1 l2)) wr12_20) := ⟨⟨fun V hV => hn.below hV⟩⟩
  replace HN := Aside0.mk (HN.out.step hb)
  refine ⟨_, rfl, ?_⟩
  replace HX := Aside0.mk (HX.out.step hb)
  clear hb hn
  refine hK.out _ _ ⟨Blk.c4 (HT.out.out _ HX.out.now.1.1.1.b).k7, Blk.c4 (HT.out.out _ HX.out.now.1.1.1.b).p.k3⟩ (fun hHeld => ?_)
  clear hK K
  refine norm_ (a' := ?_) ?_ ?_
  rotate_left
  · (show Act.put _ (some 104) _ = _; simp only [Act.put, List.setIfInBounds_toArray, List.set_cons_zero, List.set_cons_succ, i64_w, i32_w]; rfl)
  refine one_ (i:=21) (N:=some 105) (bb5 24 4194303) rfl rfl (one_of HT_.out (by kernel_rfl)) (by decide) (fun K hK => ?_)
  refine goes_ Try.func15 (by kernel_rfl) rfl #[nv, nr] (by rfl) rfl rfl (by (try simp only [List.map_toArray, List.map_cons, List.map_nil]); first | done | rfl) ?_
  refine (q15 HN.out.now HM.out.now hsi.out).mono ?_
  rintro e wr12_21 ⟨rfl, hb⟩
  refine ⟨_, rfl, ?_⟩
  replace HX := Aside0.mk (HX.out.step hb)
  clear hb
  refine hK.out _ _ ⟨Blk.c4 (HT.out.out _ HX.out.now.1.1.1.b).k7, Blk.c4 (HT.out.out _ HX.out.now.1.1.1.b).p.k3⟩ (fun hHeld => ?_)
  clear hK K
  refine norm_ (a' := ?_) ?_ ?_
  rotate_left
  · (show Act.put _ (some 105) _ = _; simp only [Act.put, List.setIfInBounds_toArray, List.set_cons_zero, List.set_cons_succ, i64_w, i32_w]; rfl)
  refine pure_ (i:=22) (N:=some 106) (v:=?_) (a' := ?_) (bb5 24 8388607) rfl rfl (any_of HT_.out (by kernel_rfl)) (fun _ _ _ h => h) (Or.inl ⟨by rfl, ?_⟩) ?_ ?_
  rotate_left
  · (intro w'; go_simp; with_reducible rfl)
  rotate_left
  · (simp only [Act.put, List.setIfInBounds_toArray, List.set_cons_zero, List.set_cons_succ, i64_w, i32_w]; rfl)
  refine pure_ (i:=23) (N:=some 107) (v:=?_) (a' := ?_) (bb5 24 16777215) rfl rfl (any_of HT_.out (by kernel_rfl)) (fun _ _ _ h => h) (Or.inl ⟨by rfl, ?_⟩) ?_ ?_
  rotate_left
  · (intro w'; go_simp; with_reducible rfl)
  rotate_left
  · (simp only [Act.put, List.setIfInBounds_toArray, List.set_cons_zero, List.set_cons_succ, i64_w, i32_w]; rfl)
  refine done_ (done_of HT_.out (by kernel_rfl)) ?_
  have HA := Aside0.mk HX.out.now.1.1.1
  have HP := Aside0.mk HX.out.now.1.2
  clear HX hHeld HT_ HW_
  clear ca0 ca1 ca2 ca3 cb0 cb1 cb2 cb3 cd0 cd1 cd2 cd3 ce0 ce1 ce2 ce3 cf0 cf1 cf2 cf3 cg0 cg1 cg2 cg3
  obtain ⟨k9_0, k9_1, k9_2, k9_3⟩ := Blk.c4 HA.out.k
  go_wp2_with (first
    | (go_at_call 29; (with_reducible refine (q29 (s0 := a0) ⟨HA.out.r.r0.form, HA.out.r.r1.form, HA.out.r.r2.form, HA.out.r.r3.form⟩ HA.out.o HA.out.b.size n0.out).mono ?_); rintro e wu ⟨rfl, ov⟩; have HF : Aside0 (Form p0 x0 ∧ Form p1 x1 ∧ Form p2 x2 ∧ Form p3 x3) := ⟨⟨HP.out.r.r0.form, HP.out.r.r1.form, HP.out.r.r2.form, HP.out.r.r3.form⟩⟩; have HO := Aside0.mk (HP.out.o.over ov); have HK := Aside0.mk (Overs.blk ov HP.out.k); have HBl := Aside0.mk (HA.out.b.trans ov.below); clear HA HP ov; obtain ⟨ku0, ku1, ku2, ku3⟩ := Blk.c4 HK.out)
    | (go_at_call 29; (with_reducible refine (q29 (s0 := p0) HF.out HO.out HBl.out.size n1.out).mono ?_); rintro e wv ⟨rfl, ov⟩; have HBm := Aside0.mk (HBl.out.trans ov.below); have HU := Aside0.mk (HT.out.out _ HBm.out); clear ov; obtain ⟨kv0, kv1, kv2, kv3⟩ := Blk.c4 HU.out.k7; obtain ⟨kx0, kx1, kx2, kx3⟩ := Blk.c4 HU.out.p.k3)
    | (go_at_call 30; (with_reducible refine (q30 HU.out.p.r HU.out.li (Nat.le_trans m0.out (by decide)) (Nat.le_trans m1.out (by decide)) (Nat.le_trans m2.out (by decide)) (Nat.le_trans m3.out (by decide)) hkc.out).mono ?_); rintro e wx ⟨rfl, hb⟩; have HBn := Aside0.mk (HBm.out.trans (hb.mono HBm.out.size)); clear hb)
    | (go_at_call 31; (with_reducible refine (q31 (HT.out.out _ HBn.out).p.rs (HT.out.out _ HBn.out).lj (Nat.le_trans ms.out (by decide))).mono ?_); rintro e wy ⟨rfl, hb⟩; have HBo := Aside0.mk (HBn.out.trans (hb.mono HBn.out.size)); clear hb))
  go_ret
  exact ⟨rfl, (HT.out.out _ HBo.out).p.b⟩
end Go.Proofs.Ytkilmclncpmjnaa.P06t
