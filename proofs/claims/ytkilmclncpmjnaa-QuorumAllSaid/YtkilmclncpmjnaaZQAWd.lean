import Derived.Test.YtkilmclncpmjnaaZQAP06tx9
import Derived.Test.YtkilmclncpmjnaaZQAP06tx10
import Derived.Test.YtkilmclncpmjnaaZQALentBt
import Derived.Test.YtkilmclncpmjnaaZQANd
import Derived.Test.YtkilmclncpmjnaaZQAStay
namespace Go.Proofs.Ytkilmclncpmjnaa.P06t
open Go.RowKit Go.Proofs.YtkilmclncpmjnaaW.PrintWords Go.Proofs.YtkilmclncpmjnaaW.PrintLast Go.Proofs.YtkilmclncpmjnaaW.PrintMore Go.Proofs.Ytkilmclncpmjnaa.St
/-- A slice of whole numbers that is read. -/
def Row (W : World) (s : Value) (l : List Int) : Prop := ∃ A c, s = .slice A l.length c ∧ l.length ≤ c ∧ Kd.C (Kd.int .i64) W A l.length l
theorem Row.below {W W' : World} {s : Value} {l : List Int} (h : Row W s l) (hb : Below W.heap.size W W') : Row W' s l := by
  obtain ⟨A, c, e, q, h⟩ := h
  exact ⟨A, c, e, q, Kd.C_below h hb⟩
theorem Row.of_R {ok : Nat → Prop} {base : Nat} {W : World} {v : Value} {l : List Int} (h : Kd.R (Kd.int .i64) 3 W base ok v l) : Row W v l := by
  obtain ⟨A, c, rfl, q, hc⟩ := Kd.R_reads h
  exact ⟨A, c, rfl, q, hc⟩
/-- A configuration's four rows. -/
structure R4 (W : World) (s0 s1 s2 s3 : Value) (l0 l1 l2 l3 : List Int) : Prop where
  r0 : Row W s0 l0
  r1 : Row W s1 l1
  r2 : Row W s2 l2
  r3 : Row W s3 l3
theorem R4.below {W W' : World} {s0 s1 s2 s3 : Value} {l0 l1 l2 l3 : List Int} (h : R4 W s0 s1 s2 s3 l0 l1 l2 l3) (hb : Below W.heap.size W W') : R4 W' s0 s1 s2 s3 l0 l1 l2 l3 := ⟨h.r0.below hb, h.r1.below hb, h.r2.below hb, h.r3.below hb⟩
structure O4 (W : World) (B : Nat) (s0 s1 s2 s3 : Value) : Prop where
  o0 : Owned W B s0
  o1 : Owned W B s1
  o2 : Owned W B s2
  o3 : Owned W B s3
theorem O4.over {W W' : World} {B : Nat} {s0 s1 s2 s3 : Value} (h : O4 W B s0 s1 s2 s3) (hb : Overs B W W') : O4 W' B s0 s1 s2 s3 := ⟨h.o0.over hb, h.o1.over hb, h.o2.over hb, h.o3.over hb⟩
theorem O4.below {W W' : World} {B : Nat} {s0 s1 s2 s3 : Value} (h : O4 W B s0 s1 s2 s3) (hB : B ≤ W.heap.size) (hb : Below W.heap.size W W') : O4 W' B s0 s1 s2 s3 := h.over (Overs.of_below hb hB)
/-- What is lent: the row, and the marks behind it. -/
def Lent (W : World) (v : Value) (l : List Int) : Prop := ∃ g, v = .slice (some ⟨g, 0, none⟩) l.length (l.length + 12) ∧ W.heap[g]? = some (.cells (nums .i64 (l ++ marks 8000024 12)).toArray 3 (0, 0))
theorem Lent.below {W W' : World} {v : Value} {l : List Int} (h : Lent W v l) (hb : Below W.heap.size W W') : Lent W' v l := by
  obtain ⟨g, e, h⟩ := h
  exact ⟨g, e, blk_below h hb⟩
theorem Lent.row {W : World} {v : Value} {l : List Int} (h : Lent W v l) (hl : l.length ≤ 1000) : Row W v l := by
  obtain ⟨g, rfl, h⟩ := h
  exact ⟨_, _, rfl, by omega, c_lent _ _ h hl⟩
theorem Row.one {W : World} {v : Value} {l : List Int} (h : Row W v l) : v.oneCell' = true := by
  obtain ⟨A, c, rfl, _⟩ := h
  rfl
theorem Lent.one {W : World} {v : Value} {l : List Int} (h : Lent W v l) : v.oneCell' = true := by
  obtain ⟨g, rfl, _⟩ := h
  rfl
theorem st {v : Value} (h : v.oneCell' = true) : ∀ (P : Program) (w : World) (a : Addr) (m : Mode), (store a v m).run P w = stored P w a v m := fun P w a m => run_store P w a v m h
def C4 (W : World) (g : Nat) (s0 s1 s2 s3 : Value) : Prop := W.cell? ⟨g, 0, none⟩ = some s0 ∧ W.cell? ⟨g, 1, none⟩ = some s1 ∧ W.cell? ⟨g, 2, none⟩ = some s2 ∧ W.cell? ⟨g, 3, none⟩ = some s3
theorem Blk.c4 {W : World} {g : Nat} {s0 s1 s2 s3 : Value} {t : TypeId} (h : Blk W g #[s0, s1, s2, s3] t) : C4 W g s0 s1 s2 s3 := ⟨h.cell 0, h.cell 1, h.cell 2, h.cell 3⟩
theorem q14 {k : Nat} {s0 s1 s2 s3 : Value} {l0 l1 l2 l3 : List Int} {w : World} {r : Bool} (h : R4 w s0 s1 s2 s3 l0 l1 l2 l3) (hf : quorum_Right.f k l0 l1 l2 l3 = some r) : Calls Try.prog 14 #[.agg #[s0, s1, s2, s3]] w fun e w' => e = .returned (.bool r) ∧ Below w.heap.size w w' := by
  obtain ⟨⟨A0, c0, rfl, q0, h0⟩, ⟨A1, c1, rfl, q1, h1⟩, ⟨A2, c2, rfl, q2, h2⟩, ⟨A3, c3, rfl, q3, h3⟩⟩ := h
  exact quorum_Right.calls k _ _ _ _ _ _ _ _ _ _ _ _ r w h0 q0 h1 q1 h2 q2 h3 q3 hf
theorem q23 {k : Nat} {s0 s1 s2 s3 : Value} {l0 l1 l2 l3 : List Int} {w : World} {r : Bool} (h : R4 w s0 s1 s2 s3 l0 l1 l2 l3) (hf : watershedref06_Right.f k l0 l1 l2 l3 = some r) : Calls Try.prog 23 #[.agg #[s0, s1, s2, s3]] w fun e w' => e = .returned (.bool r) ∧ Below w.heap.size w w' := by
  obtain ⟨⟨A0, c0, rfl, q0, h0⟩, ⟨A1, c1, rfl, q1, h1⟩, ⟨A2, c2, rfl, q2, h2⟩, ⟨A3, c3, rfl, q3, h3⟩⟩ := h
  exact watershedref06_Right.calls k _ _ _ _ _ _ _ _ _ _ _ _ r w h0 q0 h1 q1 h2 q2 h3 q3 hf
theorem q9 {k : Nat} {s0 s1 s2 s3 : Value} {l0 l1 l2 l3 : List Int} {w : World} {s4 : Value} {l4 : List Int} {r : Bool} (h : R4 w s0 s1 s2 s3 l0 l1 l2 l3) (h' : Row w s4 l4) (hf : quorum_Agrees.f k l0 l1 l2 l3 l4 = some r) : Calls Try.prog 9 #[.agg #[s0, s1, s2, s3], s4] w fun e w' => e = .returned (.bool r) ∧ Below w.heap.size w w' := by
  obtain ⟨⟨A0, c0, rfl, q0, h0⟩, ⟨A1, c1, rfl, q1, h1⟩, ⟨A2, c2, rfl, q2, h2⟩, ⟨A3, c3, rfl, q3, h3⟩⟩ := h
  obtain ⟨A4, c4, rfl, q4, h4⟩ := h'
  exact quorum_Agrees.calls k _ _ _ _ _ _ _ _ _ _ _ _ _ _ _ r w h0 q0 h1 q1 h2 q2 h3 q3 h4 q4 hf
theorem q24 {k : Nat} {s0 s1 s2 s3 : Value} {l0 l1 l2 l3 : List Int} {w : World} {s4 : Value} {l4 : List Int} {r : Bool} (h : R4 w s0 s1 s2 s3 l0 l1 l2 l3) (h' : Row w s4 l4) (hf : watershedref06_Agrees.f k l0 l1 l2 l3 l4 = some r) : Calls Try.prog 24 #[.agg #[s0, s1, s2, s3], s4] w fun e w' => e = .returned (.bool r) ∧ Below w.heap.size w w' := by
  obtain ⟨⟨A0, c0, rfl, q0, h0⟩, ⟨A1, c1, rfl, q1, h1⟩, ⟨A2, c2, rfl, q2, h2⟩, ⟨A3, c3, rfl, q3, h3⟩⟩ := h
  obtain ⟨A4, c4, rfl, q4, h4⟩ := h'
  exact watershedref06_Agrees.calls k _ _ _ _ _ _ _ _ _ _ _ _ _ _ _ r w h0 q0 h1 q1 h2 q2 h3 q3 h4 q4 hf
theorem q17 {k : Nat} {s0 s1 s2 s3 : Value} {l0 l1 l2 l3 : List Int} {w : World} {node : Int} {r : Bool} (h : R4 w s0 s1 s2 s3 l0 l1 l2 l3) (hf : quorum_Votes.f k l0 l1 l2 l3 node = some r) : Calls Try.prog 17 #[.agg #[s0, s1, s2, s3], .int .i64 node] w fun e w' => e = .returned (.bool r) ∧ Below w.heap.size w w' := by
  obtain ⟨⟨A0, c0, rfl, q0, h0⟩, ⟨A1, c1, rfl, q1, h1⟩, ⟨A2, c2, rfl, q2, h2⟩, ⟨A3, c3, rfl, q3, h3⟩⟩ := h
  exact quorum_Votes.calls k _ _ _ _ _ _ _ _ _ _ _ _ node r w h0 q0 h1 q1 h2 q2 h3 q3 hf
theorem q25 {k : Nat} {s0 s1 s2 s3 : Value} {l0 l1 l2 l3 : List Int} {w : World} {node : Int} {r : Bool} (h : R4 w s0 s1 s2 s3 l0 l1 l2 l3) (hf : watershedref06_Votes.f k l0 l1 l2 l3 node = some r) : Calls Try.prog 25 #[.agg #[s0, s1, s2, s3], .int .i64 node] w fun e w' => e = .returned (.bool r) ∧ Below w.heap.size w w' := by
  obtain ⟨⟨A0, c0, rfl, q0, h0⟩, ⟨A1, c1, rfl, q1, h1⟩, ⟨A2, c2, rfl, q2, h2⟩, ⟨A3, c3, rfl, q3, h3⟩⟩ := h
  exact watershedref06_Votes.calls k _ _ _ _ _ _ _ _ _ _ _ _ node r w h0 q0 h1 q1 h2 q2 h3 q3 hf
theorem q16 {k : Nat} {s0 s1 s2 s3 : Value} {l0 l1 l2 l3 : List Int} {w : World} {node : Int} {r : Bool} (h : R4 w s0 s1 s2 s3 l0 l1 l2 l3) (hf : quorum_Has.f k l0 l1 l2 l3 node = some r) : Calls Try.prog 16 #[.agg #[s0, s1, s2, s3], .int .i64 node] w fun e w' => e = .returned (.bool r) ∧ Below w.heap.size w w' := by
  obtain ⟨⟨A0, c0, rfl, q0, h0⟩, ⟨A1, c1, rfl, q1, h1⟩, ⟨A2, c2, rfl, q2, h2⟩, ⟨A3, c3, rfl, q3, h3⟩⟩ := h
  exact quorum_Has.calls k _ _ _ _ _ _ _ _ _ _ _ _ node r w h0 q0 h1 q1 h2 q2 h3 q3 hf
theorem q26 {k : Nat} {s0 s1 s2 s3 : Value} {l0 l1 l2 l3 : List Int} {w : World} {node : Int} {r : Bool} (h : R4 w s0 s1 s2 s3 l0 l1 l2 l3) (hf : watershedref06_Has.f k l0 l1 l2 l3 node = some r) : Calls Try.prog 26 #[.agg #[s0, s1, s2, s3], .int .i64 node] w fun e w' => e = .returned (.bool r) ∧ Below w.heap.size w w' := by
  obtain ⟨⟨A0, c0, rfl, q0, h0⟩, ⟨A1, c1, rfl, q1, h1⟩, ⟨A2, c2, rfl, q2, h2⟩, ⟨A3, c3, rfl, q3, h3⟩⟩ := h
  exact watershedref06_Has.calls k _ _ _ _ _ _ _ _ _ _ _ _ node r w h0 q0 h1 q1 h2 q2 h3 q3 hf
theorem q8 {s0 s1 s2 s3 : Value} {l0 l1 l2 l3 : List Int} {w : World} {s4 : Value} {l4 : List Int} {r : Bool} (h : R4 w s0 s1 s2 s3 l0 l1 l2 l3) (h' : Row w s4 l4) (hf : watershedlaw06_great.f l0 l1 l2 l3 l4 = some r) : Calls Try.prog 8 #[.agg #[s0, s1, s2, s3], s4] w fun e w' => e = .returned (.bool r) ∧ Below w.heap.size w w' := by
  obtain ⟨⟨A0, c0, rfl, q0, h0⟩, ⟨A1, c1, rfl, q1, h1⟩, ⟨A2, c2, rfl, q2, h2⟩, ⟨A3, c3, rfl, q3, h3⟩⟩ := h
  obtain ⟨A4, c4, rfl, q4, h4⟩ := h'
  exact watershedlaw06_great.calls _ _ _ _ _ _ _ _ _ _ _ _ _ _ _ r w h0 q0 h1 q1 h2 q2 h3 q3 h4 q4 hf
theorem q22 {k : Nat} {s0 s1 s2 s3 : Value} {l0 l1 l2 l3 : List Int} {w : World} {t0 t1 t2 t3 : Value} {r : Bool} (h : R4 w s0 s1 s2 s3 l0 l1 l2 l3) (h' : R4 w t0 t1 t2 t3 l0 l1 l2 l3) (hf : watershedlaw06_same.f k l0 l1 l2 l3 l0 l1 l2 l3 = some r) : Calls Try.prog 22 #[.agg #[s0, s1, s2, s3], .agg #[t0, t1, t2, t3]] w fun e w' => e = .returned (.bool r) ∧ Below w.heap.size w w' := by
  obtain ⟨⟨A0, c0, rfl, q0, h0⟩, ⟨A1, c1, rfl, q1, h1⟩, ⟨A2, c2, rfl, q2, h2⟩, ⟨A3, c3, rfl, q3, h3⟩⟩ := h
  obtain ⟨⟨A4, c4, rfl, q4, h4⟩, ⟨A5, c5, rfl, q5, h5⟩, ⟨A6, c6, rfl, q6, h6⟩, ⟨A7, c7, rfl, q7, h7⟩⟩ := h'
  exact watershedlaw06_same.calls k _ _ _ _ _ _ _ _ _ _ _ _ _ _ _ _ _ _ _ _ _ _ _ _ r w h0 q0 h1 q1 h2 q2 h3 q3 h4 q4 h5 q5 h6 q6 h7 q7 hf
theorem q15 {k : Nat} {s0 s1 : Value} {l0 l1 : List Int} {w : World} {r : Bool} (h : Row w s0 l0) (h' : Row w s1 l1) (hf : watershedkit_SameInts.f k l0 l1 = some r) : Calls Try.prog 15 #[s0, s1] w fun e w' => e = .returned (.bool r) ∧ Below w.heap.size w w' := by
  obtain ⟨A0, c0, rfl, q0, h0⟩ := h
  obtain ⟨A1, c1, rfl, q1, h1⟩ := h'
  exact (watershedkit_SameInts.calls k _ _ _ _ _ _ r w h0 q0 h1 q1 hf).mono fun e w' ⟨a, b⟩ => ⟨a, b.below⟩
theorem q12 {k : Nat} {s0 s1 s2 s3 : Value} {l0 l1 l2 l3 : List Int} {w : World} {s4 : Value} {l4 b0 b1 b2 b3 : List Int} {r : Int} (h : R4 w s0 s1 s2 s3 l0 l1 l2 l3) (h' : Row w s4 l4) (hf : quorum_Begin.f k l0 l1 l2 l3 l4 = some (b0, b1, b2, b3, r)) : Calls Try.prog 12 #[.agg #[s0, s1, s2, s3], s4] w fun e w' => ∃ v0 v1 v2 v3 : Value, e = .returned (.tuple #[.agg #[v0, v1, v2, v3], .int .i64 r]) ∧ R4 w' v0 v1 v2 v3 b0 b1 b2 b3 ∧ O4 w' w.heap.size v0 v1 v2 v3 ∧ Below w.heap.size w w' := by
  obtain ⟨⟨A0, c0, rfl, q0, h0⟩, ⟨A1, c1, rfl, q1, h1⟩, ⟨A2, c2, rfl, q2, h2⟩, ⟨A3, c3, rfl, q3, h3⟩⟩ := h
  obtain ⟨A4, c4, rfl, q4, h4⟩ := h'
  refine (quorum_Begin.calls k _ _ _ _ _ _ _ _ _ _ _ _ _ _ _ _ _ _ _ _ r w h0 q0 h1 q1 h2 q2 h3 q3 (V_of_C h4 q4 _) hf).mono ?_
  rintro e w' ⟨v0, v1, v2, v3, rfl, o0, o1, o2, o3, hb⟩
  exact ⟨_, _, _, _, rfl, ⟨.of_R o0, .of_R o1, .of_R o2, .of_R o3⟩, ⟨.of_R o0 (Nat.le_refl _), .of_R o1 (Nat.le_refl _), .of_R o2 (Nat.le_refl _), .of_R o3 (Nat.le_refl _)⟩, hb⟩
theorem q20 {k : Nat} {s0 s1 s2 s3 : Value} {l0 l1 l2 l3 : List Int} {w : World} {s4 : Value} {l4 b0 b1 b2 b3 : List Int} {r : Int} (h : R4 w s0 s1 s2 s3 l0 l1 l2 l3) (h' : Row w s4 l4) (hf : watershedref06_Begin.f k l0 l1 l2 l3 l4 = some (b0, b1, b2, b3, r)) : Calls Try.prog 20 #[.agg #[s0, s1, s2, s3], s4] w fun e w' => ∃ v0 v1 v2 v3 : Value, e = .returned (.tuple #[.agg #[v0, v1, v2, v3], .int .i64 r]) ∧ R4 w' v0 v1 v2 v3 b0 b1 b2 b3 ∧ O4 w' w.heap.size v0 v1 v2 v3 ∧ Below w.heap.size w w' := by
  obtain ⟨⟨A0, c0, rfl, q0, h0⟩, ⟨A1, c1, rfl, q1, h1⟩, ⟨A2, c2, rfl, q2, h2⟩, ⟨A3, c3, rfl, q3, h3⟩⟩ := h
  obtain ⟨A4, c4, rfl, q4, h4⟩ := h'
  refine (watershedref06_Begin.calls k _ _ _ _ _ _ _ _ _ _ _ _ _ _ _ _ _ _ _ r w h0 q0 h1 q1 h2 q2 h3 q3 h4 q4 hf).mono ?_
  rintro e w' ⟨v0, v1, v2, v3, rfl, o0, o1, o2, o3, hb⟩
  exact ⟨_, _, _, _, rfl, ⟨.of_R o0, .of_R o1, .of_R o2, .of_R o3⟩, ⟨.of_R o0 (Nat.le_refl _), .of_R o1 (Nat.le_refl _), .of_R o2 (Nat.le_refl _), .of_R o3 (Nat.le_refl _)⟩, hb⟩
theorem q11 {k : Nat} {s0 s1 s2 s3 : Value} {l0 l1 l2 l3 : List Int} {w : World} {b0 b1 b2 b3 : List Int} {r : Bool} (h : R4 w s0 s1 s2 s3 l0 l1 l2 l3) (hf : quorum_Next.f k l0 l1 l2 l3 = some (b0, b1, b2, b3, r)) : Calls Try.prog 11 #[.agg #[s0, s1, s2, s3]] w fun e w' => ∃ v0 v1 v2 v3 : Value, e = .returned (.tuple #[.agg #[v0, v1, v2, v3], .bool r]) ∧ R4 w' v0 v1 v2 v3 b0 b1 b2 b3 ∧ O4 w' w.heap.size v0 v1 v2 v3 ∧ Below w.heap.size w w' := by
  obtain ⟨⟨A0, c0, rfl, q0, h0⟩, ⟨A1, c1, rfl, q1, h1⟩, ⟨A2, c2, rfl, q2, h2⟩, ⟨A3, c3, rfl, q3, h3⟩⟩ := h
  refine (quorum_Next.calls k _ _ _ _ _ _ _ _ _ _ _ _ _ _ _ _ r w h0 q0 h1 q1 h2 q2 h3 q3 hf).mono ?_
  rintro e w' ⟨v0, v1, v2, v3, rfl, o0, o1, o2, o3, hb⟩
  exact ⟨_, _, _, _, rfl, ⟨.of_R o0, .of_R o1, .of_R o2, .of_R o3⟩, ⟨.of_R o0 (Nat.le_refl _), .of_R o1 (Nat.le_refl _), .of_R o2 (Nat.le_refl _), .of_R o3 (Nat.le_refl _)⟩, hb⟩
theorem q21 {k : Nat} {s0 s1 s2 s3 : Value} {l0 l1 l2 l3 : List Int} {w : World} {b0 b1 b2 b3 : List Int} {r : Bool} (h : R4 w s0 s1 s2 s3 l0 l1 l2 l3) (hf : watershedref06_Next.f k l0 l1 l2 l3 = some (b0, b1, b2, b3, r)) : Calls Try.prog 21 #[.agg #[s0, s1, s2, s3]] w fun e w' => ∃ v0 v1 v2 v3 : Value, e = .returned (.tuple #[.agg #[v0, v1, v2, v3], .bool r]) ∧ R4 w' v0 v1 v2 v3 b0 b1 b2 b3 ∧ O4 w' w.heap.size v0 v1 v2 v3 ∧ Below w.heap.size w w' := by
  obtain ⟨⟨A0, c0, rfl, q0, h0⟩, ⟨A1, c1, rfl, q1, h1⟩, ⟨A2, c2, rfl, q2, h2⟩, ⟨A3, c3, rfl, q3, h3⟩⟩ := h
  refine (watershedref06_Next.calls k _ _ _ _ _ _ _ _ _ _ _ _ _ _ _ _ r w h0 q0 h1 q1 h2 q2 h3 q3 hf).mono ?_
  rintro e w' ⟨v0, v1, v2, v3, rfl, o0, o1, o2, o3, hb⟩
  exact ⟨_, _, _, _, rfl, ⟨.of_R o0, .of_R o1, .of_R o2, .of_R o3⟩, ⟨.of_R o0 (Nat.le_refl _), .of_R o1 (Nat.le_refl _), .of_R o2 (Nat.le_refl _), .of_R o3 (Nat.le_refl _)⟩, hb⟩
theorem q27 {s0 s1 s2 s3 : Value} {l0 l1 l2 l3 : List Int} {w : World} (h : R4 w s0 s1 s2 s3 l0 l1 l2 l3) (b0 : l0.length ≤ 1000) (b1 : l1.length ≤ 1000) (b2 : l2.length ≤ 1000) : Calls Try.prog 27 #[.agg #[s0, s1, s2, s3]] w fun e w' => ∃ v, e = .returned v ∧ Row w' v (Nd.nodesL l0 l1 l2) ∧ Below w.heap.size w w' := by
  obtain ⟨⟨A0, c0, rfl, q0, h0⟩, ⟨A1, c1, rfl, q1, h1⟩, ⟨A2, c2, rfl, q2, h2⟩, ⟨A3, c3, rfl, q3, h3⟩⟩ := h
  refine (Nd.nodes_calls _ _ _ _ _ _ _ _ _ _ _ _ w h0 q0 h1 q1 h2 q2 b0 b1 b2).mono ?_
  rintro e w' ⟨v, rfl, o, hb⟩
  exact ⟨_, rfl, .of_R o, hb⟩
theorem q28 {k : Nat} {s0 s1 s2 s3 : Value} {l0 l1 l2 l3 : List Int} {w : World} {n : List Int} (h : R4 w s0 s1 s2 s3 l0 l1 l2 l3) (hf : watershedref06_Nodes.f k l0 l1 l2 l3 = some n) : Calls Try.prog 28 #[.agg #[s0, s1, s2, s3]] w fun e w' => ∃ v, e = .returned v ∧ Row w' v n ∧ Below w.heap.size w w' := by
  obtain ⟨⟨A0, c0, rfl, q0, h0⟩, ⟨A1, c1, rfl, q1, h1⟩, ⟨A2, c2, rfl, q2, h2⟩, ⟨A3, c3, rfl, q3, h3⟩⟩ := h
  refine (watershedref06_Nodes.calls k _ _ _ _ _ _ _ _ _ _ _ _ n w h0 q0 h1 q1 h2 q2 h3 q3 hf).mono ?_
  rintro e w' ⟨v, rfl, o, hb⟩
  exact ⟨_, rfl, .of_R o, hb⟩
theorem q18 {s0 s1 s2 s3 : Value} {l0 l1 l2 l3 : List Int} {w : World} (h : R4 w s0 s1 s2 s3 l0 l1 l2 l3) (b0 : l0.length ≤ 1000) (b1 : l1.length ≤ 1000) (b2 : l2.length ≤ 1000) (b3 : l3.length ≤ 1000) : Calls Try.prog 18 #[.agg #[s0, s1, s2, s3]] w fun e w' => ∃ v0 v1 v2 v3, e = .returned (.agg #[v0, v1, v2, v3]) ∧ (Lent w' v0 l0 ∧ Lent w' v1 l1 ∧ Lent w' v2 l2 ∧ Lent w' v3 l3) ∧ Below w.heap.size w w' := by
  obtain ⟨⟨A0, c0, rfl, q0, h0⟩, ⟨A1, c1, rfl, q1, h1⟩, ⟨A2, c2, rfl, q2, h2⟩, ⟨A3, c3, rfl, q3, h3⟩⟩ := h
  refine (lent_config _ _ _ _ _ _ _ _ _ _ _ _ w h0 h1 h2 h3 b0 b1 b2 b3).mono ?_
  rintro e w' ⟨g0, g1, g2, g3, rfl, ⟨k0, k1, k2, k3⟩, hb⟩
  exact ⟨_, _, _, _, rfl, ⟨⟨_, rfl, k0⟩, ⟨_, rfl, k1⟩, ⟨_, rfl, k2⟩, ⟨_, rfl, k3⟩⟩, hb⟩
theorem q19 {s0 : Value} {l0 : List Int} {w : World} (h : Row w s0 l0) (b0 : l0.length ≤ 1000) : Calls Try.prog 19 #[s0] w fun e w' => ∃ v, e = .returned v ∧ Lent w' v l0 ∧ Below w.heap.size w w' := by
  obtain ⟨A0, c0, rfl, q0, h0⟩ := h
  refine (lent_ints _ _ _ w h0 b0).mono ?_
  rintro e w' ⟨g, rfl, k, _, hb⟩
  exact ⟨_, rfl, ⟨_, rfl, k⟩, hb⟩
def Form (v : Value) (l : List Int) : Prop := ∃ A c, v = .slice A l.length c
theorem Row.form {W : World} {v : Value} {l : List Int} (h : Row W v l) : Form v l := by
  obtain ⟨A, c, e, _⟩ := h
  exact ⟨A, c, e⟩
theorem q29 {s0 s1 s2 s3 : Value} {l0 l1 l2 l3 : List Int} {w : World} {B : Nat} (h : Form s0 l0 ∧ Form s1 l1 ∧ Form s2 l2 ∧ Form s3 l3) (o : O4 w B s0 s1 s2 s3) (hB : B ≤ w.heap.size) (b : l0.length ≤ 1000 ∧ l1.length ≤ 1000 ∧ l2.length ≤ 1000 ∧ l3.length ≤ 1000) : Calls Try.prog 29 #[.agg #[s0, s1, s2, s3]] w fun e w' => e = .returned (.tuple #[]) ∧ Overs B w w' := by
  obtain ⟨⟨A0, c0, rfl⟩, ⟨A1, c1, rfl⟩, ⟨A2, c2, rfl⟩, ⟨A3, c3, rfl⟩⟩ := h
  exact over_config _ _ _ _ _ _ _ _ _ _ _ _ B w o.o0 o.o1 o.o2 o.o3 hB b.1 b.2.1 b.2.2.1 b.2.2.2
theorem Overs.blk {B : Nat} {W W' : World} {g : Nat} {cs : Array Value} (h : Overs B W W') (k : Blk W g cs 24) : Blk W' g cs 24 := h.other g _ k (fun cur e => by injection e with _ e; exact absurd e (by decide))
theorem q30 {k : Nat} {s0 s1 s2 s3 : Value} {l0 l1 l2 l3 : List Int} {w : World} {t0 t1 t2 t3 : Value} (h : R4 w s0 s1 s2 s3 l0 l1 l2 l3) (h' : Lent w t0 l0 ∧ Lent w t1 l1 ∧ Lent w t2 l2 ∧ Lent w t3 l3) (b0 : l0.length ≤ 1000) (b1 : l1.length ≤ 1000) (b2 : l2.length ≤ 1000) (b3 : l3.length ≤ 1000) (hf : watershedkit_SameConfig.f k l0 l1 l2 l3 l0 l1 l2 l3 = some true) : Calls Try.prog 30 #[.agg #[t0, t1, t2, t3], .agg #[s0, s1, s2, s3]] w fun e w' => e = .returned (.bool true) ∧ Below w.heap.size w w' := by
  obtain ⟨⟨A0, c0, rfl, q0, h0⟩, ⟨A1, c1, rfl, q1, h1⟩, ⟨A2, c2, rfl, q2, h2⟩, ⟨A3, c3, rfl, q3, h3⟩⟩ := h
  obtain ⟨⟨g0, rfl, k0⟩, ⟨g1, rfl, k1⟩, ⟨g2, rfl, k2⟩, ⟨g3, rfl, k3⟩⟩ := h'
  exact kept_config k g0 g1 g2 g3 _ _ _ _ _ _ _ _ l0 l1 l2 l3 w hf k0 k1 k2 k3 h0 h1 h2 h3 q0 q1 q2 q3 b0 b1 b2 b3
theorem q31 {s0 t0 : Value} {l0 : List Int} {w : World} (h : Row w s0 l0) (h' : Lent w t0 l0) (b0 : l0.length ≤ 1000) : Calls Try.prog 31 #[t0, s0] w fun e w' => e = .returned (.bool true) ∧ Below w.heap.size w w' := by
  obtain ⟨A0, c0, rfl, q0, h0⟩ := h
  obtain ⟨g, rfl, k⟩ := h'
  exact (kept_ints g _ _ l0 w k h0 b0).mono fun e w' ⟨a, b⟩ => ⟨a, b.below⟩
end Go.Proofs.Ytkilmclncpmjnaa.P06t
