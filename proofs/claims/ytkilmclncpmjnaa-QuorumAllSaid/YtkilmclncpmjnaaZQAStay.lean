/- Words of this session: what holds of a world and of all that only make memory beyond it. -/
import Derived.Test.YtkilmclncpmjnaaZQAWMore
namespace Go.Proofs.Ytkilmclncpmjnaa.St
open Go.RowKit Go.Proofs.YtkilmclncpmjnaaW.PrintWords Go.Proofs.YtkilmclncpmjnaaW.PrintLast Go.Proofs.YtkilmclncpmjnaaW.PrintMore
/-- P holds of W, and of every world in which nothing of W is turned. -/
structure Stay (P : World → Prop) (W : World) : Prop where mk :: (out : ∀ W', Below W.heap.size W W' → P W')
theorem below_tr {a b c : World} (h : Below a.heap.size a b) (k : Below b.heap.size b c) : Below a.heap.size a c := below_step h k
theorem Stay.now {P : World → Prop} {W : World} (h : Stay P W) : P W := h.out W (Below.refl _ _)
theorem Stay.step {P : World → Prop} {W W' : World} (h : Stay P W) (hb : Below W.heap.size W W') : Stay P W' := ⟨fun V hV => h.out V (below_tr hb hV)⟩
theorem Stay.alloc {P : World → Prop} {W : World} (h : Stay P W) (o : Obj) : Stay P (W.alloc o) := h.step (below_alloc (Below.refl _ _) o)
theorem Stay.drewN {P : World → Prop} {W : World} (h : Stay P W) (n : Nat) : Stay P (W.drewN n) := h.step (pw_below_drewN (Below.refl _ _) n)
theorem Stay.drew {P : World → Prop} {W : World} (h : Stay P W) : Stay P W.drew := h.step (below_drew (Below.refl _ _))
theorem Stay.and {P Q : World → Prop} {W : World} (h : Stay P W) (k : Stay Q W) : Stay (fun V => P V ∧ Q V) W := ⟨fun V hV => ⟨h.out V hV, k.out V hV⟩⟩
theorem Stay.imp {P Q : World → Prop} {W : World} (h : Stay P W) (k : ∀ V, P V → Q V) : Stay Q W := ⟨fun V hV => k V (h.out V hV)⟩
theorem stay_below {w W : World} (h : Below w.heap.size w W) : Stay (fun V => Below w.heap.size w V) W := ⟨fun _ hV => below_tr h hV⟩
/-- Block g is just these cells. -/
def Blk (W : World) (g : Nat) (cs : Array Value) (t : TypeId) : Prop := W.heap[g]? = some (.cells cs t (0, 0))
theorem stay_blk {W : World} {g : Nat} {cs : Array Value} {t : TypeId} (h : Blk W g cs t) : Stay (fun V => Blk V g cs t) W := ⟨fun _ hV => blk_below h hV⟩
theorem Blk.cell {W : World} {g : Nat} {cs : Array Value} {t : TypeId} (h : Blk W g cs t) (i : Nat) : W.cell? ⟨g, i, none⟩ = cs[i]? := blk_cell h i
theorem Blk.frozen {W : World} {g : Nat} {cs : Array Value} {t : TypeId} (h : Blk W g cs t) (i : Nat) : W.frozen? ⟨g, i, none⟩ = false := blk_frozen h i
theorem Blk.c1 {W : World} {g : Nat} {a : Value} {t : TypeId} (h : Blk W g #[a] t) : W.cell? ⟨g, 0, none⟩ = some a := h.cell 0
theorem Blk.c2 {W : World} {g : Nat} {a b : Value} {t : TypeId} (h : Blk W g #[a, b] t) : W.cell? ⟨g, 0, none⟩ = some a ∧ W.cell? ⟨g, 1, none⟩ = some b := ⟨h.cell 0, h.cell 1⟩
theorem Blk.c3 {W : World} {g : Nat} {a b c : Value} {t : TypeId} (h : Blk W g #[a, b, c] t) : W.cell? ⟨g, 0, none⟩ = some a ∧ W.cell? ⟨g, 1, none⟩ = some b ∧ W.cell? ⟨g, 2, none⟩ = some c := ⟨h.cell 0, h.cell 1, h.cell 2⟩
theorem blk_new' (W : World) (cs : Array Value) (t : TypeId) : Blk (W.alloc (.cells cs t)) W.heap.size cs t := blk_new W _
theorem stay_new (W : World) (cs : Array Value) (t : TypeId) : Stay (fun V => Blk V W.heap.size cs t) (W.alloc (.cells cs t)) := stay_blk (blk_new W _)
theorem Stay.box {P : World → Prop} {W : World} (h : Stay P W) (cs : Array Value) (t : TypeId) : Stay (fun V => P V ∧ Blk V W.heap.size cs t) (W.alloc (.cells cs t)) := (h.alloc _).and (stay_new W cs t)
theorem stay_C {α : Type} {d : Kd α} {W : World} {A : Option Addr} {n : Nat} {l : List α} (h : d.C W A n l) : Stay (fun V => d.C V A n l) W := ⟨fun _ hV => Kd.C_below h hV⟩
end Go.Proofs.Ytkilmclncpmjnaa.St
