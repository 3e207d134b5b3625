/- What a law's arguments say when they are opened, and how long each of their rows may be: lemmas of this session, no statement of the set. -/
import Derived.Test.YtaeamdhkdiblmaaZDAOpen
namespace Go.Proofs.Ytaeamdhkdiblmaa.Open
open Go.ChangeShapes Go.WideShapes Go.ChangeAt Go.RowKit Go.Deep
open Go.Proofs.YtaeamdhkdiblmaaW.PrintWords Go.Proofs.YtaeamdhkdiblmaaW.PrintLast Go.Proofs.YtaeamdhkdiblmaaW.PrintMore
section
variable {H : Type} (enc : TypeId × Value → H) (P : Program)
/-- Nothing that is read weighs more than the machine's reach. -/
def Reach (t : TypeId) (d : DataW H) : Prop := ∀ n ∈ d.weights P t, n ≤ reachBytes
def OpensW {α : Type} (t : TypeId) (d : Kd α) (G : α → Prop) : Prop :=
  ∀ (w : World) (base : Nat) (spare : Nat → Bool) (held : Bool) (fuel : Nat) (cs : List Value) (x : DataW H × List MemPlace), DataW.trod enc P w base spare held fuel t cs = some x → Reach P t x.1 → ∃ a, d.K w a cs ∧ G a
variable {enc P}
theorem opensW_of {α : Type} {t : TypeId} {d : Kd α} {G : α → Prop} (h : Opens enc P t d G) : OpensW enc P t d G := fun w base spare held fuel cs x hx _ => h w base spare held fuel cs x hx
theorem opensW_string {t : TypeId} (ht : P.underlying t = some .string) : OpensW enc P t Kd.string (fun s => s.size ≤ reachBytes) := by
  intro w base spare held fuel cs x h hr
  obtain ⟨s, rfl, rfl, _⟩ := DataW.trod_string ht h
  exact ⟨s, rfl, hr s.data.toList.length (by simp [DataW.weights])⟩
theorem weights_all {e : TypeId} {d : DataW H} {n : Nat} (hn : n ∈ d.weights P e) : ∀ {l : List (DataW H)}, d ∈ l → n ∈ DataW.weightsAll P e l
  | x :: r, hd => by
    unfold DataW.weightsAll
    rw [List.mem_append]
    rcases List.mem_cons.1 hd with rfl | hd
    · exact .inl hn
    · exact .inr (weights_all hn hd)
theorem opensW_slice {α : Type} {t e B : TypeId} {d : Kd α} {G : α → Prop} (ht : P.underlying t = some (.slice e)) (hc : P.cellsOf e = d.sz) (hB : P.bytesOf e = B) (h1 : OpensW enc P e d G) :
    OpensW enc P t (Kd.slice e d) (fun l => l.length * B ≤ reachBytes ∧ ∀ a ∈ l, G a) := by
  intro w base spare held fuel cs x h hr
  rcases open_slice ht h with ⟨rfl, _⟩ | ⟨a, len, cap, m, n, D, Pl, rfl, _, hl, hm, hmm, hx, hi⟩
  · exact ⟨[], ⟨none, 0, rfl, Nat.le_refl _, Kd.C_nil _ _⟩, by simp, fun a h => by simp at h⟩
  · have hlm : len ≤ m := by rw [hmm]; split <;> omega
    have hreach : ∀ i, i < len → Reach P e (D i) := by
      intro i hil n hn
      refine hr n ?_
      rw [hx]
      simp only [DataW.weights, ht, List.mem_cons, List.mem_append]
      exact .inr (.inl (weights_all hn (List.mem_map.2 ⟨i, List.mem_range.2 hil, rfl⟩)))
    have hlen : len * B ≤ reachBytes := by
      refine Nat.le_trans ?_ (hr ((len + (m - len)) * P.bytesOf e) ?_)
      · rw [hB]; exact Nat.mul_le_mul_right _ (Nat.le_add_right _ _)
      · rw [hx]
        simp [DataW.weights, ht]
    obtain ⟨l, hll, hq⟩ := choose_list (fun i a_ => ∃ c, c.length = d.sz ∧ d.K w a_ c ∧ (∀ j u, c[j]? = some u → w.cell? (a.add (i * d.sz + j)) = some u) ∧ G a_) len (by
      intro i him
      obtain ⟨cs', hcell, htr⟩ := hi i (by omega)
      obtain ⟨y, hy, hg⟩ := h1 w base spare held n cs' _ htr (hreach i him)
      rw [hc] at hcell
      obtain ⟨_, hcl, hat⟩ := World.cells?_some hcell
      refine ⟨y, cs', hcl, hy, fun j u hu => ?_, hg⟩
      have hj : j < cs'.length := (List.getElem?_eq_some_iff.1 hu).1
      have h2 := hat j (by omega)
      rw [Go.Deep.add_add] at h2
      exact h2.trans hu)
    subst hll
    refine ⟨l, ⟨some a, cap, rfl, hl, rfl, by simp only [maxLen] at hm; omega, fun _ => ⟨a, rfl, fun j p hj => ?_⟩⟩, hlen, fun y hy => ?_⟩
    · obtain ⟨c, h3, h4, h5, _⟩ := hq j p hj
      exact ⟨c, h3, h4, h5⟩
    · obtain ⟨j, hj⟩ := List.getElem?_of_mem hy
      obtain ⟨_, _, _, _, h6⟩ := hq j y hj
      exact h6
/-- A slice by value, with its weight. -/
theorem open_rowW {α : Type} {t e : TypeId} {d : Kd α} {G : List α → Prop} (ho : OpensW enc P t (Kd.slice e d) G) {w : World} {base : Nat} {spare : Nat → Bool} {held : Bool} {fuel : Nat} {v : Value} {x : DataW H × List MemPlace} (h : DataW.trod enc P w base spare held fuel t [v] = some x) (hr : Reach P t x.1) :
    ∃ (l : List α) (A : Option Addr) (c : Nat), v = .slice A l.length c ∧ l.length ≤ c ∧ d.C w A l.length l ∧ G l := by
  obtain ⟨l, ⟨A, c, he, hc, hr⟩, hg⟩ := ho w base spare held fuel _ x h hr
  have hv : v = .slice A l.length c := by simpa using he
  exact ⟨l, A, c, hv, hc, hr, hg⟩
theorem reach_of {ts : List TypeId} {ds : List (DataW H)} (h : (DataW.weightsEach P ts ds).all (· ≤ reachBytes) = true) (j : Nat) (t : TypeId) (d : DataW H) (ht : ts[j]? = some t) (hd : ds[j]? = some d) : Reach P t d := fun n hn => by
  have := List.all_eq_true.1 h n (DataW.weights_mem_each ht hd n hn)
  simpa using this
end
end Go.Proofs.Ytaeamdhkdiblmaa.Open
