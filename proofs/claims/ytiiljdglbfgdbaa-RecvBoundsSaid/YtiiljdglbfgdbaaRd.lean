/- From a law's argument, as the row reads it, to the words of the print: a value of a kind, out of the reader's own reading. Any program, any world. -/
import Derived.Test.YtiiljdglbfgdbaaWWords
import Derived.Deep.Slices
import Derived.ChangeArms
namespace Go.Proofs.Ytiiljdglbfgdbaa.Rd
open Go Go.RowKit Go.Deep Go.ChangeShapes Go.Proofs.YtiiljdglbfgdbaaW.PrintWords

/-- Whatever reads at type t is a value of kind d, and a good one. -/
def Rd {α : Type} (d : Kd α) (P : Program) (t : TypeId) (good : α → Prop) : Prop :=
  ∀ {H : Type} (enc : TypeId × Value → H) (W : World) (base : Nat) (spare : Nat → Bool) (held : Bool) (fuel : Nat) (cs : List Value) (x : DataW H × List MemPlace),
    DataW.trod enc P W base spare held fuel t cs = some x → ∃ v : α, d.K W v cs ∧ good v
section
variable {P : Program} {t e : TypeId}
theorem rd_int {k : IntKind} (hu : P.underlying t = some (.int k)) : Rd (Kd.int k) P t (fun x => (Lit.int k x).wf = true) := by
  intro H enc W base spare held fuel cs x h
  obtain ⟨n, rfl, _, hw⟩ := DataW.trod_int hu h
  exact ⟨n, rfl, hw⟩
theorem rd_bool (hu : P.underlying t = some .bool) : Rd Kd.bool P t (fun _ => True) := by
  intro H enc W base spare held fuel cs x h
  obtain ⟨b, rfl, _⟩ := DataW.trod_bool hu h
  exact ⟨b, rfl, trivial⟩
theorem rd_string (hu : P.underlying t = some .string) : Rd Kd.string P t (fun s => s.size ≤ maxLen) := by
  intro H enc W base spare held fuel cs x h
  obtain ⟨s, rfl, _, hw⟩ := DataW.trod_string hu h
  exact ⟨s, rfl, hw⟩
theorem exists_list {α : Type} : ∀ (n : Nat) (Q : Nat → α → Prop), (∀ i, i < n → ∃ x, Q i x) → ∃ l : List α, l.length = n ∧ ∀ i x, l[i]? = some x → Q i x := by
  intro n
  induction n with
  | zero => intro Q _; exact ⟨[], rfl, fun i x h => by simp at h⟩
  | succ n ih =>
    intro Q h
    obtain ⟨l, hl, hq⟩ := ih Q (fun i hi => h i (by omega))
    obtain ⟨x, hx⟩ := h n (by omega)
    refine ⟨l ++ [x], by simp [hl], fun i y hy => ?_⟩
    rcases Nat.lt_or_ge i n with hi | hi
    · rw [List.getElem?_append_left (by omega)] at hy
      exact hq i y hy
    · rw [List.getElem?_append_right (by omega)] at hy
      have : i = n := by
        rcases Nat.eq_or_lt_of_le hi with h' | h'
        · exact h'.symm
        · rw [List.getElem?_eq_none (by simp; omega)] at hy; cases hy
      subst this
      rw [hl, Nat.sub_self] at hy
      simp at hy
      subst hy
      exact hx
theorem rd_slice {α : Type} {d : Kd α} {good : α → Prop} (e' : Nat) (hu : P.underlying t = some (.slice e)) (hc : P.cellsOf e = d.sz) (hd : Rd d P e good) : Rd (Kd.slice e' d) P t (fun xs => ∀ x ∈ xs, good x) := by
  intro H enc W base spare held fuel cs x h
  rcases open_slice hu h with ⟨rfl, _⟩ | ⟨a, len, cap, m, n, D, Pl, rfl, _, hl, hm, hmm, _, hi⟩
  · exact ⟨[], ⟨none, 0, rfl, Nat.le_refl _, rfl, by simp, fun h => absurd h (by simp)⟩, fun x hx => by cases hx⟩
  · have hlm : len ≤ m := by rw [hmm]; split <;> omega
    obtain ⟨l, hll, hq⟩ := exists_list len (fun i x => (∃ c, c.length = d.sz ∧ d.K W x c ∧ ∀ j u, c[j]? = some u → W.cell? (a.add (i * d.sz + j)) = some u) ∧ good x) (fun i hil => by
      obtain ⟨cs', h1, h2⟩ := hi i (by omega)
      obtain ⟨v, hv, hg⟩ := hd enc W base spare held n cs' _ h2
      rw [hc] at h1
      obtain ⟨_, hcl, hat⟩ := World.cells?_some h1
      refine ⟨v, ⟨cs', hcl, hv, fun j u hu => ?_⟩, hg⟩
      have hj : j < d.sz := by
        rw [← hcl]
        exact (List.getElem?_eq_some_iff.1 hu).1
      rw [← Go.Deep.add_add]
      exact (hat j hj).trans hu)
    refine ⟨l, ⟨some a, cap, by rw [hll], by omega, rfl, by unfold maxLen at hm; omega, fun _ => ⟨a, rfl, fun j p hp => (hq j p hp).1⟩⟩, fun x hx => ?_⟩
    obtain ⟨i, hi⟩ := List.mem_iff_getElem?.1 hx
    exact (hq i x hi).2
theorem pairK {α β : Type} {a : Kd α} {b : Kd β} {W : World} {x : α} {y : β} {cs : List Value} {o : Nat} (h0 : a.K W x ((cs.drop o).take a.sz)) (h1 : b.K W y (cs.drop (o + a.sz))) : (Kd.pair a b).K W (x, y) (cs.drop o) :=
  ⟨_, _, by rw [← List.drop_drop]; exact (List.take_append_drop _ _).symm, h0, h1⟩
theorem lastK {β : Type} {b : Kd β} {W : World} {y : β} {cs : List Value} {o : Nat} (hl : cs.length = o + b.sz) (h : b.K W y ((cs.drop o).take b.sz)) : b.K W y (cs.drop o) := by
  rwa [List.take_of_length_le (by rw [List.length_drop]; omega)] at h
end
end Go.Proofs.Ytiiljdglbfgdbaa.Rd
