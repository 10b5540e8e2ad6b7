/- A small logic of heaps: what is known of a world as a list of assertions, each about blocks of its own. Any program, any world. -/
import Derived.Test.YtiiljdglbfgdbaaLibs
import Derived.Test.YtiiljdglbfgdbaaWKept
import Derived.Test.YtiiljdglbfgdbaaWShare
import Derived.StillTailTactics
import Derived.Maps.RangeWalk
set_option linter.unusedVariables false
set_option linter.unusedSimpArgs false
namespace Go.Proofs.Ytiiljdglbfgdbaa.Sl
open Go Go.RowKit Go.Proofs.YtiiljdglbfgdbaaW.PrintWords Go.Proofs.Ytiiljdglbfgdbaa

/-- An assertion: what it says of a world, and of the blocks that are its own. -/
structure As where
  H : World → (Nat → Prop) → Prop
  lt : ∀ {W : World} {f}, H W f → H W (fun k => f k ∧ k < W.heap.size)
  loc : ∀ {W W' : World} {f}, H W f → (∀ k, f k → W'.heap[k]? = W.heap[k]?) → H W' f

def Sep (W : World) : List As → (Nat → Prop) → Prop
  | [], _ => True
  | A :: l, F => ∃ f, A.H W f ∧ (∀ k, f k → F k) ∧ Sep W l (fun k => F k ∧ ¬ f k)

theorem Sep.mono {W : World} : ∀ {l : List As} {F F' : Nat → Prop}, Sep W l F → (∀ k, F k → F' k) → Sep W l F'
  | [], _, _, _, _ => trivial
  | _ :: _, _, _, ⟨f, h1, h2, h3⟩, hF => ⟨f, h1, fun k hk => hF k (h2 k hk), h3.mono (fun k hk => ⟨hF k hk.1, hk.2⟩)⟩
theorem Sep.move {W W' : World} : ∀ {l : List As} {F : Nat → Prop}, Sep W l F → (∀ k, F k → W'.heap[k]? = W.heap[k]?) → Sep W' l F
  | [], _, _, _ => trivial
  | A :: _, _, ⟨f, h1, h2, h3⟩, hF => ⟨f, A.loc h1 (fun k hk => hF k (h2 k hk)), h2, h3.move (fun k hk => hF k hk.1)⟩
theorem Sep.swap {W : World} {A B : As} {l : List As} {F : Nat → Prop} (h : Sep W (A :: B :: l) F) : Sep W (B :: A :: l) F := by
  obtain ⟨f, h1, h2, g, h3, h4, h5⟩ := h
  exact ⟨g, h3, fun k hk => (h4 k hk).1, f, h1, fun k hk => ⟨h2 k hk, fun hg => (h4 k hg).2 hk⟩, h5.mono (fun k hk => ⟨⟨hk.1.1, hk.2⟩, hk.1.2⟩)⟩
theorem Sep.perm {W : World} {l l' : List As} (hp : l.Perm l') : ∀ {F : Nat → Prop}, Sep W l F → Sep W l' F := by
  induction hp with
  | nil => exact fun h => h
  | cons A _ ih => rintro F ⟨f, h1, h2, h3⟩; exact ⟨f, h1, h2, ih h3⟩
  | swap A B l => exact fun h => Sep.swap h
  | trans _ _ ih1 ih2 => exact fun h => ih2 (ih1 h)
theorem Sep.append {W : World} : ∀ {l m : List As} {F : Nat → Prop}, Sep W (l ++ m) F → ∃ f, Sep W l f ∧ (∀ k, f k → F k) ∧ Sep W m (fun k => F k ∧ ¬ f k)
  | [], m, F, h => ⟨fun _ => False, trivial, fun _ hk => hk.elim, h.mono (fun _ hk => ⟨hk, fun e => e⟩)⟩
  | A :: l, m, F, ⟨f, h1, h2, h3⟩ => by
    obtain ⟨g, h4, h5, h6⟩ := Sep.append h3
    exact ⟨fun k => f k ∨ g k, ⟨f, h1, fun k hk => .inl hk, h4.mono (fun k hk => ⟨.inr hk, (h5 k hk).2⟩)⟩, fun k hk => hk.elim (h2 k) (fun h => (h5 k h).1),
      h6.mono (fun k hk => ⟨hk.1.1, fun h => h.elim hk.1.2 hk.2⟩)⟩
theorem Sep.join {W : World} : ∀ {l m : List As} {f F : Nat → Prop}, Sep W l f → (∀ k, f k → F k) → Sep W m (fun k => F k ∧ ¬ f k) → Sep W (l ++ m) F
  | [], m, f, F, _, _, h => h.mono (fun _ hk => hk.1)
  | A :: l, m, f, F, ⟨g, h1, h2, h3⟩, h4, h5 => ⟨g, h1, fun k hk => h4 k (h2 k hk), Sep.join h3 (fun k hk => ⟨h4 k hk.1, hk.2⟩) (h5.mono (fun k hk => ⟨⟨hk.1, fun h => hk.2 (h2 k h)⟩, fun h => hk.2 h.1⟩))⟩
theorem Sep.bound {W : World} : ∀ {l : List As} {F : Nat → Prop}, Sep W l F → Sep W l (fun k => F k ∧ k < W.heap.size)
  | [], _, _ => trivial
  | A :: _, _, ⟨f, h1, h2, h3⟩ => ⟨fun k => f k ∧ k < W.heap.size, A.lt h1, fun k hk => ⟨h2 k hk.1, hk.2⟩, h3.bound.mono (fun k hk => ⟨⟨hk.1.1, hk.2⟩, fun h => hk.1.2 h.1⟩)⟩

/-- What is known: the elder world stays as it was; what was made since is told piece by piece. -/
def SL (w0 W : World) (l : List As) : Prop := Below w0.heap.size w0 W ∧ Sep W l (fun k => w0.heap.size ≤ k)

namespace SL
variable {w0 W W' : World} {l m : List As} {A B : As}
theorem start (w : World) : SL w w [] := ⟨Below.refl _ _, trivial⟩
theorem perm (h : SL w0 W l) (hp : l.Perm m) : SL w0 W m := ⟨h.1, h.2.perm hp⟩
theorem tail (h : SL w0 W (A :: l)) : SL w0 W l := by
  obtain ⟨h0, f, h1, h2, h3⟩ := h
  exact ⟨h0, h3.mono (fun _ hk => hk.1)⟩
theorem head (h : SL w0 W (A :: l)) : ∃ f, A.H W f ∧ (∀ k, f k → w0.heap.size ≤ k) := by
  obtain ⟨h0, f, h1, h2, h3⟩ := h
  exact ⟨f, h1, h2⟩
theorem swap (h : SL w0 W (A :: B :: l)) : SL w0 W (B :: A :: l) := ⟨h.1, h.2.swap⟩
theorem pull2 {C : As} (h : SL w0 W (A :: B :: C :: l)) : SL w0 W (C :: A :: B :: l) := ⟨h.1, h.2.perm (by exact (List.perm_middle (l₁ := [A, B]) (a := C) (l₂ := l)))⟩
theorem pull3 {C D : As} (h : SL w0 W (A :: B :: C :: D :: l)) : SL w0 W (D :: A :: B :: C :: l) := ⟨h.1, h.2.perm (by exact (List.perm_middle (l₁ := [A, B, C]) (a := D) (l₂ := l)))⟩
theorem pull4 {C D E : As} (h : SL w0 W (A :: B :: C :: D :: E :: l)) : SL w0 W (E :: A :: B :: C :: D :: l) := ⟨h.1, h.2.perm (by exact (List.perm_middle (l₁ := [A, B, C, D]) (a := E) (l₂ := l)))⟩
/-- The head goes behind the first n others. -/
theorem sink {p q : List As} (h : SL w0 W (A :: (p ++ q))) : SL w0 W (p ++ A :: q) := h.perm (List.perm_middle.symm)
theorem lift {p q : List As} (h : SL w0 W (p ++ A :: q)) : SL w0 W (A :: (p ++ q)) := h.perm List.perm_middle
/-- Nothing that was there has changed. -/
theorem below (h : SL w0 W l) (hb : Below W.heap.size W W') : SL w0 W' l :=
  ⟨below_then h.1 h.1.size hb, (h.2.bound.move (fun k hk => hb.block k hk.2)).mono (fun _ hk => hk.1)⟩
theorem drewN (h : SL w0 W l) (n : Nat) : SL w0 (W.drewN n) l := h.below (pw_below_drewN (Below.refl _ _) n)
theorem drew (h : SL w0 W l) : SL w0 W.drew l := h.below (below_drew1 (Below.refl _ _))
theorem alloc (h : SL w0 W l) (o : Obj) : SL w0 (W.alloc o) l := h.below (below_alloc (Below.refl _ _) o)
/-- What the head speaks of has changed, nothing else. -/
theorem change (h : SL w0 W (A :: l)) (ho : W'.os = W.os) (ht : W'.tape = W.tape) (hu : W'.output = W.output) (hs : W.heap.size ≤ W'.heap.size)
    (hc : ∀ f, A.H W f → (∀ k, f k → w0.heap.size ≤ k) → (∀ k, k < W.heap.size → ¬ f k → W'.heap[k]? = W.heap[k]?) ∧ ∃ f', B.H W' f' ∧ ∀ k, f' k → f k ∨ W.heap.size ≤ k) : SL w0 W' (B :: l) := by
  obtain ⟨h0, f, h1, h2, h3⟩ := h
  obtain ⟨c1, f', c2, c3⟩ := hc f h1 h2
  have h3' := h3.bound
  refine ⟨⟨ho.trans h0.os, ht.trans h0.tape, hu.trans h0.output, Nat.le_trans h0.size hs, fun k hk => ?_⟩, f', c2, fun k hk => ?_, (h3'.move (fun k hk => c1 k hk.2 hk.1.2)).mono (fun k hk => ⟨hk.1.1, fun hf => ?_⟩)⟩
  · exact (c1 k (Nat.lt_of_lt_of_le hk h0.size) (fun hf => by have := h2 k hf; omega)).trans (h0.block k hk)
  · rcases c3 k hk with hk | hk
    · exact h2 k hk
    · exact Nat.le_trans h0.size hk
  · rcases c3 k hf with h | h
    · exact hk.1.2 h
    · exact absurd hk.2 (by omega)
/-- A new thing. -/
theorem add (h : SL w0 W l) (hb : Below W.heap.size W W') {f : Nat → Prop} (hB : B.H W' f) (hf : ∀ k, f k → W.heap.size ≤ k) : SL w0 W' (B :: l) := by
  have h' := h.2.bound
  refine ⟨below_then h.1 h.1.size hb, f, hB, fun k hk => Nat.le_trans h.1.size (hf k hk), (h'.move (fun k hk => hb.block k hk.2)).mono (fun k hk => ⟨hk.1, fun hfk => ?_⟩)⟩
  have := hf k hfk
  omega
/-- Another word for the head. -/
theorem imp (h : SL w0 W (A :: l)) (hi : ∀ f, A.H W f → B.H W f) : SL w0 W (B :: l) := by
  obtain ⟨h0, f, h1, h2, h3⟩ := h
  exact ⟨h0, f, hi f h1, h2, h3⟩
end SL

/-! ### Assertions -/
/-- A block of cells. -/
def Blk (b : Nat) (cs : Array Value) (t : TypeId) : As where
  H W f := f b ∧ W.heap[b]? = some (.cells cs t (0, 0))
  lt h := ⟨⟨h.1, blk_lt h.2⟩, h.2⟩
  loc h hm := ⟨h.1, (hm _ h.1).trans h.2⟩
/-- A map keyed by whole numbers. -/
def MapA (k : IntKind) (b : Nat) (m : List (Int × Value)) : As where
  H W f := f b ∧ Im.MapAt k W b m
  lt h := ⟨⟨h.1, h.2.lt⟩, h.2⟩
  loc h hm := ⟨h.1, h.2.move (hm _ h.1)⟩
/-- A row of elements; it may begin inside its block. -/
def Row {α : Type} (d : Kd α) (e : Nat) (v : Value) (xs : List α) : As where
  H W f := d.Q e W 0 f v xs
  lt h := Kd.Q_mono (Kd.Q_bound h) (fun _ hk => ⟨hk.1, hk.2.2.1⟩)
  loc h hm := Kd.Q_move h hm
/-- What is only read: it stays true whatever becomes of other blocks. -/
def Imm (Φ : World → Prop) : As where
  H W f := ∀ W' : World, (∀ k, f k → k < W.heap.size → W'.heap[k]? = W.heap[k]?) → Φ W'
  lt h := fun W' hm => h W' (fun k hk hlt => hm k ⟨hk, hlt⟩ hlt)
  loc {W W' f} h hm := fun W2 hm2 => h W2 (fun k hk hlt => (hm2 k hk (by
    have e := hm k hk
    have h1 : k < W.heap.size := hlt
    rw [Array.getElem?_eq_getElem h1] at e
    exact (Array.getElem?_eq_some_iff.1 e).1)).trans (hm k hk))
/-- Several, told as one. -/
def All (l : List As) : As where
  H W f := Sep W l f
  lt h := h.bound
  loc h hm := h.move hm
def Ex {α : Type} (P : α → As) : As where
  H W f := ∃ x, (P x).H W f
  lt := fun ⟨x, h⟩ => ⟨x, (P x).lt h⟩
  loc := fun ⟨x, h⟩ hm => ⟨x, (P x).loc h hm⟩
def Pure (p : Prop) : As where
  H _ _ := p
  lt h := h
  loc h _ := h

namespace SL
variable {w0 W W' : World} {l m : List As} {A B : As}
theorem open_all (h : SL w0 W (All l :: m)) : SL w0 W (l ++ m) := by
  obtain ⟨h0, f, h1, h2, h3⟩ := h
  exact ⟨h0, Sep.join h1 h2 h3⟩
theorem shut_all (h : SL w0 W (l ++ m)) : SL w0 W (All l :: m) := by
  obtain ⟨f, h1, h2, h3⟩ := Sep.append h.2
  exact ⟨h.1, f, h1, h2, h3⟩
theorem open_ex {α : Type} {P : α → As} (h : SL w0 W (Ex P :: l)) : ∃ x, SL w0 W (P x :: l) := by
  obtain ⟨h0, f, ⟨x, h1⟩, h2, h3⟩ := h
  exact ⟨x, h0, f, h1, h2, h3⟩
theorem shut_ex {α : Type} {P : α → As} (x : α) (h : SL w0 W (P x :: l)) : SL w0 W (Ex P :: l) := h.imp (fun _ hf => ⟨x, hf⟩)
theorem pure {p : Prop} (h : SL w0 W (Pure p :: l)) : p := by
  obtain ⟨h0, f, h1, h2, h3⟩ := h
  exact h1
theorem add_pure {p : Prop} (h : SL w0 W l) (hp : p) : SL w0 W (Pure p :: l) := ⟨h.1, fun _ => False, hp, fun _ hk => hk.elim, h.2.mono (fun _ hk => ⟨hk, fun e => e⟩)⟩
theorem blk {b : Nat} {cs : Array Value} {t : TypeId} (h : SL w0 W (Blk b cs t :: l)) : W.heap[b]? = some (.cells cs t (0, 0)) := by
  obtain ⟨f, h1, _⟩ := h.head
  exact h1.2
theorem blk_base {b : Nat} {cs : Array Value} {t : TypeId} (h : SL w0 W (Blk b cs t :: l)) : w0.heap.size ≤ b := by
  obtain ⟨f, h1, h2⟩ := h.head
  exact h2 _ h1.1
theorem map {k : IntKind} {b : Nat} {M : List (Int × Value)} (h : SL w0 W (MapA k b M :: l)) : Im.MapAt k W b M := by
  obtain ⟨f, h1, _⟩ := h.head
  exact h1.2
theorem row {α : Type} {d : Kd α} {e : Nat} {v : Value} {xs : List α} (h : SL w0 W (Row d e v xs :: l)) : d.Q e W 0 (fun k => w0.heap.size ≤ k) v xs := by
  obtain ⟨f, h1, h2⟩ := h.head
  exact Kd.Q_mono h1 h2
theorem imm {Φ : World → Prop} (h : SL w0 W (Imm Φ :: l)) : Φ W := by
  obtain ⟨f, h1, _⟩ := h.head
  exact h1 W (fun _ _ _ => rfl)
theorem imm_mono {Φ Ψ : World → Prop} (h : SL w0 W (Imm Φ :: l)) (hi : ∀ W, Φ W → Ψ W) : SL w0 W (Imm Ψ :: l) := h.imp (fun _ hf W' hm => hi _ (hf W' hm))
theorem imm_join {Φ Ψ : World → Prop} (h : SL w0 W (Imm Φ :: Imm Ψ :: l)) : SL w0 W (Imm (fun W => Φ W ∧ Ψ W) :: l) := by
  obtain ⟨h0, f, h1, h2, g, h3, h4, h5⟩ := h
  exact ⟨h0, fun k => f k ∨ g k, fun W' hm => ⟨h1 W' (fun k hk => hm k (.inl hk)), h3 W' (fun k hk => hm k (.inr hk))⟩, fun k hk => hk.elim (h2 k) (fun h => (h4 k h).1), h5.mono (fun k hk => ⟨hk.1.1, fun h => h.elim hk.1.2 hk.2⟩)⟩
theorem row_imm {α : Type} {d : Kd α} {e : Nat} {v : Value} {xs : List α} (h : SL w0 W (Row d e v xs :: l)) : SL w0 W (Imm (fun W => ∃ A c, v = .slice A xs.length c ∧ xs.length ≤ c ∧ d.C W A xs.length xs) :: l) :=
  h.imp (fun f hf W' hm => Kd.Q_reads (Kd.Q_step hf hm))
/-- A new block. -/
theorem new (h : SL w0 W l) (cs : Array Value) (t : TypeId) : SL w0 (W.alloc (.cells cs t (0, 0))) (Blk W.heap.size cs t :: l) :=
  h.add (below_alloc (Below.refl _ _) _) (f := fun k => k = W.heap.size) ⟨rfl, blk_new _ _⟩ (fun k hk => by omega)
theorem newMap (h : SL w0 W l) (k : IntKind) : SL w0 (W.alloc (.map #[] 0)) (MapA k W.heap.size [] :: l) :=
  h.add (below_alloc (Below.refl _ _) _) (f := fun k => k = W.heap.size) ⟨rfl, Im.MapAt.new _ _⟩ (fun k hk => by omega)
/-- A row that a call has made. -/
theorem addRow {α : Type} {d : Kd α} {e : Nat} {ok : Nat → Prop} {v : Value} {xs : List α} (h : SL w0 W l) (hb : Below W.heap.size W W') (hr : d.R e W' W.heap.size ok v xs) : SL w0 W' (Row d e v xs :: l) :=
  h.add hb (f := fun k => W.heap.size ≤ k) (Kd.Q_mono (Kd.Q_lower (Kd.Q_bound (Kd.Q_of_R hr)) (Nat.zero_le _)) (fun _ hk => hk.2.1)) (fun _ hk => hk)
theorem addNil {α : Type} (d : Kd α) (e : Nat) (h : SL w0 W l) : SL w0 W (Row d e (.slice none 0 0) [] :: l) :=
  ⟨h.1, fun _ => False, Kd.Q_nil _ _ _ _ _, fun _ hk => hk.elim, h.2.mono (fun _ hk => ⟨hk, fun e => e⟩)⟩
/-- A store into a block. -/
theorem set {b : Nat} {cs cs' : Array Value} {t : TypeId} (h : SL w0 W (Blk b cs t :: l)) (i : Nat) (u : Value) (e : cs.setIfInBounds i u = cs') : SL w0 (W.setCell ⟨b, i, none⟩ u) (Blk b cs' t :: l) :=
  h.change rfl rfl rfl (by simp [World.setCell]) (fun f h1 _ => ⟨fun k _ hk => Below.heap_setCell _ _ _ _ (by rintro rfl; exact hk h1.1), f, ⟨h1.1, blk_put h1.2 i u e⟩, fun _ hk => .inl hk⟩)
/-- A change of a map. -/
theorem setMap {k : IntKind} {b : Nat} {M M' : List (Int × Value)} (h : SL w0 W (MapA k b M :: l)) (h' : Im.MapAt k W' b M') (hg : W.grownBy W' (some b)) : SL w0 W' (MapA k b M' :: l) :=
  h.change hg.os hg.tape hg.output hg.size (fun f h1 _ => ⟨fun i hi hk => hg.block i hi (by rintro ⟨⟩; exact hk h1.1), f, ⟨h1.1, h'⟩, fun _ hk => .inl hk⟩)
end SL
theorem Sep.mem {W : World} {A : As} : ∀ {l : List As} {F : Nat → Prop}, Sep W l F → A ∈ l → ∃ f, A.H W f ∧ ∀ k, f k → F k
  | _ :: _, _, ⟨f, h1, h2, _⟩, .head _ => ⟨f, h1, h2⟩
  | _ :: _, _, ⟨_, _, _, h3⟩, .tail _ hm => by
    obtain ⟨g, h4, h5⟩ := h3.mem hm
    exact ⟨g, h4, fun k hk => (h5 k hk).1⟩
namespace SL
variable {w0 W W' : World} {l m : List As} {A B : As}
theorem mem (h : SL w0 W l) (hm : A ∈ l) : ∃ f, A.H W f ∧ ∀ k, f k → w0.heap.size ≤ k := h.2.mem hm
theorem form {α : Type} {d : Kd α} {e : Nat} {v : Value} {xs : List α} (h : SL w0 W l) (hm : Row d e v xs ∈ l) : ∃ A c, v = .slice A xs.length c ∧ xs.length ≤ c := by
  obtain ⟨f, h1, _⟩ := h.mem hm
  exact Kd.Q_slice h1
theorem reads {α : Type} {d : Kd α} {e : Nat} {xs : List α} {A : Option Addr} {n c : Nat} (h : SL w0 W l) (hm : Row d e (.slice A n c) xs ∈ l) : d.C W A xs.length xs := by
  obtain ⟨f, h1, _⟩ := h.mem hm
  exact (Kd.Q_reads' h1).2.2
theorem reads_take {α : Type} {d : Kd α} {e : Nat} {xs : List α} {A : Option Addr} {n c m : Nat} (h : SL w0 W l) (hm : Row d e (.slice A n c) xs ∈ l) (hk : m ≤ xs.length) : d.C W A (xs.take m).length (xs.take m) := by
  obtain ⟨f, h1, _⟩ := h.mem hm
  exact (Kd.Q_reads' (Kd.Q_take h1 hk)).2.2
theorem reads_drop {α : Type} {d : Kd α} {e : Nat} {xs : List α} {A : Option Addr} {n c m : Nat} (h : SL w0 W l) (hm : Row d e (.slice A n c) xs ∈ l) (hk : m ≤ xs.length) : d.C W (if c = m then A else A.map (·.add (m * d.sz))) (xs.drop m).length (xs.drop m) := by
  obtain ⟨f, h1, _⟩ := h.mem hm
  exact (Kd.Q_reads' (Kd.Q_drop h1 hk)).2.2
/-- 'xs[k:]'. -/
theorem row_drop {α : Type} {d : Kd α} {e : Nat} {xs : List α} {A : Option Addr} {n c m : Nat} (h : SL w0 W (Row d e (.slice A n c) xs :: l)) (hk : m ≤ xs.length) : SL w0 W (Row d e (.slice (if c = m then A else A.map (·.add (m * d.sz))) (n - m) (c - m)) (xs.drop m) :: l) :=
  h.imp (fun _ hf => Kd.Q_drop hf hk)
theorem row_take {α : Type} {d : Kd α} {e : Nat} {xs : List α} {A : Option Addr} {n c m : Nat} (h : SL w0 W (Row d e (.slice A n c) xs :: l)) (hk : m ≤ xs.length) : SL w0 W (Row d e (.slice A m c) (xs.take m) :: l) :=
  h.imp (fun _ hf => Kd.Q_take hf hk)
theorem cap {α : Type} {d : Kd α} {e : Nat} {xs : List α} {A : Option Addr} {n c : Nat} (h : SL w0 W l) (hm : Row d e (.slice A n c) xs ∈ l) : n ≤ c := by
  obtain ⟨f, h1, _⟩ := h.mem hm
  exact (Kd.Q_reads' h1).2.1
theorem most {α : Type} {d : Kd α} {e : Nat} {xs : List α} {A : Option Addr} {n c : Nat} (h : SL w0 W l) (hm : Row d e (.slice A n c) xs ∈ l) : xs.length ≤ 9223372036854775807 := (h.reads hm).2.1
theorem know {Φ : World → Prop} (h : SL w0 W l) (hm : Imm Φ ∈ l) : Φ W := by
  obtain ⟨f, h1, _⟩ := h.mem hm
  exact h1 W (fun _ _ _ => rfl)
theorem block {b : Nat} {cs : Array Value} {t : TypeId} (h : SL w0 W l) (hm : Blk b cs t ∈ l) : W.heap[b]? = some (.cells cs t (0, 0)) ∧ w0.heap.size ≤ b := by
  obtain ⟨f, h1, h2⟩ := h.mem hm
  exact ⟨h1.2, h2 _ h1.1⟩
theorem cell {b : Nat} {cs : Array Value} {t : TypeId} (h : SL w0 W l) (hm : Blk b cs t ∈ l) (i : Nat) {v : Value} (hv : cs[i]? = some v) : W.cell? ⟨b, i, none⟩ = some v ∧ W.frozen? ⟨b, i, none⟩ = false :=
  ⟨(blk_cell (h.block hm).1 i).trans hv, blk_frozen (h.block hm).1 i⟩
theorem mapAt {k : IntKind} {b : Nat} {M : List (Int × Value)} (h : SL w0 W l) (hm : MapA k b M ∈ l) : Im.MapAt k W b M := by
  obtain ⟨f, h1, _⟩ := h.mem hm
  exact h1.2
theorem truth {p : Prop} (h : SL w0 W l) (hm : Pure p ∈ l) : p := by
  obtain ⟨f, h1, _⟩ := h.mem hm
  exact h1
/-- A call that reads what is only read, and hands back what may be the same. -/
theorem imm_call {Φ : World → Prop} (h : SL w0 W (Imm Φ :: l)) : ∃ f, Foot Φ W f ∧ ∀ (W' : World) (Ψ : World → Prop), Below W.heap.size W W' → Foot Ψ W' (fun k => f k ∨ W.heap.size ≤ k) → SL w0 W' (Imm (fun W => Φ W ∧ Ψ W) :: l) := by
  obtain ⟨h0, f, h1, h2, h3⟩ := h
  refine ⟨f, h1, fun W' Ψ hb hp => ?_⟩
  have h3' := h3.bound
  refine ⟨below_then h0 h0.size hb, fun k => f k ∨ W.heap.size ≤ k, fun W2 hm => ⟨h1 W2 (fun k hk hlt => ?_), hp W2 hm⟩, fun k hk => hk.elim (h2 k) (fun h => Nat.le_trans h0.size h), (h3'.move (fun k hk => hb.block k hk.2)).mono (fun k hk => ⟨hk.1.1, fun h => h.elim hk.1.2 (fun h => by have := hk.2; omega)⟩)⟩
  exact (hm k (.inl hk) (Nat.lt_of_lt_of_le hlt hb.size)).trans (hb.block k hlt)
end SL
namespace SL
variable {w0 W W' : World} {l m : List As} {A B : As}
/-- Two rows of different types that one call has made. -/
theorem addRow2 {α β : Type} {d : Kd α} {d' : Kd β} {e e' : Nat} {ok ok' : Nat → Prop} {v v' : Value} {xs : List α} {ys : List β} (h : SL w0 W l) (hb : Below W.heap.size W W') (hr : d.R e W' W.heap.size ok v xs) (hr' : d'.R e' W' W.heap.size ok' v' ys)
    (hne : ∀ q ∈ e :: d.E, q ∉ e' :: d'.E) : SL w0 W' (Row d e v xs :: Row d' e' v' ys :: l) := by
  obtain ⟨h1, f, h2, h3, h4⟩ := h.addRow hb hr'
  have q1 := Kd.Q_bound (Kd.Q_of_R hr)
  have q2 := Kd.Q_bound (Kd.Q_of_R hr')
  have hl := h.2.bound
  refine ⟨h1, _, Kd.Q_lower q1 (Nat.zero_le _), fun k hk => Nat.le_trans h.1.size hk.2.1, _, Kd.Q_lower q2 (Nat.zero_le _), fun k hk => ⟨Nat.le_trans h.1.size hk.2.1, ?_⟩, (hl.move (fun k hk => hb.block k hk.2)).mono (fun k hk => ⟨⟨hk.1, fun h => ?_⟩, fun h => ?_⟩)⟩
  · rintro ⟨_, _, _, q, hq, cs, hc⟩
    obtain ⟨_, _, _, q', hq', cs', hc'⟩ := hk
    rw [hc] at hc'
    injection hc' with hc'
    injection hc' with _ hc'
    subst hc'
    exact hne q hq hq'
  · have := h.2.1; have := hk.2; omega
  · have := h.2.1; have := hk.2; omega
end SL
namespace SL
variable {w0 W W' : World} {l m : List As} {A B : As}
/-- A row written out. -/
theorem lit {α : Type} {d : Kd α} {e : Nat} {xs : List α} {cs : List Value} (h : SL w0 W l) (hr : ∀ W base ok, Reps (d.M W base ok) d.sz xs cs) (hl : xs.length ≤ 9223372036854775807) :
    SL w0 (W.alloc (.cells cs.toArray e)) (Row d e (.slice (some ⟨W.heap.size, 0, none⟩) xs.length xs.length) xs :: l) :=
  h.addRow (below_alloc (Below.refl _ _) _) (ok := fun _ => True) ⟨fun _ _ => trivial, OwnRow.lit W W.heap.size (hr _ _ _) (Nat.le_refl _) hl⟩
theorem lit1 {α : Type} {d : Kd α} {e : Nat} {p : α} {cs : List Value} (h : SL w0 W l) (hp : ∀ W base ok, d.M W base ok p cs) :
    SL w0 (W.alloc (.cells cs.toArray e)) (Row d e (.slice (some ⟨W.heap.size, 0, none⟩) 1 1) [p] :: l) :=
  h.lit (xs := [p]) (fun W base ok => (Reps.none _ _).snoc (hp W base ok) (d.K_len (d.K_of_M (hp W base ok)))) (by simp)
end SL
theorem Sep.sub {W : World} {l m : List As} (hm : m.Sublist l) : ∀ {F : Nat → Prop}, Sep W l F → Sep W m F := by
  induction hm with
  | slnil => exact fun h => h
  | cons A _ ih => rintro F ⟨f, _, _, h3⟩; exact ih (h3.mono (fun _ hk => hk.1))
  | cons_cons A _ ih => rintro F ⟨f, h1, h2, h3⟩; exact ⟨f, h1, h2, ih h3⟩
theorem SL.sub {w0 W : World} {l m : List As} (h : SL w0 W l) (hm : m.Sublist l) : SL w0 W m := ⟨h.1, h.2.sub hm⟩
/-- Some go to the front, one by one. -/
def pk : List As → List Nat → List As
  | l, [] => l
  | l, i :: is => match l[i]? with
    | some A => A :: pk (l.eraseIdx i) is
    | none => pk l is
theorem perm_erase : ∀ (l : List As) (i : Nat) (A : As), l[i]? = some A → l.Perm (A :: l.eraseIdx i)
  | [], _, _, h => by simp at h
  | B :: l, 0, A, h => by
    simp only [List.getElem?_cons_zero, Option.some.injEq] at h
    subst h
    exact List.Perm.refl _
  | B :: l, i + 1, A, h => ((perm_erase l i A (by simpa using h)).cons B).trans (List.Perm.swap A B _)
theorem pk_perm : ∀ (is : List Nat) (l : List As), l.Perm (pk l is)
  | [], l => List.Perm.refl _
  | i :: is, l => by
    unfold pk
    cases h : l[i]? with
    | none => exact pk_perm is l
    | some A => exact (perm_erase l i A h).trans ((pk_perm is _).cons A)
theorem SL.pk {w0 W : World} {l : List As} (is : List Nat) (h : SL w0 W l) : SL w0 W (pk l is) := h.perm (pk_perm is l)
/-! ### A loop over a map -/
theorem inj_of_nodup {α β : Type} (f : α → β) : ∀ (l : List α), (l.map f).Nodup → ∀ {x y : α}, x ∈ l → y ∈ l → f x = f y → x = y
  | [], _, _, _, hx, _, _ => by cases hx
  | a :: l, h, x, y, hx, hy, e => by
    rw [List.map_cons, List.nodup_cons] at h
    rcases List.mem_cons.1 hx with h1 | h1 <;> rcases List.mem_cons.1 hy with h2 | h2
    · rw [h1, h2]
    · exact absurd (List.mem_map.2 ⟨y, h2, by rw [← e, h1]⟩) h.1
    · exact absurd (List.mem_map.2 ⟨x, h1, by rw [e, h2]⟩) h.1
    · exact inj_of_nodup f l h.2 h1 h2 e
theorem filter_along {α β γ : Type} (f : α → γ) (g : β → γ) (p : α → Bool) (q : β → Bool) : ∀ (l : List α) (m : List β), l.map f = m.map g → (∀ x ∈ l, ∀ y, f x = g y → p x = q y) → (l.filter p).map f = (m.filter q).map g
  | [], [], _, _ => rfl
  | [], _ :: _, h, _ => by simp at h
  | _ :: _, [], h, _ => by simp at h
  | x :: l, y :: m, h, hp => by
    simp only [List.map_cons, List.cons.injEq] at h
    have e := hp x List.mem_cons_self y h.1
    have ih := filter_along f g p q l m h.2 (fun x hx => hp x (List.mem_cons_of_mem _ hx))
    rw [List.filter_cons, List.filter_cons, e]
    split
    · rw [List.map_cons, List.map_cons, h.1, ih]
    · exact ih
/-- What has been handed out of the map is not in 'left'. -/
def RangeAt (k : IntKind) (W : World) (b r : Nat) (M left : List (Int × Value)) : Prop :=
  r ≠ b ∧ Im.MapAt k W b M ∧ ∃ es clock since seen c0, W.heap[b]? = some (.map es clock) ∧ W.heap[r]? = some (.mapIter (some b) since seen c0) ∧ (∀ x ∈ es.toList, x.born < since) ∧ since ≤ c0 ∧ since ≤ clock ∧
    (leftOf es seen).toList.map (fun e => (e.key, e.val)) = left.map fun p => (Value.int k p.1, p.2)
theorem RangeAt.move {k : IntKind} {W W' : World} {b r : Nat} {M left : List (Int × Value)} (h : RangeAt k W b r M left) (hb : W'.heap[b]? = W.heap[b]?) (hr : W'.heap[r]? = W.heap[r]?) : RangeAt k W' b r M left := by
  obtain ⟨h1, h2, es, c, s, n, c0, h3, h4, h5⟩ := h
  exact ⟨h1, h2.move hb, es, c, s, n, c0, hb.trans h3, hr.trans h4, h5⟩
theorem RangeAt.lt {k : IntKind} {W : World} {b r : Nat} {M left : List (Int × Value)} (h : RangeAt k W b r M left) : r < W.heap.size := by
  obtain ⟨h1, h2, es, c, s, n, c0, h3, h4, h5⟩ := h
  exact (Array.getElem?_eq_some_iff.1 h4).1
def RangeA (k : IntKind) (b r : Nat) (M left : List (Int × Value)) : As where
  H W f := f b ∧ f r ∧ RangeAt k W b r M left
  lt h := ⟨⟨h.1, h.2.2.2.1.lt⟩, ⟨h.2.1, h.2.2.lt⟩, h.2.2⟩
  loc h hm := ⟨h.1, h.2.1, h.2.2.move (hm _ h.1) (hm _ h.2.1)⟩
theorem SL.range_end {w0 W : World} {l : List As} {k : IntKind} {b r : Nat} {M left : List (Int × Value)} (h : SL w0 W (RangeA k b r M left :: l)) : SL w0 W (MapA k b M :: l) := h.imp (fun _ hf => ⟨hf.1, hf.2.2.2.1⟩)
/-- The step. -/
theorem RangeAt.next {P : Program} {k : IntKind} {W : World} {b r : Nat} {M left : List (Int × Value)} (h : RangeAt k W b r M left) (ty : TypeId) :
    (left = [] ∧ (Instr.next (.pointer (some ⟨r, 0, none⟩)) false ty).run P W = .ok (.tuple #[.bool false]) W) ∨
    ∃ p ∈ left, ∃ w', (Instr.next (.pointer (some ⟨r, 0, none⟩)) false ty).run P W = .ok (.tuple #[.bool true, .int k p.1, p.2]) w' ∧ RangeAt k w' b r M (left.filter fun q => !(q.1 == p.1)) ∧ W.grownBy w' (some r) ∧
      (Instr.entry (.pointer (some ⟨r, 0, none⟩))).run P w' = .ok (.tuple #[.int k p.1, p.2]) w' := by
  obtain ⟨hne, hM, es, clock, since, seen, c0, hb, hr, hold, hsc, hsk, hleft⟩ := h
  have hM' := hM
  obtain ⟨hn, hwf, es', clock', hb', hes, hborn, hnb⟩ := hM'
  rw [hb] at hb'
  injection hb' with hb'
  injection hb' with e1 e2
  subst e1
  subst e2
  rcases run_next_at (P := P) W ty r b since c0 seen es clock hr hb hold hsc with ⟨h0, hrun⟩ | ⟨e, he, w1, hal, hrun⟩
  · refine .inl ⟨?_, hrun⟩
    have h2 : ((leftOf es seen).toList.map fun e => (e.key, e.val)).length = left.length := by rw [hleft, List.length_map]
    rw [List.length_map, Array.length_toList, h0] at h2
    exact List.eq_nil_of_length_eq_zero h2.symm
  · have hmem : ∀ x, x ∈ (leftOf es seen).toList → x ∈ es.toList := fun x hx => by
      unfold leftOf at hx
      rw [Array.toList_filter] at hx
      exact (List.mem_filter.1 hx).1
    have hem := hmem e he
    obtain ⟨j, hj⟩ := List.mem_iff_getElem?.1 he
    have h2 := congrArg (fun l => l[j]?) hleft
    simp only [List.getElem?_map, hj, Option.map_some] at h2
    obtain ⟨p, hp, hpe⟩ := Option.map_eq_some_iff.1 h2.symm
    simp only [Prod.mk.injEq] at hpe
    have hpm : p ∈ left := List.mem_of_getElem? hp
    have hkeys : (es.toList.map (·.key)).Nodup := by
      have e3 : es.toList.map (·.key) = (M.map (·.1)).map (Value.int k) := by
        have := congrArg (List.map Prod.fst) hes
        simpa [List.map_map, Function.comp_def] using this
      rw [e3]
      refine List.Pairwise.map _ (fun a c hac => ?_) hn
      intro h
      injection h with _ h
      exact hac h
    have hr1 : w1.heap[r]? = some (.mapIter (some b) since seen c0) := by rcases hal with rfl | rfl <;> exact hr
    have hb1 : w1.heap[b]? = some (.map es clock) := by rcases hal with rfl | rfl <;> exact hb
    have hrl := (Array.getElem?_eq_some_iff.1 hr1).1
    have hat : (Go.ChangeMaps.setBlock w1 r (.mapIter (some b) since (seen.push e.born) clock)).heap[r]? = some (.mapIter (some b) since (seen.push e.born) clock) := by
      show (w1.heap.setIfInBounds r _)[r]? = _
      rw [Array.getElem?_setIfInBounds, if_pos rfl, if_pos hrl]
    have hoth : ∀ i, i ≠ r → (Go.ChangeMaps.setBlock w1 r (.mapIter (some b) since (seen.push e.born) clock)).heap[i]? = w1.heap[i]? := fun i hi => by
      show (w1.heap.setIfInBounds r _)[i]? = _
      rw [Array.getElem?_setIfInBounds, if_neg (fun h => hi h.symm)]
    have hb2 := (hoth b (fun h => hne h.symm)).trans hb1
    have hwh : w1.heap = W.heap := by rcases hal with rfl | rfl <;> rfl
    rw [← hpe.1, ← hpe.2] at hrun
    refine .inr ⟨p, hpm, _, hrun, ⟨hne, hM.move ((hoth b (fun h => hne h.symm)).trans (by rw [hwh])), es, clock, since, seen.push e.born, clock, hb2, hat, hold, hsk, hsk, ?_⟩, ?_, ?_⟩
    · have e4 : (leftOf es (seen.push e.born)).toList = (leftOf es seen).toList.filter (fun x => !(x.born == e.born)) := by
        unfold leftOf
        rw [Array.toList_filter, Array.toList_filter, List.filter_filter]
        apply List.filter_congr
        intro x _
        rw [Array.contains_push]
        cases seen.contains x.born <;> cases (x.born == e.born) <;> rfl
      rw [e4]
      refine filter_along _ _ _ _ _ _ hleft (fun x hx y hy => ?_)
      simp only [Prod.mk.injEq] at hy
      have hxm := hmem x hx
      by_cases hxe : x.born = e.born
      · have := inj_of_nodup (·.born) es.toList hnb hxm hem hxe
        subst this
        have : Value.int k y.1 = Value.int k p.1 := hy.1.symm.trans hpe.1.symm
        injection this with _ this
        simp [this]
      · have : ¬ y.1 = p.1 := fun h => hxe (by
          have : x.key = e.key := by rw [hy.1, h, hpe.1]
          rw [inj_of_nodup (·.key) es.toList hkeys hxm hem this])
        have b1 : (x.born == e.born) = false := by simpa using hxe
        have b2 : (y.1 == p.1) = false := by simpa using this
        show (!(x.born == e.born)) = !(y.1 == p.1)
        rw [b1, b2]
    · refine ⟨?_, ?_, ?_, ?_, fun i _ hi => (hoth i (fun h => hi (by rw [h]))).trans (by rw [hwh])⟩
      · rcases hal with rfl | rfl <;> rfl
      · rcases hal with rfl | rfl <;> rfl
      · rcases hal with rfl | rfl <;> rfl
      · rcases hal with rfl | rfl <;> simp [Go.ChangeMaps.setBlock]
    · rw [hpe.1, hpe.2]
      exact run_entry_at _ r b since seen es clock e hat hb2 hem hnb
/-! ### Operations -/
section
variable {P : Program} {ops : Array Oper} {rest : List Oper} {o : Oper} {a : Act} {Q : Exit → Act → World → Prop} {w0 W : World} {l : List As}
/-- What an append has made. -/
theorem SL.row_grown {α : Type} {d : Kd α} {e : Nat} {v v1 : Value} {ys : List α} {w1 : World} {f : Nat → Prop} (h0 : Below w0.heap.size w0 W) (h2 : ∀ k, f k → w0.heap.size ≤ k) (h3 : Sep W l (fun k => w0.heap.size ≤ k ∧ ¬ f k))
    (hv : ∀ k, v.ownBlock = some k → f k) (hg : W.grownBy w1 v.ownBlock) (hq : d.Q e w1 0 (fun k => f k ∨ W.heap.size ≤ k) v1 ys) : SL w0 w1 (Row d e v1 ys :: l) := by
  have h3' := h3.bound
  refine ⟨h0.grown hg h0.size (fun k hk => h2 k (hv k hk)), _, hq, fun k hk => hk.elim (h2 k) (fun h => Nat.le_trans h0.size h), (h3'.move (fun k hk => hg.block k hk.2 (fun he => hk.1.2 (hv k he.symm)))).mono (fun k hk => ⟨hk.1.1, fun h => h.elim hk.1.2 (fun h => by have := hk.2; omega)⟩)⟩
/-- 'append(xs, p)': p lies alone in the block that has just been made. -/
theorem run_append1 {α : Type} (d : Kd α) (t ty e : TypeId) (z : Value) (bytes : Nat)
    (ht : P.underlying t = some (.slice e)) (hinfo : (P.info? e).map (fun i => (i.zero, i.size, i.bytes)) = some (some z, d.sz, bytes)) (hz : z.cells.size = d.sz) (hs0 : 0 < d.sz) (hb0 : 0 < bytes)
    (v : Value) (xs : List α) (p : α) (cs : List Value) (hp : d.M W 0 (fun _ => False) p cs) (HS : SL w0 W (Row d e v xs :: l)) (hl : (xs.length + 1) * bytes ≤ 140737488355328) :
    ∃ v1 w1, (Builtin.append_ #[t, t] ty #[v, .slice (some ⟨W.heap.size, 0, none⟩) 1 1]).run P (W.alloc (.cells cs.toArray e)) = .ok v1 w1 ∧ SL w0 w1 (Row d e v1 (xs ++ [p]) :: l) := by
  obtain ⟨h0, f, h1, h2, h3⟩ := HS
  obtain ⟨v1, w1, hr, q1, _, hg, _⟩ := Kd.Q_run (P := P) d (w0 := W) (W := W) 0 t ty e z bytes ht hinfo hz hs0 hb0 v xs p cs (fun k => f k ∨ W.heap.size ≤ k) (fun _ => False) hp (fun _ h => h.elim) (fun _ h => .inr h) (Kd.Q_mono h1 (fun _ h => .inl h)) (Below.refl _ _) (Nat.zero_le _) hl
  exact ⟨v1, w1, hr, SL.row_grown h0 h2 h3 h1.1 hg q1⟩
theorem wpList_append1 {α : Type} (d : Kd α) (hgd : o.guard = none) (s x : Operand) (t e : TypeId) (z : Value) (bytes : Nat)
    (ho : o.op = .call { callee := .builtin .append, args := #[s, x], argTypes := #[t, t] })
    (ht : P.underlying t = some (.slice e)) (hinfo : (P.info? e).map (fun i => (i.zero, i.size, i.bytes)) = some (some z, d.sz, bytes)) (hz : z.cells.size = d.sz) (hs0 : 0 < d.sz) (hb0 : 0 < bytes)
    (v : Value) (xs : List α) (p : α) (cs : List Value) (hs : a.eval s = v) (hx : a.eval x = .slice (some ⟨W.heap.size, 0, none⟩) 1 1) (hp : d.M W 0 (fun _ => False) p cs)
    (HS : SL w0 W (Row d e v xs :: l)) (hl : (xs.length + 1) * bytes ≤ 140737488355328)
    (h : ∀ v1 w1, SL w0 w1 (Row d e v1 (xs ++ [p]) :: l) → wpList P ops Q rest (a.put o.dst v1) w1) : wpList P ops Q (o :: rest) a (W.alloc (.cells cs.toArray e)) := by
  obtain ⟨v1, w1, hr, h1⟩ := run_append1 (P := P) d t o.type e z bytes ht hinfo hz hs0 hb0 v xs p cs hp HS hl
  refine wpList_plain hgd fun K hK => ?_
  unfold Oper.wp execOp
  simp only [ho, resolve, invoke, builtin, Sem.run_bind, Sem.run_pure, Result.andThen_ok, List.map_toArray, List.map_cons, List.map_nil, hs, hx, hr]
  exact hK _ _ (h v1 w1 h1)
/-- The same where the region draws its order. -/
theorem step_append1 {α : Type} {Kc : Act → World → Prop} (d : Kd α) (hw : Region.wanted o (yielded ops a.tmps) = true) (s x : Operand) (t e : TypeId) (z : Value) (bytes : Nat)
    (ho : o.op = .call { callee := .builtin .append, args := #[s, x], argTypes := #[t, t] })
    (ht : P.underlying t = some (.slice e)) (hinfo : (P.info? e).map (fun i => (i.zero, i.size, i.bytes)) = some (some z, d.sz, bytes)) (hz : z.cells.size = d.sz) (hs0 : 0 < d.sz) (hb0 : 0 < bytes)
    (v : Value) (xs : List α) (p : α) (cs : List Value) (hs : a.eval s = v) (hx : a.eval x = .slice (some ⟨W.heap.size, 0, none⟩) 1 1) (hp : d.M W 0 (fun _ => False) p cs)
    (HS : SL w0 W (Row d e v xs :: l)) (hl : (xs.length + 1) * bytes ≤ 140737488355328)
    (h : ∀ v1 w1, SL w0 w1 (Row d e v1 (xs ++ [p]) :: l) → Kc (a.put o.dst v1) w1) :
    if Region.wanted o (yielded ops a.tmps) = true then Oper.wp P o a (W.alloc (.cells cs.toArray e)) Kc Q else Kc (a.put o.dst undef) (W.alloc (.cells cs.toArray e)) := by
  obtain ⟨v1, w1, hr, h1⟩ := run_append1 (P := P) d t o.type e z bytes ht hinfo hz hs0 hb0 v xs p cs hp HS hl
  rw [if_pos hw]
  unfold Oper.wp execOp
  simp only [ho, resolve, invoke, builtin, Sem.run_bind, Sem.run_pure, Result.andThen_ok, List.map_toArray, List.map_cons, List.map_nil, hs, hx, hr]
  exact h v1 w1 h1
/-- 'm[x] = u'. -/
theorem wpList_mput (hg : o.guard = none) (m x v : Operand) (t : TypeId) (hop : o.op = Op.mapUpdate t m x v) (kt e : TypeId) (k : IntKind) (ht : P.underlying t = some (.map kt e)) (hk : P.underlying kt = some (.int k))
    (b : Nat) (M : List (Int × Value)) (hm : a.eval m = .map (some b)) (HS : SL w0 W (MapA k b M :: l)) (y : Int) (u : Value) (hx : a.eval x = .int k y) (hv : a.eval v = u) (hy : (Lit.int k y).wf = true)
    (h : ∀ w', SL w0 w' (MapA k b (Im.put M y u) :: l) → wpList P ops Q rest (a.put o.dst undef) w') : wpList P ops Q (o :: rest) a W :=
  Im.wpList_put W hg m x v t hop kt e k ht hk b M hm HS.map y u hx hv hy (fun w' h1 h2 => h w' (HS.setMap h1 h2))
/-- 'delete(m, x)'. -/
theorem wpList_mdel (hg : o.guard = none) (m x : Operand) (t t2 : TypeId) (hop : o.op = Op.call { callee := Callee.builtin Builtin.delete, args := #[m, x], argTypes := #[t, t2] }) (kt e : TypeId) (k : IntKind) (ht : P.underlying t = some (.map kt e)) (hk : P.underlying kt = some (.int k))
    (b : Nat) (M : List (Int × Value)) (hm : a.eval m = .map (some b)) (HS : SL w0 W (MapA k b M :: l)) (y : Int) (hx : a.eval x = .int k y) (hy : (Lit.int k y).wf = true)
    (h : ∀ w', SL w0 w' (MapA k b (Im.del M y) :: l) → wpList P ops Q rest (a.put o.dst (.tuple #[])) w') : wpList P ops Q (o :: rest) a W :=
  Im.wpList_del W hg m x t t2 hop kt e k ht hk b M hm HS.map y hx hy (fun w' h1 h2 => h w' (HS.setMap h1 h2))
/-- A region that draws its order: what only reads comes first, in one world, then the rest in the order of the text. -/
theorem region_tail {id : Nat} {w : World} {l : List Oper} (n : Nat) (hm : P.follows .mixedOrders = true) (hB : Region.lexTailB .any l.toArray n = true)
    (h : ∀ W1 : World, Aside0 (W1 = w.drew) → wpStill P l.toArray W1 (fun a' => wpList P l.toArray Q (l.drop n) a' W1) (l.take n) a) : (Code.region id l.toArray true).wp P Q a w :=
  wp_region_still_tail n hm hB (h _ ⟨rfl⟩)
theorem still_run {Qs : Act → Prop} {v : Value} (hg : o.guard = none) (hr : (execOp a.eval o).run P W = .ok (.value v) W) (h : wpStill P ops W Qs rest (a.put o.dst v)) : wpStill P ops W Qs (o :: rest) a := by
  have hw : Region.wanted o (yielded ops a.tmps) = true := by simp [Region.wanted, hg]
  unfold wpStill
  rw [if_pos hw]
  unfold Oper.still
  rw [hr, Oper.stillUpon_value]
  exact h
theorem still_mlen {Qs : Act → Prop} (hg : o.guard = none) (m : Operand) (t : TypeId) (hop : o.op = Op.call { callee := Callee.builtin Builtin.len, args := #[m], argTypes := #[t] }) (kt e : TypeId) (k : IntKind) (ht : P.underlying t = some (.map kt e))
    (b : Nat) (M : List (Int × Value)) (hm : a.eval m = .map (some b)) (hat : Im.MapAt k W b M) (h : wpStill P ops W Qs rest (a.put o.dst (.int .i64 M.length))) : wpStill P ops W Qs (o :: rest) a :=
  still_run hg (by simp [execOp, hop, resolve, invoke, builtin, hm, hat.len ht o.type, Result.andThen]) h
theorem still_look {Qs : Act → Prop} (hg : o.guard = none) (m x : Operand) (t : TypeId) (hop : o.op = Op.lookup t m x false) (kt e : TypeId) (k : IntKind) (ht : P.underlying t = some (.map kt e)) (hk : P.underlying kt = some (.int k))
    (z : Value) (hz : (zeroValue e).run P W = .ok z W) (b : Nat) (M : List (Int × Value)) (hm : a.eval m = .map (some b)) (hat : Im.MapAt k W b M) (y : Int) (hx : a.eval x = .int k y) (hy : (Lit.int k y).wf = true)
    (h : wpStill P ops W Qs rest (a.put o.dst ((Im.look M y).getD z))) : wpStill P ops W Qs (o :: rest) a :=
  still_run hg (by simp [execOp, hop, hm, hx, hat.lookup ht hk hz hy, Result.andThen]) h
theorem still_look_ok {Qs : Act → Prop} (hg : o.guard = none) (m x : Operand) (t : TypeId) (hop : o.op = Op.lookup t m x true) (kt e : TypeId) (k : IntKind) (ht : P.underlying t = some (.map kt e)) (hk : P.underlying kt = some (.int k))
    (z : Value) (hz : (zeroValue e).run P W = .ok z W) (b : Nat) (M : List (Int × Value)) (hm : a.eval m = .map (some b)) (hat : Im.MapAt k W b M) (y : Int) (hx : a.eval x = .int k y) (hy : (Lit.int k y).wf = true)
    (h : wpStill P ops W Qs rest (a.put o.dst (.tuple #[(Im.look M y).getD z, .bool (Im.look M y).isSome]))) : wpStill P ops W Qs (o :: rest) a :=
  still_run hg (by simp [execOp, hop, hm, hx, hat.lookup_ok ht hk hz hy, Result.andThen]) h
/-- Elements without rows of their own. -/
def Flat {α : Type} (d : Kd α) : Prop := ∀ (W W' : World) (base : Nat) (ok : Nat → Prop) (x : α) (cs : List Value), d.K W x cs → d.M W' base ok x cs
theorem flat_int (k : IntKind) : Flat (Kd.int k) := fun _ _ _ _ _ _ h => h
theorem flat_string : Flat Kd.string := fun _ _ _ _ _ _ h => h
theorem flat_bool : Flat Kd.bool := fun _ _ _ _ _ _ h => h
theorem flat_pair {α β : Type} {a : Kd α} {b : Kd β} (ha : Flat a) (hb : Flat b) : Flat (Kd.pair a b) := fun W W' base ok x cs ⟨c1, c2, h, h1, h2⟩ => ⟨c1, c2, h, ha W W' base ok _ _ h1, hb W W' base ok _ _ h2⟩
theorem flat_iso {α β : Type} {d : Kd α} {f : β → α} (h : Flat d) : Flat (Kd.iso d f) := fun W W' base ok x cs hk => h W W' base ok (f x) cs hk
/-- 'append(xs, ys...)'. -/
theorem run_appendN {α : Type} (d : Kd α) (hf : Flat d) (t ty e : TypeId) (z : Value) (bytes : Nat)
    (ht : P.underlying t = some (.slice e)) (hinfo : (P.info? e).map (fun i => (i.zero, i.size, i.bytes)) = some (some z, d.sz, bytes)) (hz : z.cells.size = d.sz) (hs0 : 0 < d.sz) (hb0 : 0 < bytes)
    (v : Value) (xs ys : List α) (A : Option Addr) (m c : Nat) (HS : SL w0 W (Row d e v xs :: l)) (HR : d.C W A m ys) (hl : (xs.length + m) * bytes ≤ 140737488355328) :
    ∃ v1 w1, (Builtin.append_ #[t, t] ty #[v, .slice A m c]).run P W = .ok v1 w1 ∧ SL w0 w1 (Row d e v1 (xs ++ ys) :: l) := by
  have HS' := HS
  obtain ⟨h0, f, h1, h2, h3⟩ := HS
  obtain ⟨i0, hi, hzz⟩ := Option.map_eq_some_iff.1 hinfo
  simp only [Prod.mk.injEq] at hzz
  obtain ⟨hz0, hz1, hz2⟩ := hzz
  obtain ⟨hok, inner, hown, hr⟩ := h1
  have hm : ys.length = m := HR.1
  rcases Nat.eq_zero_or_pos m with h | h
  · subst h
    obtain rfl : ys = [] := List.eq_nil_of_length_eq_zero hm
    refine ⟨v, W, ?_, by rw [List.append_nil]; exact HS'⟩
    have hld : ∀ b, Sem.run P (loadCells b 0) W = .ok #[] W := fun b => by first | rfl | simp [loadCells]
    rcases hown.2 with ⟨h0, A', rfl, _⟩ | ⟨g, off, cap, cur, rfl, _, _, hnc, _⟩
    · cases A' <;> cases A <;> simp [Builtin.append_, run_underlying ht, sizeOf, typeInfo, hi, Builtin.lenOf, Builtin.firstCells, storeCells, hld, Result.andThen]
    · cases A <;> simp [Builtin.append_, run_underlying ht, sizeOf, typeInfo, hi, Builtin.lenOf, Builtin.firstCells, hnc, storeCells, hld, Result.andThen]
  · obtain ⟨ad, rfl, _⟩ := HR.2.2 h
    obtain ⟨news, hnr, hnc⟩ := ReadsRow.inner_ HR
    have hnM : Reps (d.K W) d.sz ys news := hnr
    have hone : ∀ u ∈ news, u.oneCell' = true := by
      intro u hu
      obtain ⟨q, hq, rfl⟩ := List.mem_iff_getElem.1 hu
      have hql : q / d.sz < ys.length := by
        rw [Nat.div_lt_iff_lt_mul hs0]
        rw [← hnM.1]
        exact hq
      have hc := hnM.2 (q / d.sz) _ (List.getElem?_eq_getElem hql)
      refine d.K_one hc _ ?_
      rw [List.mem_iff_getElem?]
      refine ⟨q % d.sz, ?_⟩
      rw [List.getElem?_take, if_pos (Nat.mod_lt _ hs0), List.getElem?_drop, Nat.mul_comm, Nat.div_add_mod, List.getElem?_eq_getElem hq]
    have hlen : xs.length + m ≤ 140737488355328 := Nat.le_trans (Nat.le_mul_of_pos_right _ hb0) hl
    obtain ⟨v1, w1, hrun, hq1, hg, hat⟩ := q_append (P := P) W 0 t ty e i0 z d.sz bytes ht hi hz0 hz1 hz2 hz hs0 v xs.length inner hown ad m c news (by rw [hnM.1, hm]) hnc hone h (by simp only [maxLen]; omega) hl (Nat.zero_le _)
    refine ⟨v1, w1, hrun, SL.row_grown h0 h2 h3 hok hg ⟨fun k hk => ?_, inner ++ news, by rw [List.length_append, hm]; exact hq1, ?_⟩⟩
    · rcases hat with hat | ⟨b, hb, hle⟩
      · exact .inl (hok k (hat ▸ hk))
      · rw [hb] at hk
        injection hk with hk
        exact .inr (by omega)
    · exact Kd.reps_append (hr.imp_ (fun p c hp => hf W w1 0 _ p c (d.K_of_M hp))) (hnM.imp_ (fun p c hp => hf W w1 0 _ p c hp))
theorem wpList_appendN {α : Type} (d : Kd α) (hf : Flat d) (hgd : o.guard = none) (s x : Operand) (t e : TypeId) (z : Value) (bytes : Nat)
    (ho : o.op = .call { callee := .builtin .append, args := #[s, x], argTypes := #[t, t] })
    (ht : P.underlying t = some (.slice e)) (hinfo : (P.info? e).map (fun i => (i.zero, i.size, i.bytes)) = some (some z, d.sz, bytes)) (hz : z.cells.size = d.sz) (hs0 : 0 < d.sz) (hb0 : 0 < bytes)
    (v : Value) (xs ys : List α) (A : Option Addr) (m c : Nat) (hs : a.eval s = v) (hx : a.eval x = .slice A m c)
    (HS : SL w0 W (Row d e v xs :: l)) (HR : d.C W A m ys) (hl : (xs.length + m) * bytes ≤ 140737488355328)
    (h : ∀ v1 w1, SL w0 w1 (Row d e v1 (xs ++ ys) :: l) → wpList P ops Q rest (a.put o.dst v1) w1) : wpList P ops Q (o :: rest) a W := by
  obtain ⟨v1, w1, hr, h1⟩ := run_appendN (P := P) d hf t o.type e z bytes ht hinfo hz hs0 hb0 v xs ys A m c HS HR hl
  refine wpList_plain hgd fun K hK => ?_
  unfold Oper.wp execOp
  simp only [ho, resolve, invoke, builtin, Sem.run_bind, Sem.run_pure, Result.andThen_ok, List.map_toArray, List.map_cons, List.map_nil, hs, hx, hr]
  exact hK _ _ (h v1 w1 h1)
theorem val_ {N : Option Tmp} {v : Value} {w1 : World} {K : Act → World → Prop} (hw : Region.wanted o (yielded ops a.tmps) = true) (hN : o.dst = N) (hrun : (execOp a.eval o).run P W = .ok (.value v) w1)
    (h : K (a.put N v) w1) : if Region.wanted o (yielded ops a.tmps) = true then Oper.wp P o a W K Q else K (a.put N undef) W := by
  rw [if_pos hw]
  unfold Oper.wp
  rw [hrun]
  show K (a.put o.dst v) w1
  rw [hN]
  exact h
theorem step_mput {K : Act → World → Prop} (hw : Region.wanted o (yielded ops a.tmps) = true) (hN : o.dst = none) (m x v : Operand) (t : TypeId) (hop : o.op = Op.mapUpdate t m x v) (kt e : TypeId) (k : IntKind) (ht : P.underlying t = some (.map kt e)) (hk : P.underlying kt = some (.int k))
    (b : Nat) (M : List (Int × Value)) (hm : a.eval m = .map (some b)) (HS : SL w0 W (MapA k b M :: l)) (y : Int) (u : Value) (hx : a.eval x = .int k y) (hv : a.eval v = u) (hy : (Lit.int k y).wf = true)
    (h : ∀ w', SL w0 w' (MapA k b (Im.put M y u) :: l) → K a w') : if Region.wanted o (yielded ops a.tmps) = true then Oper.wp P o a W K Q else K (a.put none undef) W := by
  obtain ⟨w', hrun, r1, r2⟩ := HS.map.update ht hk hy u
  rw [if_pos hw]
  unfold Oper.wp
  simp [execOp, hop, hm, hx, hv, hrun, Result.andThen]
  show K (a.put o.dst undef) w'
  rw [hN]
  exact h w' (HS.setMap r1 r2)
/-- 'range m'. -/
theorem wpList_mrange (hg : o.guard = none) (m : Operand) (t kt e : TypeId) (k : IntKind) (hop : o.op = Op.range t m) (ht : P.underlying t = some (.map kt e)) (b : Nat) (M : List (Int × Value)) (hm : a.eval m = .map (some b)) (HS : SL w0 W (MapA k b M :: l))
    (h : ∀ w', SL w0 w' (RangeA k b W.heap.size M M :: l) → wpList P ops Q rest (a.put o.dst (.pointer (some ⟨W.heap.size, 0, none⟩))) w') : wpList P ops Q (o :: rest) a W := by
  have hM := HS.map
  obtain ⟨hn, hwf, es, clock, hb, hes, hborn, hnb⟩ := hM
  have hrun := run_range_map (P := P) W t kt e b es clock ht hb
  refine wpList_plain hg fun K' hK' => ?_
  unfold Oper.wp
  simp [execOp, hop, hm, hrun, Result.andThen]
  refine hK' _ _ (h _ ?_)
  have hlt := HS.map.lt
  have ha : ∀ o' : Obj, (W.alloc o').heap[b]? = W.heap[b]? := fun o' => Below.heap_alloc W o' b hlt
  refine HS.change rfl rfl rfl (by simp) (fun f h1 _ => ⟨fun i hi _ => Below.heap_alloc W _ i hi, fun i => f i ∨ W.heap.size ≤ i, ⟨.inl h1.1, .inr (Nat.le_refl _), by omega, h1.2.move (ha _), es, clock, clock, #[], clock, (ha _).trans hb, heap_alloc_new W _, hborn, Nat.le_refl _, Nat.le_refl _, ?_⟩, fun _ hi => hi⟩)
  have e5 : leftOf es #[] = es := by unfold leftOf; exact Array.filter_eq_self.2 (fun x _ => by simp)
  rw [e5]
  exact hes
/-- The step. -/
theorem wpList_mnext (hg : o.guard = none) (it : Operand) (hop : o.op = Op.next it false) (k : IntKind) (b r : Nat) (M left : List (Int × Value)) (hit : a.eval it = .pointer (some ⟨r, 0, none⟩)) (HS : SL w0 W (RangeA k b r M left :: l))
    (hDone : left = [] → wpList P ops Q rest (a.put o.dst (.tuple #[.bool false])) W)
    (hMore : ∀ (y : Int) (u : Value), (y, u) ∈ left → ∀ w', SL w0 w' (RangeA k b r M (left.filter fun q => !(q.1 == y)) :: l) → (Instr.entry (.pointer (some ⟨r, 0, none⟩))).run P w' = .ok (.tuple #[.int k y, u]) w' → wpList P ops Q rest (a.put o.dst (.tuple #[.bool true, .int k y, u])) w') :
    wpList P ops Q (o :: rest) a W := by
  refine wpList_plain hg fun K' hK' => ?_
  unfold Oper.wp
  obtain ⟨f, hf, _⟩ := HS.head
  rcases hf.2.2.next (P := P) o.type with ⟨h0, hrun⟩ | ⟨p, hp, w', hrun, hrg, hgr, hen⟩
  · simp [execOp, hop, hit, hrun, Result.andThen]
    exact hK' _ _ (hDone h0)
  · simp [execOp, hop, hit, hrun, Result.andThen]
    refine hK' _ _ (hMore p.1 p.2 hp w' (HS.change hgr.os hgr.tape hgr.output hgr.size (fun f h1 _ => ⟨fun i hi hn => hgr.block i hi (fun e => hn (by injection e with e; rw [e]; exact h1.2.1)), f, ⟨h1.1, h1.2.1, ?_⟩, fun _ hi => .inl hi⟩)) hen)
    exact hrg
end
end Go.Proofs.Ytiiljdglbfgdbaa.Sl
