/- The plain theory of sets of whole numbers written as spans that rise, with something between any two; rising lists; a set's numbers. No program in sight. -/
import Derived.Sort.AssemblyPlain
import Derived.Test.YtiiljdglbfgdbaaLibs
import Derived.Test.YtiiljdglbfgdbaaS0
import Derived.Test.YtiiljdglbfgdbaaS1
import Derived.Test.YtiiljdglbfgdbaaS2
import Derived.Test.YtiiljdglbfgdbaaS3
import Derived.Test.YtiiljdglbfgdbaaS4
import Derived.Test.YtiiljdglbfgdbaaS5
import Derived.Test.YtiiljdglbfgdbaaS7

/-! The plain theory of sets of whole numbers written as spans that rise, with something between any two; rising lists; a set's numbers. No program in sight. -/
namespace Go.Proofs.Ytiiljdglbfgdbaa.SpanTh
open Go.Proofs.Ytiiljdglbfgdbaa.S

def Mem (n : Int) (s : List S105) : Prop := ∃ x ∈ s, x.f0 ≤ n ∧ n < x.f1
def Norm (s : List S105) : Prop := (∀ x ∈ s, x.f0 < x.f1) ∧ s.Pairwise (fun a b => a.f1 < b.f0)

theorem mem_nil (n : Int) : ¬ Mem n [] := fun ⟨_, h, _⟩ => by cases h
theorem mem_cons (n : Int) (x : S105) (s : List S105) : Mem n (x :: s) ↔ (x.f0 ≤ n ∧ n < x.f1) ∨ Mem n s := by
  constructor
  · rintro ⟨y, hy, h⟩
    rcases List.mem_cons.1 hy with rfl | hy
    · exact .inl h
    · exact .inr ⟨y, hy, h⟩
  · rintro (h | ⟨y, hy, h⟩)
    · exact ⟨x, List.mem_cons_self, h⟩
    · exact ⟨y, List.mem_cons_of_mem _ hy, h⟩
theorem mem_append (n : Int) (s t : List S105) : Mem n (s ++ t) ↔ Mem n s ∨ Mem n t := by
  induction s with
  | nil => simp [mem_nil]
  | cons x s ih => rw [List.cons_append, mem_cons, mem_cons, ih, or_assoc]
theorem mem_perm {s t : List S105} (h : s.Perm t) (n : Int) : Mem n s ↔ Mem n t :=
  ⟨fun ⟨x, hx, h'⟩ => ⟨x, h.mem_iff.1 hx, h'⟩, fun ⟨x, hx, h'⟩ => ⟨x, h.mem_iff.2 hx, h'⟩⟩
theorem norm_nil : Norm [] := ⟨fun _ h => (by cases h), List.Pairwise.nil⟩
theorem norm_tail {x : S105} {s : List S105} (h : Norm (x :: s)) : Norm s :=
  ⟨fun y hy => h.1 y (List.mem_cons_of_mem _ hy), (List.pairwise_cons.1 h.2).2⟩
theorem norm_lt {x : S105} {s : List S105} (h : Norm (x :: s)) (n : Int) (hn : Mem n s) : x.f1 < n := by
  obtain ⟨y, hy, h1, _⟩ := hn
  have := (List.pairwise_cons.1 h.2).1 y hy
  omega
theorem norm_least {x : S105} {s : List S105} (h : Norm (x :: s)) (n : Int) (hn : Mem n (x :: s)) : x.f0 ≤ n := by
  rcases (mem_cons _ _ _).1 hn with h' | h'
  · exact h'.1
  · have := norm_lt h n h'
    have := h.1 x List.mem_cons_self
    omega
theorem norm_head_mem {x : S105} {s : List S105} (h : Norm (x :: s)) : Mem x.f0 (x :: s) :=
  (mem_cons _ _ _).2 (.inl ⟨Int.le_refl _, h.1 x List.mem_cons_self⟩)
theorem norm_end_not {x : S105} {s : List S105} (h : Norm (x :: s)) : ¬ Mem x.f1 (x :: s) := by
  intro hm
  rcases (mem_cons _ _ _).1 hm with h' | h'
  · omega
  · have := norm_lt h _ h'
    omega
theorem norm_end_le {x y : S105} {s t : List S105} (hs : Norm (x :: s)) (h : ∀ n, Mem n (x :: s) ↔ Mem n (y :: t)) (e : x.f0 = y.f0) : y.f1 ≤ x.f1 := by
  have h1 := norm_end_not hs
  rw [h, mem_cons] at h1
  have := hs.1 x List.mem_cons_self
  omega
/-- Two normal sets with the same numbers are one. -/
theorem norm_ext : ∀ {s t : List S105}, Norm s → Norm t → (∀ n, Mem n s ↔ Mem n t) → s = t := by
  intro s
  induction s with
  | nil =>
    intro t _ ht h
    cases t with
    | nil => rfl
    | cons y t => exact absurd ((h _).2 (norm_head_mem ht)) (mem_nil _)
  | cons x s ih =>
    intro t hs ht h
    cases t with
    | nil => exact absurd ((h _).1 (norm_head_mem hs)) (mem_nil _)
    | cons y t =>
      have e0 : x.f0 = y.f0 := by
        have h1 := norm_least hs _ ((h _).2 (norm_head_mem ht))
        have h2 := norm_least ht _ ((h _).1 (norm_head_mem hs))
        omega
      have e1 : x.f1 = y.f1 := by
        have h1 := norm_end_le hs h e0
        have h2 := norm_end_le ht (fun n => (h n).symm) e0.symm
        omega
      have e : x = y := by cases x; cases y; simp_all
      subst e
      have hx := hs.1 x List.mem_cons_self
      rw [ih (norm_tail hs) (norm_tail ht) (fun n => ?_)]
      have hn := h n
      rw [mem_cons, mem_cons] at hn
      have a1 := norm_lt hs n
      have a2 := norm_lt ht n
      constructor
      · intro hm
        rcases hn.1 (.inr hm) with h' | h'
        · have := a1 hm; omega
        · exact h'
      · intro hm
        rcases hn.2 (.inr hm) with h' | h'
        · have := a2 hm; omega
        · exact h'

/-! ### The set of some spans -/
def mostL : Int := 1099511627776
def nearL (x : S105) : S105 := ⟨max (-mostL) (min x.f0 mostL), max (-mostL) (min x.f1 (mostL + 1))⟩
def push (out : List S105) (x : S105) : List S105 :=
  match out.getLast? with
  | some y => if x.f0 ≤ y.f1 then out.dropLast ++ [⟨y.f0, max y.f1 x.f1⟩] else out ++ [x]
  | none => out ++ [x]
theorem push_nil (x : S105) : push [] x = [x] := rfl
theorem push_snoc (o : List S105) (y x : S105) : push (o ++ [y]) x = if x.f0 ≤ y.f1 then o ++ [⟨y.f0, max y.f1 x.f1⟩] else o ++ [y] ++ [x] := by
  unfold push
  simp
theorem norm_snoc {o : List S105} {x : S105} : Norm (o ++ [x]) ↔ Norm o ∧ x.f0 < x.f1 ∧ ∀ y ∈ o, y.f1 < x.f0 := by
  unfold Norm
  rw [List.pairwise_append]
  simp only [List.mem_append, List.mem_singleton, List.pairwise_cons, List.not_mem_nil, false_imp_iff, implies_true, List.Pairwise.nil, and_true, true_and, forall_eq]
  constructor
  · rintro ⟨h1, h2, h3⟩
    exact ⟨⟨fun y hy => h1 y (.inl hy), h2⟩, h1 x (.inr rfl), h3⟩
  · rintro ⟨⟨h1, h2⟩, h3, h4⟩
    exact ⟨fun y hy => hy.elim (h1 y) (fun e => e ▸ h3), h2, h4⟩
theorem push_spec {o : List S105} {x : S105} (ho : Norm o) (hx : x.f0 < x.f1) (hle : ∀ y ∈ o, y.f0 ≤ x.f0) :
    Norm (push o x) ∧ (∀ n, Mem n (push o x) ↔ Mem n o ∨ (x.f0 ≤ n ∧ n < x.f1)) ∧ ∀ y ∈ push o x, y.f0 ≤ x.f0 := by
  rcases List.eq_nil_or_concat o with rfl | ⟨o, y, rfl⟩
  · rw [push_nil]
    refine ⟨⟨fun z hz => ?_, by simp⟩, fun n => ?_, fun z hz => ?_⟩
    · rw [List.mem_singleton] at hz; subst hz; exact hx
    · rw [mem_cons]; simp [mem_nil]
    · rw [List.mem_singleton] at hz; subst hz; exact Int.le_refl _
  · rw [List.concat_eq_append] at *
    rw [push_snoc]
    obtain ⟨h1, h2, h3⟩ := norm_snoc.1 ho
    have hy := hle y (by simp)
    split
    · rename_i hc
      refine ⟨norm_snoc.2 ⟨h1, by simp only; omega, h3⟩, fun n => ?_, fun z hz => ?_⟩
      · rw [mem_append, mem_append, mem_cons, mem_cons]
        simp only [mem_nil, or_false]
        constructor
        · rintro (h | h)
          · exact .inl (.inl h)
          · by_cases hn : n < y.f1
            · exact .inl (.inr ⟨h.1, hn⟩)
            · exact .inr (by omega)
        · rintro ((h | h) | h)
          · exact .inl h
          · exact .inr (by omega)
          · exact .inr (by omega)
      · rcases List.mem_append.1 hz with hz | hz
        · exact hle z (by simp [hz])
        · rw [List.mem_singleton] at hz; subst hz; exact hy
    · rename_i hc
      refine ⟨norm_snoc.2 ⟨ho, hx, fun z hz => ?_⟩, fun n => ?_, fun z hz => ?_⟩
      · rcases List.mem_append.1 hz with hz | hz
        · have := h3 z hz; omega
        · rw [List.mem_singleton] at hz; subst hz; omega
      · rw [mem_append (s := o ++ [y]), mem_cons]; simp only [mem_nil, or_false]
      · rcases List.mem_append.1 hz with hz | hz
        · exact hle z hz
        · rw [List.mem_singleton] at hz; subst hz; exact Int.le_refl _
theorem fold_spec : ∀ (l o : List S105), Norm o → (∀ x ∈ l, x.f0 < x.f1) → l.Pairwise (fun a b => a.f0 ≤ b.f0) → (∀ x ∈ l, ∀ y ∈ o, y.f0 ≤ x.f0) →
    Norm (l.foldl push o) ∧ ∀ n, Mem n (l.foldl push o) ↔ Mem n o ∨ Mem n l := by
  intro l
  induction l with
  | nil => intro o ho _ _ _; exact ⟨ho, fun n => by simp [mem_nil]⟩
  | cons x l ih =>
    intro o ho hl hp hle
    obtain ⟨h1, h2, h3⟩ := push_spec ho (hl x List.mem_cons_self) (hle x List.mem_cons_self)
    obtain ⟨hp1, hp2⟩ := List.pairwise_cons.1 hp
    obtain ⟨a, b⟩ := ih (push o x) h1 (fun y hy => hl y (List.mem_cons_of_mem _ hy)) hp2 (fun y hy z hz => Int.le_trans (h3 z hz) (hp1 y hy))
    refine ⟨a, fun n => ?_⟩
    rw [List.foldl_cons, b, h2, mem_cons, or_assoc]
def keptL (l : List S105) : List S105 := (l.map nearL).filter fun x => decide (x.f0 < x.f1)
def leL (a b : S105) : Bool := decide (a.f0 ≤ b.f0)
def ofL (l : List S105) : List S105 := ((keptL l).mergeSort leL).foldl push []
theorem kept_lt (l : List S105) (x : S105) (h : x ∈ keptL l) : x.f0 < x.f1 := by simpa using (List.mem_filter.1 h).2
theorem sorted_fold {l d : List S105} (hp : d.Perm (keptL l)) (hs : d.Pairwise fun a b => a.f0 ≤ b.f0) : Norm (d.foldl push []) ∧ ∀ n, Mem n (d.foldl push []) ↔ Mem n (keptL l) := by
  obtain ⟨a, b⟩ := fold_spec d [] norm_nil (fun x hx => kept_lt l x (hp.mem_iff.1 hx)) hs (fun _ _ _ h => by cases h)
  exact ⟨a, fun n => by rw [b, mem_perm hp]; simp [mem_nil]⟩
theorem leL_sorted (l : List S105) : (l.mergeSort leL).Pairwise fun a b => a.f0 ≤ b.f0 := by
  have h := List.pairwise_mergeSort (le := leL) (fun a b c h1 h2 => by simp only [leL, decide_eq_true_eq] at *; omega) (fun a b => by simp only [leL, Bool.or_eq_true, decide_eq_true_eq]; omega) l
  exact h.imp (fun h => by simpa [leL] using h)
theorem ofL_spec (l : List S105) : Norm (ofL l) ∧ ∀ n, Mem n (ofL l) ↔ Mem n (keptL l) := sorted_fold (List.mergeSort_perm _ _) (leL_sorted _)
/-- Whatever order the sort gives to what begins at one number: the set is one. -/
theorem ofL_eq {l d : List S105} (hp : d.Perm (keptL l)) (hs : d.Pairwise fun a b => a.f0 ≤ b.f0) : d.foldl push [] = ofL l := by
  obtain ⟨a, b⟩ := sorted_fold hp hs
  obtain ⟨c, d⟩ := ofL_spec l
  exact norm_ext a c (fun n => by rw [b, d])
def ofG (y : List S105) : List S105 := (y.mergeSort leL).foldl push []
theorem ofG_kept (l : List S105) : ofG (keptL l) = ofL l := rfl
theorem ofG_eq {y d : List S105} (hne : ∀ x ∈ y, x.f0 < x.f1) (hp : d.Perm y) (hs : d.Pairwise fun a b => a.f0 ≤ b.f0) : d.foldl push [] = ofG y := by
  obtain ⟨a, b⟩ := fold_spec d [] norm_nil (fun x hx => hne x (hp.mem_iff.1 hx)) hs (fun _ _ _ h => by cases h)
  obtain ⟨a', b'⟩ := fold_spec (y.mergeSort leL) [] norm_nil (fun x hx => hne x ((List.mergeSort_perm _ _).mem_iff.1 hx)) (leL_sorted y) (fun _ _ _ h => by cases h)
  refine norm_ext a a' (fun n => ?_)
  rw [b, mem_perm hp]
  show _ ↔ Mem n ((y.mergeSort leL).foldl push [])
  rw [b', mem_perm (List.mergeSort_perm y leL)]
theorem kept_cons (x : S105) (r : List S105) : keptL (x :: r) = if (nearL x).f0 < (nearL x).f1 then nearL x :: keptL r else keptL r := by
  unfold keptL
  rw [List.map_cons, List.filter_cons]
  by_cases h : (nearL x).f0 < (nearL x).f1
  · rw [if_pos h, if_pos (by simpa using h)]
  · rw [if_neg h, if_neg (by simpa using h)]
/-- A span lies within what may be. -/
def Small (l : List S105) : Prop := ∀ x ∈ l, -mostL ≤ x.f0 ∧ x.f0 ≤ mostL ∧ -mostL ≤ x.f1 ∧ x.f1 ≤ mostL + 1
theorem mem_kept {l : List S105} (n : Int) : Mem n (keptL l) ↔ Mem n (l.map nearL) := by
  constructor
  · rintro ⟨x, hx, h⟩; exact ⟨x, (List.mem_filter.1 hx).1, h⟩
  · rintro ⟨x, hx, h⟩; exact ⟨x, List.mem_filter.2 ⟨hx, by simp; omega⟩, h⟩
theorem near_small {x : S105} (h : -mostL ≤ x.f0 ∧ x.f0 ≤ mostL ∧ -mostL ≤ x.f1 ∧ x.f1 ≤ mostL + 1) : nearL x = x := by
  cases x; simp only [nearL] at *; congr <;> omega
theorem map_small : ∀ {l : List S105}, Small l → l.map nearL = l := by
  intro l h
  conv => rhs; rw [← List.map_id l]
  exact List.map_congr_left (fun x hx => by simpa using near_small (h x hx))
theorem ofL_mem {l : List S105} (h : Small l) (n : Int) : Mem n (ofL l) ↔ Mem n l := by rw [(ofL_spec l).2, mem_kept, map_small h]
theorem norm_small {l : List S105} (hn : Norm l) (h : ∀ n, Mem n l → -mostL ≤ n ∧ n ≤ mostL) : Small l := by
  intro x hx
  have hlt := hn.1 x hx
  have h0 := h x.f0 ⟨x, hx, Int.le_refl _, hlt⟩
  have h1 := h (x.f1 - 1) ⟨x, hx, by omega, by omega⟩
  omega
theorem ofL_small (l : List S105) : Small (ofL l) := by
  refine norm_small (ofL_spec l).1 (fun n hn => ?_)
  rw [(ofL_spec l).2, mem_kept] at hn
  obtain ⟨x, hx, h⟩ := hn
  obtain ⟨y, _, rfl⟩ := List.mem_map.1 hx
  simp only [nearL] at h
  omega
theorem ofL_norm {l : List S105} (hn : Norm l) (h : Small l) : ofL l = l := norm_ext (ofL_spec l).1 hn (fun n => ofL_mem h n)
end Go.Proofs.Ytiiljdglbfgdbaa.SpanTh
namespace Go.Proofs.Ytiiljdglbfgdbaa.SpanTh
open Go.Proofs.Ytiiljdglbfgdbaa.S

def Rise (l : List Int) : Prop := l.Pairwise (· < ·)
theorem rise_nil : Rise [] := List.Pairwise.nil
theorem rise_cons {x : Int} {l : List Int} : Rise (x :: l) ↔ (∀ y ∈ l, x < y) ∧ Rise l := List.pairwise_cons
theorem rise_ext : ∀ {s t : List Int}, Rise s → Rise t → (∀ n, n ∈ s ↔ n ∈ t) → s = t := by
  intro s
  induction s with
  | nil =>
    intro t _ _ h
    cases t with
    | nil => rfl
    | cons y t => exact absurd ((h y).2 List.mem_cons_self) (by simp)
  | cons x s ih =>
    intro t hs ht h
    cases t with
    | nil => exact absurd ((h x).1 List.mem_cons_self) (by simp)
    | cons y t =>
      obtain ⟨a1, b1⟩ := rise_cons.1 hs
      obtain ⟨a2, b2⟩ := rise_cons.1 ht
      have e : x = y := by
        rcases List.mem_cons.1 ((h x).1 List.mem_cons_self) with h1 | h1
        · exact h1
        · rcases List.mem_cons.1 ((h y).2 List.mem_cons_self) with h2 | h2
          · exact h2.symm
          · have := a1 y h2; have := a2 x h1; omega
      subst e
      rw [ih b1 b2 (fun n => ?_)]
      have hn := h n
      rw [List.mem_cons, List.mem_cons] at hn
      constructor
      · intro hm
        have := a1 n hm
        exact (hn.1 (.inr hm)).resolve_left (by omega)
      · intro hm
        have := a2 n hm
        exact (hn.2 (.inr hm)).resolve_left (by omega)
def insL (x : Int) : List Int → List Int
  | [] => [x]
  | y :: l => if x < y then x :: y :: l else y :: insL x l
def putL (l : List Int) (x : Int) : List Int := if x ∈ l then l else insL x l
theorem mem_insL (x n : Int) : ∀ l, n ∈ insL x l ↔ n = x ∨ n ∈ l
  | [] => by simp [insL]
  | y :: l => by
    unfold insL
    split
    · rw [List.mem_cons]
    · rw [List.mem_cons, mem_insL x n l, List.mem_cons]
      constructor
      · rintro (h | h | h) <;> simp [h]
      · rintro (h | h | h) <;> simp [h]
theorem mem_putL (l : List Int) (x n : Int) : n ∈ putL l x ↔ n = x ∨ n ∈ l := by
  unfold putL
  split
  · rename_i h
    constructor
    · exact .inr
    · rintro (rfl | h') <;> assumption
  · exact mem_insL x n l
theorem rise_insL (x : Int) : ∀ l, Rise l → x ∉ l → Rise (insL x l)
  | [], _, _ => by simp [insL, Rise]
  | y :: l, h, hx => by
    obtain ⟨a, b⟩ := rise_cons.1 h
    unfold insL
    split
    · rename_i hc
      refine rise_cons.2 ⟨fun z hz => ?_, h⟩
      rcases List.mem_cons.1 hz with rfl | hz
      · exact hc
      · have := a z hz; omega
    · refine rise_cons.2 ⟨fun z hz => ?_, rise_insL x l b (fun h' => hx (List.mem_cons_of_mem _ h'))⟩
      rcases (mem_insL x z l).1 hz with rfl | hz
      · have : z ≠ y := fun e => hx (e ▸ List.mem_cons_self)
        omega
      · exact a z hz
theorem rise_putL {l : List Int} (x : Int) (h : Rise l) : Rise (putL l x) := by
  unfold putL
  split
  · exact h
  · exact rise_insL x l h ‹_›
def run (a : Int) : Nat → List Int
  | 0 => []
  | n + 1 => a :: run (a + 1) n
theorem mem_run (n : Int) : ∀ (m : Nat) (a : Int), n ∈ run a m ↔ a ≤ n ∧ n < a + m
  | 0, a => by simp only [run, List.not_mem_nil, false_iff]; omega
  | m + 1, a => by rw [run, List.mem_cons, mem_run n m]; omega
theorem rise_run : ∀ (m : Nat) (a : Int), Rise (run a m)
  | 0, _ => rise_nil
  | m + 1, a => rise_cons.2 ⟨fun y hy => by have := (mem_run y m (a + 1)).1 hy; omega, rise_run m (a + 1)⟩
theorem len_run : ∀ (m : Nat) (a : Int), (run a m).length = m
  | 0, _ => rfl
  | m + 1, a => by rw [run, List.length_cons, len_run]
theorem rise_len : ∀ (l : List Int) (a b : Int), Rise l → (∀ n ∈ l, a ≤ n ∧ n < b) → l.length ≤ (b - a).toNat
  | [], _, _, _, _ => Nat.zero_le _
  | x :: l, a, b, h, hb => by
    obtain ⟨h1, h2⟩ := rise_cons.1 h
    have := rise_len l (x + 1) b h2 (fun n hn => ⟨by have := h1 n hn; omega, (hb n (List.mem_cons_of_mem _ hn)).2⟩)
    have := hb x List.mem_cons_self
    rw [List.length_cons]
    omega
theorem fold_put : ∀ (r all : List Int), Rise all → Rise (r.foldl putL all) ∧ ∀ n, n ∈ r.foldl putL all ↔ n ∈ all ∨ n ∈ r
  | [], all, h => ⟨h, fun n => by simp⟩
  | x :: r, all, h => by
    obtain ⟨a, b⟩ := fold_put r (putL all x) (rise_putL x h)
    refine ⟨a, fun n => ?_⟩
    rw [List.foldl_cons, b, mem_putL, List.mem_cons]
    constructor
    · rintro ((h | h) | h) <;> simp [h]
    · rintro (h | h | h) <;> simp [h]
def runS (x : S105) : List Int := run x.f0 (x.f1 - x.f0).toNat
theorem mem_runS (x : S105) (n : Int) : n ∈ runS x ↔ x.f0 ≤ n ∧ n < x.f1 := by unfold runS; rw [mem_run]; omega
def allF (all : List Int) (l : List S105) : List Int := l.foldl (fun a x => (runS x).foldl putL a) all
theorem all_spec : ∀ (l : List S105) (all : List Int), Rise all → Rise (allF all l) ∧ ∀ n, n ∈ allF all l ↔ n ∈ all ∨ Mem n l
  | [], all, h => ⟨h, fun n => by simp [allF, mem_nil]⟩
  | x :: l, all, h => by
    obtain ⟨a, b⟩ := fold_put (runS x) all h
    obtain ⟨c, d⟩ := all_spec l _ a
    refine ⟨c, fun n => ?_⟩
    show n ∈ allF _ l ↔ _
    rw [d, b, mem_cons, mem_runS, or_assoc]
def listL (s : List S105) : List Int := s.flatMap runS
theorem mem_listL (s : List S105) (n : Int) : n ∈ listL s ↔ Mem n s := by
  unfold listL Mem
  rw [List.mem_flatMap]
  exact ⟨fun ⟨x, h1, h2⟩ => ⟨x, h1, (mem_runS x n).1 h2⟩, fun ⟨x, h1, h2⟩ => ⟨x, h1, (mem_runS x n).2 h2⟩⟩
theorem rise_listL : ∀ {s : List S105}, Norm s → Rise (listL s)
  | [], _ => rise_nil
  | x :: s, h => by
    unfold listL
    rw [List.flatMap_cons]
    refine List.pairwise_append.2 ⟨rise_run _ _, rise_listL (norm_tail h), fun a ha b hb => ?_⟩
    have h1 := (mem_runS x a).1 ha
    have h2 := norm_lt h b ((mem_listL s b).1 hb)
    omega
theorem list_eq {s : List S105} {l : List Int} (hs : Norm s) (hl : Rise l) (h : ∀ n, n ∈ l ↔ Mem n s) : listL s = l :=
  rise_ext (rise_listL hs) hl (fun n => by rw [mem_listL, h])
def endsL (s : List S105) : List Int := s.flatMap (fun x => [x.f0, x.f1])
def spStep (prev : Option Int) (out : List Int) (x : Int) : List Int :=
  if prev = some (x - 1) then out.dropLast ++ [x + 1] else out ++ [x, x + 1]
def spansF : Option Int → List Int → List Int → List Int
  | _, out, [] => out
  | prev, out, x :: l => spansF (some x) (spStep prev out x) l
theorem spans_run : ∀ (m : Nat) (a : Int) (out rest : List Int), spansF (some (a - 1)) (out ++ [a]) (run a m ++ rest) = spansF (some (a + m - 1)) (out ++ [a + m]) rest
  | 0, a, out, rest => by simp [run]
  | m + 1, a, out, rest => by
    rw [run, List.cons_append, spansF]
    have e : spStep (some (a - 1)) (out ++ [a]) a = out ++ [a + 1] := by simp [spStep]
    have := spans_run m (a + 1) out rest
    rw [show a + 1 - 1 = a by omega] at this
    rw [e, this]
    congr 3 <;> omega
theorem spans_list : ∀ (s : List S105) (prev : Option Int) (out : List Int), Norm s → (∀ x ∈ s, ∀ p, prev = some p → p + 1 < x.f0) → spansF prev out (listL s) = out ++ endsL s
  | [], prev, out, _, _ => by simp [listL, endsL, spansF]
  | x :: s, prev, out, hn, hp => by
    have hx := hn.1 x List.mem_cons_self
    have e : listL (x :: s) = x.f0 :: (run (x.f0 + 1) (x.f1 - x.f0 - 1).toNat ++ listL s) := by
      unfold listL
      rw [List.flatMap_cons, runS, show (x.f1 - x.f0).toNat = (x.f1 - x.f0 - 1).toNat + 1 by omega, run, List.cons_append]
    rw [e, spansF]
    have e1 : spStep prev out x.f0 = out ++ [x.f0] ++ [x.f0 + 1] := by
      unfold spStep
      rw [if_neg]
      · simp
      · intro h
        have := hp x List.mem_cons_self _ h
        omega
    have e2 := spans_run (x.f1 - x.f0 - 1).toNat (x.f0 + 1) (out ++ [x.f0]) (listL s)
    rw [show x.f0 + 1 - 1 = x.f0 by omega, show x.f0 + 1 + ((x.f1 - x.f0 - 1).toNat : Int) = x.f1 by omega] at e2
    rw [e1, e2, spans_list s _ _ (norm_tail hn)]
    · simp [endsL]
    · intro y hy p hpe
      injection hpe with hpe
      have := (List.pairwise_cons.1 hn.2).1 y hy
      omega
def lenL (s : List S105) : Int := (s.map fun x => x.f1 - x.f0).sum
theorem lenL_eq : ∀ {s : List S105}, Norm s → lenL s = ((listL s).length : Int)
  | [], _ => rfl
  | x :: s, h => by
    have hx := h.1 x List.mem_cons_self
    have := lenL_eq (norm_tail h)
    unfold lenL listL at *
    rw [List.map_cons, List.sum_cons, List.flatMap_cons, List.length_append, runS, len_run, this]
    omega
theorem norm_len {s : List S105} (h : Norm s) : s.length ≤ (listL s).length := by
  induction s with
  | nil => exact Nat.zero_le _
  | cons x s ih =>
    have hx := h.1 x List.mem_cons_self
    have := ih (norm_tail h)
    unfold listL at *
    rw [List.flatMap_cons, List.length_append, runS, len_run, List.length_cons]
    omega
end Go.Proofs.Ytiiljdglbfgdbaa.SpanTh
/-! What the printed functions of layer 3, of its document and of its laws come to: the theory's words. -/
namespace Go.Proofs.Ytiiljdglbfgdbaa.SpanEv
open Go.RowKit Go.Proofs.Ytiiljdglbfgdbaa.S Go.Proofs.YtiiljdglbfgdbaaW.PrintWords Go.Proofs.YtiiljdglbfgdbaaW.PrintMore Go.Proofs.Ytiiljdglbfgdbaa.SpanTh
theorem mx_eq (a b : Int) : mx a b = max a b := by unfold mx; omega
theorem mn_eq (a b : Int) : mn a b = min a b := by unfold mn; omega
theorem w1 {i : Nat} (h : i < 4611686018427387904) : wrap64 ((i : Int) + 1) = ((i + 1 : Nat) : Int) := by unfold wrap64; omega
theorem rd_at (l : List (S105)) (i : Nat) (h : i < l.length) : rd_T105 l (i : Int) = l[i] := by
  unfold rd_T105
  rw [Int.toNat_natCast]
  simp [h]
theorem near_eq (x : S105) : span_Span_near.f x.f0 x.f1 = some ((nearL x).f0, (nearL x).f1) := by
  unfold span_Span_near.f nearL mostL
  rw [mx_eq, mn_eq, mx_eq, mn_eq]
  rfl
theorem sort_spec (l : List (S105)) (h : l.length < 4611686018427387904) : ∃ d, span_Span.f l = some d ∧ d.Perm l ∧ d.Pairwise fun a b => a.f0 ≤ b.f0 := by
  unfold span_Span.f
  rw [if_pos h]
  have hps := Go.Sort.pdq_sorts (ltOf span_Span.cf) span_Span.swo (l.map span_Span.pr).toArray 0 l.length (Lib.bitLen l.length) true true (Nat.zero_le _) (by simp) (Or.inl rfl)
  generalize Go.Sort.pdq (ltOf span_Span.cf) (l.map span_Span.pr).toArray 0 l.length (Lib.bitLen l.length) true true = d at hps
  obtain ⟨⟨hsz, _, hperm⟩, hsorted⟩ := hps
  have hn : d.size = l.length := by rw [hsz]; simp
  have e1 : (d.extract 0 l.length).toList = d.toList := by rw [← hn]; simp
  have e2 : (((l.map span_Span.pr).toArray).extract 0 l.length).toList = l.map span_Span.pr := by simp [List.take_of_length_le]
  rw [e1, e2] at hperm
  refine ⟨_, rfl, ?_, ?_⟩
  · have h2 := hperm.map span_Span.un
    rw [List.map_map] at h2
    have e3 : l.map (span_Span.un ∘ span_Span.pr) = l := by
      conv => rhs; rw [← List.map_id l]
      exact List.map_congr_left (fun x _ => rfl)
    rwa [e3] at h2
  · rw [List.pairwise_map, List.pairwise_iff_getElem]
    intro i j hi hj hij
    have h3 := hsorted i j (Nat.zero_le _) hij (by rw [Array.length_toList] at hj; omega)
    rw [span_Span.lt] at h3
    rw [Array.length_toList] at hi hj
    rw [getElem!_pos d i (by omega), getElem!_pos d j (by omega)] at h3
    simp only [decide_eq_false_iff_not] at h3
    show (d.toList[i]).1 ≤ (d.toList[j]).1
    simp only [Array.getElem_toList]
    omega
theorem of_l1 (d : List (S105)) (hd : d.length < 1099511627776) : ∀ (m j : Nat) (out : List (S105)), d.length - j = m → j ≤ d.length → out.length ≤ j → Ev (fun k => span_Of.l1 k out d (d.length : Int) (j : Int)) ((d.drop j).foldl push out) := by
  intro m
  induction m with
  | zero =>
    intro j out hm hj ho
    obtain rfl : j = d.length := by omega
    refine Ev.step (f := fun _ => some out) (fun k => ?_) (by rw [List.drop_length]; exact Ev.now _)
    rw [span_Of.l1, if_neg (by omega)]
  | succ m ih =>
    intro j out hm hj ho
    have hlt : j < d.length := by omega
    rw [List.drop_eq_getElem_cons hlt, List.foldl_cons]
    have hr := rd_at d j hlt
    have hw := w1 (i := j) (by omega)
    have hpl : (push out d[j]).length ≤ j + 1 := by
      rcases List.eq_nil_or_concat out with rfl | ⟨o, y, rfl⟩
      · rw [push_nil]; simp
      · rw [List.concat_eq_append] at *
        rw [push_snoc]
        split <;> simp at * <;> omega
    have hi := ih (j + 1) (push out d[j]) (by omega) (by omega) hpl
    refine Ev.step (fun k => ?_) hi
    rw [span_Of.l1, if_pos (by omega), if_pos (by omega), if_pos (by omega), hr, hw]
    rcases List.eq_nil_or_concat out with rfl | ⟨o, y, rfl⟩
    · have e : wrap64 ((([] : List (S105)).length : Int) - 1) = -1 := by simp only [List.length_nil, wrap64]; decide
      rw [e, if_neg (by omega), if_pos (by simp), push_nil]
      rfl
    · rw [List.concat_eq_append] at *
      have e : wrap64 (((o ++ [y]).length : Int) - 1) = (o.length : Int) := by
        rw [List.length_append, List.length_singleton]
        simp only [List.length_append, List.length_singleton] at ho
        unfold wrap64
        omega
      have ho2 : o.length + 1 ≤ j := by simpa using ho
      have e2 : rd_T105 (o ++ [y]) (o.length : Int) = y := by rw [rd_at _ _ (by simp)]; simp
      rw [e, if_pos (by omega), if_pos (by omega), if_pos (by simp; omega), e2, push_snoc]
      by_cases hc : d[j].f0 ≤ y.f1
      · rw [if_pos hc, if_pos hc, Int.toNat_natCast, mx_eq]
        congr 1
        simp
      · rw [if_neg hc, if_neg hc, if_pos (by simp; omega)]
theorem of_l0 (l : List (S105)) (hl : l.length < 1099511627776) : ∀ (m i : Nat) (x3 : List (S105)), l.length - i = m → i ≤ l.length → x3.length ≤ i → (∀ x ∈ x3, x.f0 < x.f1) → Ev (fun k => span_Of.l0 k x3 l (l.length : Int) (i : Int)) (ofG (x3 ++ keptL (l.drop i))) := by
  intro m
  induction m with
  | zero =>
    intro i x3 hm hi hx hne
    obtain rfl : i = l.length := by omega
    rw [List.drop_length, show keptL [] = [] from rfl, List.append_nil]
    obtain ⟨d, h1, h2, h3⟩ := sort_spec x3 (by omega)
    have hd := of_l1 d (by rw [h2.length_eq]; omega) d.length 0 [] rfl (Nat.zero_le _) (Nat.le_refl _)
    rw [List.drop_zero, ofG_eq hne h2 h3] at hd
    refine Ev.step (fun k => ?_) hd
    rw [span_Of.l0, if_neg (by omega), h1, Option.bind_some, h2.length_eq]
    rfl
  | succ m ih =>
    intro i x3 hm hi hx hne
    have hlt : i < l.length := by omega
    have hr := rd_at l i hlt
    have hw := w1 (i := i) (by omega)
    rw [List.drop_eq_getElem_cons hlt, kept_cons]
    by_cases hc : (nearL l[i]).f0 < (nearL l[i]).f1
    · rw [if_pos hc, show x3 ++ nearL l[i] :: keptL (l.drop (i + 1)) = (x3 ++ [nearL l[i]]) ++ keptL (l.drop (i + 1)) by simp]
      refine Ev.step (fun k => ?_) (ih (i + 1) (x3 ++ [nearL l[i]]) (by omega) (by omega) (by simp; omega) (fun x hx => ?_))
      · rw [span_Of.l0, if_pos (by omega), if_pos (by omega), if_pos (by omega), hr, near_eq, Option.bind_some]
        simp only [span_Span_empty.f, Option.bind_some]
        rw [if_neg (by simp; omega), if_pos (by omega), hw]
      · rcases List.mem_append.1 hx with h | h
        · exact hne x h
        · rw [List.mem_singleton] at h; subst h; exact hc
    · rw [if_neg hc]
      refine Ev.step (fun k => ?_) (ih (i + 1) x3 (by omega) (by omega) (by omega) hne)
      rw [span_Of.l0, if_pos (by omega), if_pos (by omega), if_pos (by omega), hr, near_eq, Option.bind_some]
      simp only [span_Span_empty.f, Option.bind_some]
      rw [if_pos (by simp; omega), hw]
/-- span.Of. -/
theorem of_ev (l : List (S105)) (hl : l.length < 1099511627776) : Ev (fun k => span_Of.f k l) (ofL l) := by
  have h := of_l0 l hl l.length 0 [] rfl (Nat.zero_le _) (Nat.le_refl _) (fun _ h => by cases h)
  rw [List.drop_zero, List.nil_append, ofG_kept] at h
  exact h
end Go.Proofs.Ytiiljdglbfgdbaa.SpanEv
namespace Go.Proofs.Ytiiljdglbfgdbaa.SpanEv
open Go.RowKit Go.Proofs.Ytiiljdglbfgdbaa.S Go.Proofs.YtiiljdglbfgdbaaW.PrintWords Go.Proofs.YtiiljdglbfgdbaaW.PrintMore Go.Proofs.Ytiiljdglbfgdbaa.SpanTh
theorem wid {x : Int} (h0 : -9223372036854775808 ≤ x) (h1 : x ≤ 9223372036854775807) : wrap64 x = x := by unfold wrap64; omega
end Go.Proofs.Ytiiljdglbfgdbaa.SpanEv
namespace Go.Proofs.Ytiiljdglbfgdbaa.SpanEv
open Go.RowKit Go.Proofs.Ytiiljdglbfgdbaa.S Go.Proofs.YtiiljdglbfgdbaaW.PrintWords Go.Proofs.YtiiljdglbfgdbaaW.PrintMore Go.Proofs.Ytiiljdglbfgdbaa.SpanTh
end Go.Proofs.Ytiiljdglbfgdbaa.SpanEv
namespace Go.Proofs.Ytiiljdglbfgdbaa.SpanEv
open Go.RowKit Go.Proofs.Ytiiljdglbfgdbaa.S Go.Proofs.YtiiljdglbfgdbaaW.PrintWords Go.Proofs.YtiiljdglbfgdbaaW.PrintMore Go.Proofs.Ytiiljdglbfgdbaa.SpanTh
theorem mem_one (n : Int) (x : S105) : Mem n [x] ↔ x.f0 ≤ n ∧ n < x.f1 := by rw [mem_cons]; simp [mem_nil]
theorem small_one {few : List (S105)} (hf : Small few) {x : S105} (hx : x ∈ few) : Small [x] := fun y hy => by rw [List.mem_singleton] at hy; subst hy; exact hf _ hx
theorem small_append {s t : List (S105)} (hs : Small s) (ht : Small t) : Small (s ++ t) := fun x hx => (List.mem_append.1 hx).elim (hs x) (ht x)
end Go.Proofs.Ytiiljdglbfgdbaa.SpanEv
namespace Go.Proofs.Ytiiljdglbfgdbaa.SpanEv
open Go.RowKit Go.Proofs.Ytiiljdglbfgdbaa.S Go.Proofs.YtiiljdglbfgdbaaW.PrintWords Go.Proofs.YtiiljdglbfgdbaaW.PrintMore Go.Proofs.Ytiiljdglbfgdbaa.SpanTh
def meetL (x y : S105) : S105 := ⟨max x.f0 y.f0, min x.f1 y.f1⟩
def meets (s t : List (S105)) : List (S105) := s.flatMap fun x => t.map (meetL x)
theorem both_l1 (t s : List (S105)) (i : Int) (x : S105) (v : List (S105)) (ht : t.length < 1099511627776) : ∀ (m j : Nat) (out : List (S105)), t.length - j = m → j ≤ t.length → out.length + m < 8796093022208 →
    Ev (fun k => span_Set_Both.l0 k t (out ++ (t.drop j).map (meetL x)) s (s.length : Int) (wrap64 (i + 1))) v → Ev (fun k => span_Set_Both.l1 k t out s (s.length : Int) i t (t.length : Int) (j : Int) x.f0 x.f1) v := by
  intro m
  induction m with
  | zero =>
    intro j out hm hj ho he
    obtain rfl : j = t.length := by omega
    rw [List.drop_length, List.map_nil, List.append_nil] at he
    refine Ev.step (fun k => ?_) he
    rw [span_Set_Both.l1, if_neg (by omega)]
  | succ m ih =>
    intro j out hm hj ho he
    have hlt : j < t.length := by omega
    have hr := rd_at t j hlt
    have hw := w1 (i := j) (by omega)
    rw [List.drop_eq_getElem_cons hlt, List.map_cons, show out ++ meetL x t[j] :: (t.drop (j + 1)).map (meetL x) = out ++ [meetL x t[j]] ++ (t.drop (j + 1)).map (meetL x) by simp] at he
    refine Ev.step (fun k => ?_) (ih (j + 1) (out ++ [meetL x t[j]]) (by omega) (by omega) (by simp; omega) he)
    rw [span_Set_Both.l1, if_pos (by omega), if_pos (by omega), if_pos (by omega), if_pos (by omega), hr, mx_eq, mn_eq, hw]
    rfl
theorem both_l0 (s t : List (S105)) (hs : s.length < 1099511627776) (ht : t.length < 1099511627776) (hb : s.length * t.length < 1099511627776) : ∀ (m i : Nat) (out : List (S105)), s.length - i = m → i ≤ s.length → out.length = i * t.length →
    Ev (fun k => span_Set_Both.l0 k t out s (s.length : Int) (i : Int)) (ofL (out ++ meets (s.drop i) t)) := by
  intro m
  induction m with
  | zero =>
    intro i out hm hi ho
    obtain rfl : i = s.length := by omega
    rw [List.drop_length, show meets [] t = [] from rfl, List.append_nil]
    refine Ev.step (f := fun k => (span_Of.f k out).bind fun t => some t) (fun k => ?_) (Ev.bind (of_ev out (by omega)) (Ev.now _))
    rw [span_Set_Both.l0, if_neg (by omega)]
  | succ m ih =>
    intro i out hm hi ho
    have hlt : i < s.length := by omega
    have hr := rd_at s i hlt
    have hw := w1 (i := i) (by omega)
    have hmul : (i + 1) * t.length ≤ s.length * t.length := Nat.mul_le_mul_right _ hlt
    rw [Nat.succ_mul] at hmul
    have e : meets (s.drop i) t = t.map (meetL s[i]) ++ meets (s.drop (i + 1)) t := by rw [List.drop_eq_getElem_cons hlt]; rfl
    rw [e, ← List.append_assoc]
    refine Ev.step (fun k => ?_) (both_l1 t s (i : Int) s[i] _ ht t.length 0 out rfl (Nat.zero_le _) (by omega) (by rw [hw, List.drop_zero]; exact ih (i + 1) _ (by omega) (by omega) (by rw [List.length_append, List.length_map, ho, Nat.succ_mul])))
    rw [span_Set_Both.l0, if_pos (by omega), if_pos (by omega), if_pos (by omega), hr]
    rfl
theorem both_ev (s t : List (S105)) (hs : s.length < 1099511627776) (ht : t.length < 1099511627776) (hb : s.length * t.length < 1099511627776) : Ev (fun k => span_Set_Both.f k s t) (ofL (meets s t)) := by
  have := both_l0 s t hs ht hb s.length 0 [] rfl (Nat.zero_le _) (by simp)
  rwa [List.drop_zero, List.nil_append] at this
theorem mem_meets (s t : List (S105)) (n : Int) : Mem n (meets s t) ↔ Mem n s ∧ Mem n t := by
  constructor
  · rintro ⟨x, hx, h0, h1⟩
    obtain ⟨a, ha, hx⟩ := List.mem_flatMap.1 hx
    obtain ⟨b, hb, rfl⟩ := List.mem_map.1 hx
    simp only [meetL] at h0 h1
    exact ⟨⟨a, ha, by omega, by omega⟩, ⟨b, hb, by omega, by omega⟩⟩
  · rintro ⟨⟨a, ha, h0, h1⟩, ⟨b, hb, h2, h3⟩⟩
    exact ⟨meetL a b, List.mem_flatMap.2 ⟨a, ha, List.mem_map.2 ⟨b, hb, rfl⟩⟩, by simp only [meetL]; omega, by simp only [meetL]; omega⟩
theorem small_meets {s t : List (S105)} (hs : Small s) (ht : Small t) : Small (meets s t) := by
  intro x hx
  obtain ⟨a, ha, hx⟩ := List.mem_flatMap.1 hx
  obtain ⟨b, hb, rfl⟩ := List.mem_map.1 hx
  have := hs a ha
  have := ht b hb
  simp only [meetL]
  omega
/-- Both of two sets: normal, small, and what is in both. -/
theorem both_spec {s t : List (S105)} (hs : Small s) (ht : Small t) : Norm (ofL (meets s t)) ∧ Small (ofL (meets s t)) ∧ ∀ n, Mem n (ofL (meets s t)) ↔ Mem n s ∧ Mem n t :=
  ⟨(ofL_spec _).1, ofL_small _, fun n => by rw [ofL_mem (small_meets hs ht), mem_meets]⟩
end Go.Proofs.Ytiiljdglbfgdbaa.SpanEv
/-! Add and Drop of layer 3. -/
namespace Go.Proofs.Ytiiljdglbfgdbaa.SpanEv
open Go.RowKit Go.Proofs.Ytiiljdglbfgdbaa.S Go.Proofs.YtiiljdglbfgdbaaW.PrintWords Go.Proofs.YtiiljdglbfgdbaaW.PrintMore Go.Proofs.Ytiiljdglbfgdbaa.SpanTh
def full (x : S105) : Bool := decide (x.f0 < x.f1)
def parts (X y : S105) : List (S105) := [⟨y.f0, min y.f1 X.f0⟩, ⟨max y.f0 X.f1, y.f1⟩]
def dropsL (s : List (S105)) (X : S105) : List (S105) := s.flatMap fun y => (parts X y).filter full
def dropR (s : List (S105)) (x : S105) : List (S105) := if (nearL x).f0 < (nearL x).f1 then ofL (dropsL s (nearL x)) else ofL s
theorem drop_l1 (s p : List (S105)) (i : Int) (X : S105) (v : List (S105)) (hp : p.length < 1000) : ∀ (m j : Nat) (out : List (S105)), p.length - j = m → j ≤ p.length → out.length + m < 1099511627776 →
    Ev (fun k => span_Set_Drop.l0 k (out ++ (p.drop j).filter full) s (s.length : Int) (wrap64 (i + 1)) X.f0 X.f1) v → Ev (fun k => span_Set_Drop.l1 k out s (s.length : Int) i p (p.length : Int) (j : Int) X.f0 X.f1) v := by
  intro m
  induction m with
  | zero =>
    intro j out hm hj ho he
    obtain rfl : j = p.length := by omega
    rw [List.drop_length, List.filter_nil, List.append_nil] at he
    refine Ev.step (fun k => ?_) he
    rw [span_Set_Drop.l1, if_neg (by omega)]
  | succ m ih =>
    intro j out hm hj ho he
    have hlt : j < p.length := by omega
    have hr := rd_at p j hlt
    have hw := w1 (i := j) (by omega)
    rw [List.drop_eq_getElem_cons hlt, List.filter_cons] at he
    by_cases hc : p[j].f0 < p[j].f1
    · rw [if_pos (by simpa [full] using hc), show out ++ p[j] :: (p.drop (j + 1)).filter full = out ++ [p[j]] ++ (p.drop (j + 1)).filter full by simp] at he
      refine Ev.step (fun k => ?_) (ih (j + 1) (out ++ [p[j]]) (by omega) (by omega) (by simp; omega) he)
      rw [span_Set_Drop.l1, if_pos (by omega), if_pos (by omega), if_pos (by omega), hr]
      simp only [span_Span_empty.f, Option.bind_some]
      rw [if_neg (by simp; omega), if_pos (by omega), hw]
    · rw [if_neg (by simpa [full] using hc)] at he
      refine Ev.step (fun k => ?_) (ih (j + 1) out (by omega) (by omega) (by omega) he)
      rw [span_Set_Drop.l1, if_pos (by omega), if_pos (by omega), if_pos (by omega), hr]
      simp only [span_Span_empty.f, Option.bind_some]
      rw [if_pos (by simp; omega), hw]
theorem drop_l0 (s : List (S105)) (X : S105) (hs : s.length < 1000000000) : ∀ (m i : Nat) (out : List (S105)), s.length - i = m → i ≤ s.length → out.length ≤ 2 * i →
    Ev (fun k => span_Set_Drop.l0 k out s (s.length : Int) (i : Int) X.f0 X.f1) (ofL (out ++ dropsL (s.drop i) X)) := by
  intro m
  induction m with
  | zero =>
    intro i out hm hi ho
    obtain rfl : i = s.length := by omega
    rw [List.drop_length, show dropsL [] X = [] from rfl, List.append_nil]
    refine Ev.step (f := fun k => (span_Of.f k out).bind fun t => some t) (fun k => ?_) (Ev.bind (of_ev out (by omega)) (Ev.now _))
    rw [span_Set_Drop.l0, if_neg (by omega)]
  | succ m ih =>
    intro i out hm hi ho
    have hlt : i < s.length := by omega
    have hr := rd_at s i hlt
    have hw := w1 (i := i) (by omega)
    have e : dropsL (s.drop i) X = (parts X s[i]).filter full ++ dropsL (s.drop (i + 1)) X := by rw [List.drop_eq_getElem_cons hlt]; rfl
    have hfl : ((parts X s[i]).filter full).length ≤ 2 := List.length_filter_le full _
    rw [e, ← List.append_assoc]
    refine Ev.step (fun k => ?_) (drop_l1 s (parts X s[i]) (i : Int) X _ (by show 2 < 1000; omega) 2 0 out rfl (Nat.zero_le _) (by omega) (by rw [hw, List.drop_zero]; exact ih (i + 1) _ (by omega) (by omega) (by rw [List.length_append]; omega)))
    rw [span_Set_Drop.l0, if_pos (by omega), if_pos (by omega), if_pos (by omega), hr, Option.bind_some, mn_eq, mx_eq]
    rfl
theorem drop_ev (s : List (S105)) (x : S105) (hs : s.length < 1000000000) : Ev (fun k => span_Set_Drop.f k s x.f0 x.f1) (dropR s x) := by
  unfold span_Set_Drop.f dropR
  simp only [near_eq, Option.bind_some, span_Span_empty.f]
  by_cases hc : (nearL x).f0 < (nearL x).f1
  · rw [if_pos hc]
    have hd : decide ((nearL x).f1 ≤ (nearL x).f0) = false := by rw [decide_eq_false_iff_not]; omega
    simp only [hd, Bool.false_eq_true, if_false]
    have := drop_l0 s (nearL x) hs s.length 0 [] rfl (Nat.zero_le _) (Nat.le_refl _)
    rwa [List.drop_zero, List.nil_append] at this
  · rw [if_neg hc]
    have hd : decide ((nearL x).f1 ≤ (nearL x).f0) = true := by rw [decide_eq_true_iff]; omega
    simp only [hd, if_true]
    exact Ev.bind (of_ev s (by omega)) (Ev.now _)
theorem mem_drops (s : List (S105)) (X : S105) (n : Int) : Mem n (dropsL s X) ↔ Mem n s ∧ ¬ (X.f0 ≤ n ∧ n < X.f1) := by
  constructor
  · rintro ⟨z, hz, h0, h1⟩
    obtain ⟨y, hy, hz⟩ := List.mem_flatMap.1 hz
    have hz := (List.mem_filter.1 hz).1
    simp only [parts, List.mem_cons, List.not_mem_nil, or_false] at hz
    rcases hz with rfl | rfl
    · simp only at h0 h1
      exact ⟨⟨y, hy, by omega, by omega⟩, by omega⟩
    · simp only at h0 h1
      exact ⟨⟨y, hy, by omega, by omega⟩, by omega⟩
  · rintro ⟨⟨y, hy, h0, h1⟩, h2⟩
    by_cases hc : n < X.f0
    · exact ⟨⟨y.f0, min y.f1 X.f0⟩, List.mem_flatMap.2 ⟨y, hy, List.mem_filter.2 ⟨by simp [parts], by simp only [full, decide_eq_true_iff]; omega⟩⟩, by simp only; omega, by simp only; omega⟩
    · exact ⟨⟨max y.f0 X.f1, y.f1⟩, List.mem_flatMap.2 ⟨y, hy, List.mem_filter.2 ⟨by simp [parts], by simp only [full, decide_eq_true_iff]; omega⟩⟩, by simp only; omega, by simp only; omega⟩
theorem small_drops {s : List (S105)} (hs : Small s) (x : S105) : Small (dropsL s (nearL x)) := by
  intro z hz
  obtain ⟨y, hy, hz⟩ := List.mem_flatMap.1 hz
  have hfull := (List.mem_filter.1 hz).2
  simp only [full, decide_eq_true_iff] at hfull
  have hz := (List.mem_filter.1 hz).1
  have hys := hs y hy
  unfold mostL at *
  simp only [parts, List.mem_cons, List.not_mem_nil, or_false] at hz
  rcases hz with rfl | rfl <;> simp only [nearL, mostL] at * <;> omega
/-- Without a span: what was there and is none of its. -/
theorem drop_spec {s : List (S105)} (hs : Small s) (x : S105) : Norm (dropR s x) ∧ Small (dropR s x) ∧ ∀ n, Mem n (dropR s x) ↔ Mem n s ∧ ¬ ((nearL x).f0 ≤ n ∧ n < (nearL x).f1) := by
  unfold dropR
  split
  · exact ⟨(ofL_spec _).1, ofL_small _, fun n => by rw [ofL_mem (small_drops hs x), mem_drops _ _]⟩
  · refine ⟨(ofL_spec _).1, ofL_small _, fun n => ?_⟩
    rw [ofL_mem hs]
    constructor
    · intro h; exact ⟨h, by omega⟩
    · exact And.left
end Go.Proofs.Ytiiljdglbfgdbaa.SpanEv
/-! The pairs of a set, counted from a base on, round about; and what layer 9's functions come to. -/
namespace Go.Proofs.Ytiiljdglbfgdbaa.SpanTh
open Go.Proofs.Ytiiljdglbfgdbaa.S
def gM (b n : Int) : Int := (b + n) % 16777216
def pairsOf (b : Int) (s : List S105) : List Int := s.flatMap fun x => [gM b x.f0, gM b x.f1]
theorem gM_range (b n : Int) : 0 ≤ gM b n ∧ gM b n < 16777216 := by unfold gM; omega
theorem gM_to (b x y : Int) : (gM b y - gM b x) % 16777216 = (y - x) % 16777216 := by unfold gM; omega
theorem gM_to0 (b y : Int) : (gM b y - b) % 16777216 = y % 16777216 := by unfold gM; omega
theorem gM_add (b x n : Int) : gM (gM b x) n = gM b (x + n) := by unfold gM; omega
theorem gM_move (b x n : Int) : gM (gM b x) n = gM (gM b n) x := by unfold gM; omega
def half : Int := 8388608
/-- Within the half that counts. -/
def Mid (c : List S105) : Prop := ∀ x ∈ c, 0 ≤ x.f0 ∧ x.f0 < x.f1 ∧ x.f1 ≤ 8388609
theorem norm_mid {c : List S105} (h : Norm c) (hm : ∀ n, Mem n c → 0 ≤ n ∧ n < 8388609) : Mid c := by
  intro x hx
  have h0 := h.1 x hx
  have h1 := hm x.f0 ⟨x, hx, Int.le_refl _, h0⟩
  have h2 := hm (x.f1 - 1) ⟨x, hx, by omega, by omega⟩
  omega
end Go.Proofs.Ytiiljdglbfgdbaa.SpanTh
namespace Go.Proofs.Ytiiljdglbfgdbaa.SpanEv
open Go.RowKit Go.Proofs.Ytiiljdglbfgdbaa.S Go.Proofs.YtiiljdglbfgdbaaW.PrintWords Go.Proofs.YtiiljdglbfgdbaaW.PrintMore Go.Proofs.Ytiiljdglbfgdbaa.SpanTh Go.Proofs.Ytiiljdglbfgdbaa.Bits
theorem widG {x : Int} (h0 : -9223372036854775808 ≤ x) (h1 : x ≤ 9223372036854775807) : wrap64 x = x := by unfold wrap64; omega
theorem low_eq (a : Int) : seq_Num_Low.f a = some (a % 16777216) := by
  unfold seq_Num_Low.f
  rw [and_u32_mask]
theorem seqof_eq (a : Int) : seq_Of.f a = some (a % 16777216) := by
  unfold seq_Of.f
  rw [and_u32_mask]
  congr 1
  omega
theorem add_eq (a i : Int) : seq_Num_Add.f a i = some (gM a i) := by
  unfold seq_Num_Add.f
  rw [low_eq, Option.bind_some, and_i64_mask, seqof_eq, Option.bind_some]
  congr 1
  have e1 : wrap64 (a % 16777216) = a % 16777216 := widG (by omega) (by omega)
  rw [e1, widG (by omega) (by omega)]
  unfold gM
  omega
theorem to_eq (a b : Int) : seq_Num_To.f a b = some ((b - a) % 16777216) := by
  unfold seq_Num_To.f
  rw [and_u32_mask, widG (by omega) (by omega)]
  congr 1
  omega
def cutH (s : List (S105)) : List (S105) := ofL (meets s [⟨0, 8388609⟩])
theorem whole_norm : Norm [(⟨0, 8388609⟩ : S105)] ∧ Small [(⟨0, 8388609⟩ : S105)] := by
  refine ⟨⟨fun x hx => ?_, by simp⟩, fun x hx => ?_⟩
  · rw [List.mem_singleton] at hx; subst hx; decide
  · rw [List.mem_singleton] at hx; subst hx; decide
theorem cutH_spec {s : List (S105)} (hs : Small s) : Norm (cutH s) ∧ Small (cutH s) ∧ (∀ n, Mem n (cutH s) ↔ Mem n s ∧ 0 ≤ n ∧ n < 8388609) ∧ Mid (cutH s) := by
  obtain ⟨a, b, c⟩ := both_spec hs whole_norm.2
  have c' : ∀ n, Mem n (cutH s) ↔ Mem n s ∧ 0 ≤ n ∧ n < 8388609 := fun n => by rw [show cutH s = ofL (meets s [⟨0, 8388609⟩]) from rfl, c, mem_cons]; simp [mem_nil]
  exact ⟨a, b, c', norm_mid a (fun n hn => ((c' n).1 hn).2)⟩
theorem glist_l0 (b : Int) (c : List (S105)) (hl : c.length < 1099511627776) : ∀ (m i : Nat) (out : List Int), c.length - i = m → i ≤ c.length → out.length = 2 * i →
    Ev (fun k => gaps_List.l0 k b out c (c.length : Int) (i : Int)) (out ++ pairsOf b (c.drop i)) := by
  intro m
  induction m with
  | zero =>
    intro i out hm hi ho
    obtain rfl : i = c.length := by omega
    refine Ev.step (f := fun _ => some out) (fun k => ?_) (by rw [List.drop_length, show pairsOf b [] = [] from rfl, List.append_nil]; exact Ev.now _)
    rw [gaps_List.l0, if_neg (by omega)]
  | succ m ih =>
    intro i out hm hi ho
    have hlt : i < c.length := by omega
    have hr := rd_at c i hlt
    have hw := w1 (i := i) (by omega)
    have e : pairsOf b (c.drop i) = [gM b c[i].f0, gM b c[i].f1] ++ pairsOf b (c.drop (i + 1)) := by rw [List.drop_eq_getElem_cons hlt]; rfl
    rw [e, ← List.append_assoc]
    refine Ev.step (fun k => ?_) (ih (i + 1) (out ++ [gM b c[i].f0, gM b c[i].f1]) (by omega) (by omega) (by simp; omega))
    rw [gaps_List.l0, if_pos (by omega), if_pos (by omega), if_pos (by omega), hr, add_eq, Option.bind_some, add_eq, Option.bind_some, Option.bind_some, if_pos (by simp; omega), hw]
theorem cutH_len {s : List (S105)} (hs : s.length < 1000000) : (cutH s).length ≤ s.length := by
  have fl : ∀ (l o : List (S105)), (l.foldl push o).length ≤ o.length + l.length := by
    intro l
    induction l with
    | nil => intro o; simp
    | cons x l ih =>
      intro o
      rw [List.foldl_cons, List.length_cons]
      have h1 := ih (push o x)
      have h2 : (push o x).length ≤ o.length + 1 := by
        rcases List.eq_nil_or_concat o with rfl | ⟨o, y, rfl⟩
        · rw [push_nil]; simp
        · rw [List.concat_eq_append, push_snoc]
          split <;> simp
      omega
  unfold cutH ofL
  have h1 := fl ((keptL (meets s [⟨0, 8388609⟩])).mergeSort leL) []
  have h2 : (keptL (meets s [⟨0, 8388609⟩])).length ≤ s.length := by
    unfold keptL
    refine Nat.le_trans (List.length_filter_le _ _) ?_
    rw [List.length_map]
    unfold meets
    induction s with
    | nil => exact Nat.le_refl _
    | cons x s ih =>
      rw [List.flatMap_cons, List.length_append, List.length_map, List.length_singleton, List.length_cons]
      have := ih (by simp at hs; omega) (fl _ _)
      omega
  rw [List.length_mergeSort] at h1
  simp only [List.length_nil] at h1
  omega
/-- gaps.List: the pairs of what lies within the half. -/
theorem glist_ev (b : Int) (s : List (S105)) (hs : s.length < 1000000) : Ev (fun k => gaps_List.f k b s) (pairsOf b (cutH s)) := by
  unfold gaps_List.f
  have h1 := of_ev [(⟨0, 8388609⟩ : S105)] (by simp)
  rw [ofL_norm whole_norm.1 whole_norm.2] at h1
  refine Ev.bind h1 ?_
  refine Ev.bind (both_ev s [⟨0, 8388609⟩] (by omega) (by simp) (by simp; omega)) ?_
  have h2 := cutH_len hs
  have := glist_l0 b (cutH s) (by omega) (cutH s).length 0 [] rfl (Nat.zero_le _) (by simp)
  rwa [List.drop_zero, List.nil_append] at this
end Go.Proofs.Ytiiljdglbfgdbaa.SpanEv
namespace Go.Proofs.Ytiiljdglbfgdbaa.SpanEv
open Go.RowKit Go.Proofs.Ytiiljdglbfgdbaa.S Go.Proofs.YtiiljdglbfgdbaaW.PrintWords Go.Proofs.YtiiljdglbfgdbaaW.PrintMore Go.Proofs.Ytiiljdglbfgdbaa.SpanTh Go.Proofs.Ytiiljdglbfgdbaa.Bits
end Go.Proofs.Ytiiljdglbfgdbaa.SpanEv
