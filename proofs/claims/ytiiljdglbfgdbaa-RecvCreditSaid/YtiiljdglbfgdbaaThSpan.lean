/- The plain theory of sets of whole numbers written as spans that rise, with something between any two; rising lists; a set's numbers. No program in sight. -/
import Derived.Test.YtiiljdglbfgdbaaS0
namespace Go.Proofs.Ytiiljdglbfgdbaa.SpanTh
open Go.Proofs.Ytiiljdglbfgdbaa.S

def Mem (n : Int) (s : List S105) : Prop := ∃ x ∈ s, x.f0 ≤ n ∧ n < x.f1
def Norm (s : List S105) : Prop := (∀ x ∈ s, x.f0 < x.f1) ∧ s.Pairwise (fun a b => a.f1 < b.f0)

theorem mem_nil (n : Int) : ¬ Mem n [] := fun ⟨_, h, _⟩ => by cases h
theorem mem_cons (n : Int) (x : S105) (s : List S105) : Mem n (x :: s) ↔ (x.f0 ≤ n ∧ n < x.f1) ∨ Mem n s := by
  constructor
  · rintro ⟨y, hy, h⟩
    rcases List.mem_cons.1 hy with rfl | hy
    · exact .inl h
    · exact .inr ⟨y, hy, h⟩
  · rintro (h | ⟨y, hy, h⟩)
    · exact ⟨x, List.mem_cons_self, h⟩
    · exact ⟨y, List.mem_cons_of_mem _ hy, h⟩
theorem mem_append (n : Int) (s t : List S105) : Mem n (s ++ t) ↔ Mem n s ∨ Mem n t := by
  induction s with
  | nil => simp [mem_nil]
  | cons x s ih => rw [List.cons_append, mem_cons, mem_cons, ih, or_assoc]
theorem mem_perm {s t : List S105} (h : s.Perm t) (n : Int) : Mem n s ↔ Mem n t :=
  ⟨fun ⟨x, hx, h'⟩ => ⟨x, h.mem_iff.1 hx, h'⟩, fun ⟨x, hx, h'⟩ => ⟨x, h.mem_iff.2 hx, h'⟩⟩
theorem norm_nil : Norm [] := ⟨fun _ h => (by cases h), List.Pairwise.nil⟩
theorem norm_tail {x : S105} {s : List S105} (h : Norm (x :: s)) : Norm s :=
  ⟨fun y hy => h.1 y (List.mem_cons_of_mem _ hy), (List.pairwise_cons.1 h.2).2⟩
theorem norm_lt {x : S105} {s : List S105} (h : Norm (x :: s)) (n : Int) (hn : Mem n s) : x.f1 < n := by
  obtain ⟨y, hy, h1, _⟩ := hn
  have := (List.pairwise_cons.1 h.2).1 y hy
  omega
theorem norm_least {x : S105} {s : List S105} (h : Norm (x :: s)) (n : Int) (hn : Mem n (x :: s)) : x.f0 ≤ n := by
  rcases (mem_cons _ _ _).1 hn with h' | h'
  · exact h'.1
  · have := norm_lt h n h'
    have := h.1 x List.mem_cons_self
    omega
theorem norm_head_mem {x : S105} {s : List S105} (h : Norm (x :: s)) : Mem x.f0 (x :: s) :=
  (mem_cons _ _ _).2 (.inl ⟨Int.le_refl _, h.1 x List.mem_cons_self⟩)
theorem norm_end_not {x : S105} {s : List S105} (h : Norm (x :: s)) : ¬ Mem x.f1 (x :: s) := by
  intro hm
  rcases (mem_cons _ _ _).1 hm with h' | h'
  · omega
  · have := norm_lt h _ h'
    omega
theorem norm_end_le {x y : S105} {s t : List S105} (hs : Norm (x :: s)) (h : ∀ n, Mem n (x :: s) ↔ Mem n (y :: t)) (e : x.f0 = y.f0) : y.f1 ≤ x.f1 := by
  have h1 := norm_end_not hs
  rw [h, mem_cons] at h1
  have := hs.1 x List.mem_cons_self
  omega
/-- Two normal sets with the same numbers are one. -/
theorem norm_ext : ∀ {s t : List S105}, Norm s → Norm t → (∀ n, Mem n s ↔ Mem n t) → s = t := by
  intro s
  induction s with
  | nil =>
    intro t _ ht h
    cases t with
    | nil => rfl
    | cons y t => exact absurd ((h _).2 (norm_head_mem ht)) (mem_nil _)
  | cons x s ih =>
    intro t hs ht h
    cases t with
    | nil => exact absurd ((h _).1 (norm_head_mem hs)) (mem_nil _)
    | cons y t =>
      have e0 : x.f0 = y.f0 := by
        have h1 := norm_least hs _ ((h _).2 (norm_head_mem ht))
        have h2 := norm_least ht _ ((h _).1 (norm_head_mem hs))
        omega
      have e1 : x.f1 = y.f1 := by
        have h1 := norm_end_le hs h e0
        have h2 := norm_end_le ht (fun n => (h n).symm) e0.symm
        omega
      have e : x = y := by cases x; cases y; simp_all
      subst e
      have hx := hs.1 x List.mem_cons_self
      rw [ih (norm_tail hs) (norm_tail ht) (fun n => ?_)]
      have hn := h n
      rw [mem_cons, mem_cons] at hn
      have a1 := norm_lt hs n
      have a2 := norm_lt ht n
      constructor
      · intro hm
        rcases hn.1 (.inr hm) with h' | h'
        · have := a1 hm; omega
        · exact h'
      · intro hm
        rcases hn.2 (.inr hm) with h' | h'
        · have := a2 hm; omega
        · exact h'

/-! ### The set of some spans -/
def mostL : Int := 1099511627776
def nearL (x : S105) : S105 := ⟨max (-mostL) (min x.f0 mostL), max (-mostL) (min x.f1 (mostL + 1))⟩
def push (out : List S105) (x : S105) : List S105 :=
  match out.getLast? with
  | some y => if x.f0 ≤ y.f1 then out.dropLast ++ [⟨y.f0, max y.f1 x.f1⟩] else out ++ [x]
  | none => out ++ [x]
theorem push_nil (x : S105) : push [] x = [x] := rfl
theorem push_snoc (o : List S105) (y x : S105) : push (o ++ [y]) x = if x.f0 ≤ y.f1 then o ++ [⟨y.f0, max y.f1 x.f1⟩] else o ++ [y] ++ [x] := by
  unfold push
  simp
theorem norm_snoc {o : List S105} {x : S105} : Norm (o ++ [x]) ↔ Norm o ∧ x.f0 < x.f1 ∧ ∀ y ∈ o, y.f1 < x.f0 := by
  unfold Norm
  rw [List.pairwise_append]
  simp only [List.mem_append, List.mem_singleton, List.pairwise_cons, List.not_mem_nil, false_imp_iff, implies_true, List.Pairwise.nil, and_true, true_and, forall_eq]
  constructor
  · rintro ⟨h1, h2, h3⟩
    exact ⟨⟨fun y hy => h1 y (.inl hy), h2⟩, h1 x (.inr rfl), h3⟩
  · rintro ⟨⟨h1, h2⟩, h3, h4⟩
    exact ⟨fun y hy => hy.elim (h1 y) (fun e => e ▸ h3), h2, h4⟩
theorem push_spec {o : List S105} {x : S105} (ho : Norm o) (hx : x.f0 < x.f1) (hle : ∀ y ∈ o, y.f0 ≤ x.f0) :
    Norm (push o x) ∧ (∀ n, Mem n (push o x) ↔ Mem n o ∨ (x.f0 ≤ n ∧ n < x.f1)) ∧ ∀ y ∈ push o x, y.f0 ≤ x.f0 := by
  rcases List.eq_nil_or_concat o with rfl | ⟨o, y, rfl⟩
  · rw [push_nil]
    refine ⟨⟨fun z hz => ?_, by simp⟩, fun n => ?_, fun z hz => ?_⟩
    · rw [List.mem_singleton] at hz; subst hz; exact hx
    · rw [mem_cons]; simp [mem_nil]
    · rw [List.mem_singleton] at hz; subst hz; exact Int.le_refl _
  · rw [List.concat_eq_append] at *
    rw [push_snoc]
    obtain ⟨h1, h2, h3⟩ := norm_snoc.1 ho
    have hy := hle y (by simp)
    split
    · rename_i hc
      refine ⟨norm_snoc.2 ⟨h1, by simp only; omega, h3⟩, fun n => ?_, fun z hz => ?_⟩
      · rw [mem_append, mem_append, mem_cons, mem_cons]
        simp only [mem_nil, or_false]
        constructor
        · rintro (h | h)
          · exact .inl (.inl h)
          · by_cases hn : n < y.f1
            · exact .inl (.inr ⟨h.1, hn⟩)
            · exact .inr (by omega)
        · rintro ((h | h) | h)
          · exact .inl h
          · exact .inr (by omega)
          · exact .inr (by omega)
      · rcases List.mem_append.1 hz with hz | hz
        · exact hle z (by simp [hz])
        · rw [List.mem_singleton] at hz; subst hz; exact hy
    · rename_i hc
      refine ⟨norm_snoc.2 ⟨ho, hx, fun z hz => ?_⟩, fun n => ?_, fun z hz => ?_⟩
      · rcases List.mem_append.1 hz with hz | hz
        · have := h3 z hz; omega
        · rw [List.mem_singleton] at hz; subst hz; omega
      · rw [mem_append (s := o ++ [y]), mem_cons]; simp only [mem_nil, or_false]
      · rcases List.mem_append.1 hz with hz | hz
        · exact hle z hz
        · rw [List.mem_singleton] at hz; subst hz; exact Int.le_refl _
theorem fold_spec : ∀ (l o : List S105), Norm o → (∀ x ∈ l, x.f0 < x.f1) → l.Pairwise (fun a b => a.f0 ≤ b.f0) → (∀ x ∈ l, ∀ y ∈ o, y.f0 ≤ x.f0) →
    Norm (l.foldl push o) ∧ ∀ n, Mem n (l.foldl push o) ↔ Mem n o ∨ Mem n l := by
  intro l
  induction l with
  | nil => intro o ho _ _ _; exact ⟨ho, fun n => by simp [mem_nil]⟩
  | cons x l ih =>
    intro o ho hl hp hle
    obtain ⟨h1, h2, h3⟩ := push_spec ho (hl x List.mem_cons_self) (hle x List.mem_cons_self)
    obtain ⟨hp1, hp2⟩ := List.pairwise_cons.1 hp
    obtain ⟨a, b⟩ := ih (push o x) h1 (fun y hy => hl y (List.mem_cons_of_mem _ hy)) hp2 (fun y hy z hz => Int.le_trans (h3 z hz) (hp1 y hy))
    refine ⟨a, fun n => ?_⟩
    rw [List.foldl_cons, b, h2, mem_cons, or_assoc]
def keptL (l : List S105) : List S105 := (l.map nearL).filter fun x => decide (x.f0 < x.f1)
def leL (a b : S105) : Bool := decide (a.f0 ≤ b.f0)
def ofL (l : List S105) : List S105 := ((keptL l).mergeSort leL).foldl push []
theorem kept_lt (l : List S105) (x : S105) (h : x ∈ keptL l) : x.f0 < x.f1 := by simpa using (List.mem_filter.1 h).2
theorem sorted_fold {l d : List S105} (hp : d.Perm (keptL l)) (hs : d.Pairwise fun a b => a.f0 ≤ b.f0) : Norm (d.foldl push []) ∧ ∀ n, Mem n (d.foldl push []) ↔ Mem n (keptL l) := by
  obtain ⟨a, b⟩ := fold_spec d [] norm_nil (fun x hx => kept_lt l x (hp.mem_iff.1 hx)) hs (fun _ _ _ h => by cases h)
  exact ⟨a, fun n => by rw [b, mem_perm hp]; simp [mem_nil]⟩
theorem leL_sorted (l : List S105) : (l.mergeSort leL).Pairwise fun a b => a.f0 ≤ b.f0 := by
  have h := List.pairwise_mergeSort (le := leL) (fun a b c h1 h2 => by simp only [leL, decide_eq_true_eq] at *; omega) (fun a b => by simp only [leL, Bool.or_eq_true, decide_eq_true_eq]; omega) l
  exact h.imp (fun h => by simpa [leL] using h)
theorem ofL_spec (l : List S105) : Norm (ofL l) ∧ ∀ n, Mem n (ofL l) ↔ Mem n (keptL l) := sorted_fold (List.mergeSort_perm _ _) (leL_sorted _)
/-- Whatever order the sort gives to what begins at one number: the set is one. -/
theorem ofL_eq {l d : List S105} (hp : d.Perm (keptL l)) (hs : d.Pairwise fun a b => a.f0 ≤ b.f0) : d.foldl push [] = ofL l := by
  obtain ⟨a, b⟩ := sorted_fold hp hs
  obtain ⟨c, d⟩ := ofL_spec l
  exact norm_ext a c (fun n => by rw [b, d])
def ofG (y : List S105) : List S105 := (y.mergeSort leL).foldl push []
theorem ofG_kept (l : List S105) : ofG (keptL l) = ofL l := rfl
theorem ofG_eq {y d : List S105} (hne : ∀ x ∈ y, x.f0 < x.f1) (hp : d.Perm y) (hs : d.Pairwise fun a b => a.f0 ≤ b.f0) : d.foldl push [] = ofG y := by
  obtain ⟨a, b⟩ := fold_spec d [] norm_nil (fun x hx => hne x (hp.mem_iff.1 hx)) hs (fun _ _ _ h => by cases h)
  obtain ⟨a', b'⟩ := fold_spec (y.mergeSort leL) [] norm_nil (fun x hx => hne x ((List.mergeSort_perm _ _).mem_iff.1 hx)) (leL_sorted y) (fun _ _ _ h => by cases h)
  refine norm_ext a a' (fun n => ?_)
  rw [b, mem_perm hp]
  show _ ↔ Mem n ((y.mergeSort leL).foldl push [])
  rw [b', mem_perm (List.mergeSort_perm y leL)]
theorem kept_cons (x : S105) (r : List S105) : keptL (x :: r) = if (nearL x).f0 < (nearL x).f1 then nearL x :: keptL r else keptL r := by
  unfold keptL
  rw [List.map_cons, List.filter_cons]
  by_cases h : (nearL x).f0 < (nearL x).f1
  · rw [if_pos h, if_pos (by simpa using h)]
  · rw [if_neg h, if_neg (by simpa using h)]
/-- A span lies within what may be. -/
def Small (l : List S105) : Prop := ∀ x ∈ l, -mostL ≤ x.f0 ∧ x.f0 ≤ mostL ∧ -mostL ≤ x.f1 ∧ x.f1 ≤ mostL + 1
theorem mem_kept {l : List S105} (n : Int) : Mem n (keptL l) ↔ Mem n (l.map nearL) := by
  constructor
  · rintro ⟨x, hx, h⟩; exact ⟨x, (List.mem_filter.1 hx).1, h⟩
  · rintro ⟨x, hx, h⟩; exact ⟨x, List.mem_filter.2 ⟨hx, by simp; omega⟩, h⟩
theorem near_small {x : S105} (h : -mostL ≤ x.f0 ∧ x.f0 ≤ mostL ∧ -mostL ≤ x.f1 ∧ x.f1 ≤ mostL + 1) : nearL x = x := by
  cases x; simp only [nearL] at *; congr <;> omega
theorem map_small : ∀ {l : List S105}, Small l → l.map nearL = l := by
  intro l h
  conv => rhs; rw [← List.map_id l]
  exact List.map_congr_left (fun x hx => by simpa using near_small (h x hx))
theorem ofL_mem {l : List S105} (h : Small l) (n : Int) : Mem n (ofL l) ↔ Mem n l := by rw [(ofL_spec l).2, mem_kept, map_small h]
theorem norm_small {l : List S105} (hn : Norm l) (h : ∀ n, Mem n l → -mostL ≤ n ∧ n ≤ mostL) : Small l := by
  intro x hx
  have hlt := hn.1 x hx
  have h0 := h x.f0 ⟨x, hx, Int.le_refl _, hlt⟩
  have h1 := h (x.f1 - 1) ⟨x, hx, by omega, by omega⟩
  omega
theorem ofL_small (l : List S105) : Small (ofL l) := by
  refine norm_small (ofL_spec l).1 (fun n hn => ?_)
  rw [(ofL_spec l).2, mem_kept] at hn
  obtain ⟨x, hx, h⟩ := hn
  obtain ⟨y, _, rfl⟩ := List.mem_map.1 hx
  simp only [nearL] at h
  omega
theorem ofL_norm {l : List S105} (hn : Norm l) (h : Small l) : ofL l = l := norm_ext (ofL_spec l).1 hn (fun n => ofL_mem h n)
end Go.Proofs.Ytiiljdglbfgdbaa.SpanTh
namespace Go.Proofs.Ytiiljdglbfgdbaa.SpanTh
open Go.Proofs.Ytiiljdglbfgdbaa.S

def Rise (l : List Int) : Prop := l.Pairwise (· < ·)
theorem rise_nil : Rise [] := List.Pairwise.nil
theorem rise_cons {x : Int} {l : List Int} : Rise (x :: l) ↔ (∀ y ∈ l, x < y) ∧ Rise l := List.pairwise_cons
theorem rise_ext : ∀ {s t : List Int}, Rise s → Rise t → (∀ n, n ∈ s ↔ n ∈ t) → s = t := by
  intro s
  induction s with
  | nil =>
    intro t _ _ h
    cases t with
    | nil => rfl
    | cons y t => exact absurd ((h y).2 List.mem_cons_self) (by simp)
  | cons x s ih =>
    intro t hs ht h
    cases t with
    | nil => exact absurd ((h x).1 List.mem_cons_self) (by simp)
    | cons y t =>
      obtain ⟨a1, b1⟩ := rise_cons.1 hs
      obtain ⟨a2, b2⟩ := rise_cons.1 ht
      have e : x = y := by
        rcases List.mem_cons.1 ((h x).1 List.mem_cons_self) with h1 | h1
        · exact h1
        · rcases List.mem_cons.1 ((h y).2 List.mem_cons_self) with h2 | h2
          · exact h2.symm
          · have := a1 y h2; have := a2 x h1; omega
      subst e
      rw [ih b1 b2 (fun n => ?_)]
      have hn := h n
      rw [List.mem_cons, List.mem_cons] at hn
      constructor
      · intro hm
        have := a1 n hm
        exact (hn.1 (.inr hm)).resolve_left (by omega)
      · intro hm
        have := a2 n hm
        exact (hn.2 (.inr hm)).resolve_left (by omega)
def insL (x : Int) : List Int → List Int
  | [] => [x]
  | y :: l => if x < y then x :: y :: l else y :: insL x l
def putL (l : List Int) (x : Int) : List Int := if x ∈ l then l else insL x l
theorem mem_insL (x n : Int) : ∀ l, n ∈ insL x l ↔ n = x ∨ n ∈ l
  | [] => by simp [insL]
  | y :: l => by
    unfold insL
    split
    · rw [List.mem_cons]
    · rw [List.mem_cons, mem_insL x n l, List.mem_cons]
      constructor
      · rintro (h | h | h) <;> simp [h]
      · rintro (h | h | h) <;> simp [h]
theorem mem_putL (l : List Int) (x n : Int) : n ∈ putL l x ↔ n = x ∨ n ∈ l := by
  unfold putL
  split
  · rename_i h
    constructor
    · exact .inr
    · rintro (rfl | h') <;> assumption
  · exact mem_insL x n l
theorem rise_insL (x : Int) : ∀ l, Rise l → x ∉ l → Rise (insL x l)
  | [], _, _ => by simp [insL, Rise]
  | y :: l, h, hx => by
    obtain ⟨a, b⟩ := rise_cons.1 h
    unfold insL
    split
    · rename_i hc
      refine rise_cons.2 ⟨fun z hz => ?_, h⟩
      rcases List.mem_cons.1 hz with rfl | hz
      · exact hc
      · have := a z hz; omega
    · refine rise_cons.2 ⟨fun z hz => ?_, rise_insL x l b (fun h' => hx (List.mem_cons_of_mem _ h'))⟩
      rcases (mem_insL x z l).1 hz with rfl | hz
      · have : z ≠ y := fun e => hx (e ▸ List.mem_cons_self)
        omega
      · exact a z hz
theorem rise_putL {l : List Int} (x : Int) (h : Rise l) : Rise (putL l x) := by
  unfold putL
  split
  · exact h
  · exact rise_insL x l h ‹_›
def run (a : Int) : Nat → List Int
  | 0 => []
  | n + 1 => a :: run (a + 1) n
theorem mem_run (n : Int) : ∀ (m : Nat) (a : Int), n ∈ run a m ↔ a ≤ n ∧ n < a + m
  | 0, a => by simp only [run, List.not_mem_nil, false_iff]; omega
  | m + 1, a => by rw [run, List.mem_cons, mem_run n m]; omega
theorem rise_run : ∀ (m : Nat) (a : Int), Rise (run a m)
  | 0, _ => rise_nil
  | m + 1, a => rise_cons.2 ⟨fun y hy => by have := (mem_run y m (a + 1)).1 hy; omega, rise_run m (a + 1)⟩
theorem len_run : ∀ (m : Nat) (a : Int), (run a m).length = m
  | 0, _ => rfl
  | m + 1, a => by rw [run, List.length_cons, len_run]
theorem rise_len : ∀ (l : List Int) (a b : Int), Rise l → (∀ n ∈ l, a ≤ n ∧ n < b) → l.length ≤ (b - a).toNat
  | [], _, _, _, _ => Nat.zero_le _
  | x :: l, a, b, h, hb => by
    obtain ⟨h1, h2⟩ := rise_cons.1 h
    have := rise_len l (x + 1) b h2 (fun n hn => ⟨by have := h1 n hn; omega, (hb n (List.mem_cons_of_mem _ hn)).2⟩)
    have := hb x List.mem_cons_self
    rw [List.length_cons]
    omega
theorem fold_put : ∀ (r all : List Int), Rise all → Rise (r.foldl putL all) ∧ ∀ n, n ∈ r.foldl putL all ↔ n ∈ all ∨ n ∈ r
  | [], all, h => ⟨h, fun n => by simp⟩
  | x :: r, all, h => by
    obtain ⟨a, b⟩ := fold_put r (putL all x) (rise_putL x h)
    refine ⟨a, fun n => ?_⟩
    rw [List.foldl_cons, b, mem_putL, List.mem_cons]
    constructor
    · rintro ((h | h) | h) <;> simp [h]
    · rintro (h | h | h) <;> simp [h]
def runS (x : S105) : List Int := run x.f0 (x.f1 - x.f0).toNat
theorem mem_runS (x : S105) (n : Int) : n ∈ runS x ↔ x.f0 ≤ n ∧ n < x.f1 := by unfold runS; rw [mem_run]; omega
def allF (all : List Int) (l : List S105) : List Int := l.foldl (fun a x => (runS x).foldl putL a) all
theorem all_spec : ∀ (l : List S105) (all : List Int), Rise all → Rise (allF all l) ∧ ∀ n, n ∈ allF all l ↔ n ∈ all ∨ Mem n l
  | [], all, h => ⟨h, fun n => by simp [allF, mem_nil]⟩
  | x :: l, all, h => by
    obtain ⟨a, b⟩ := fold_put (runS x) all h
    obtain ⟨c, d⟩ := all_spec l _ a
    refine ⟨c, fun n => ?_⟩
    show n ∈ allF _ l ↔ _
    rw [d, b, mem_cons, mem_runS, or_assoc]
def listL (s : List S105) : List Int := s.flatMap runS
theorem mem_listL (s : List S105) (n : Int) : n ∈ listL s ↔ Mem n s := by
  unfold listL Mem
  rw [List.mem_flatMap]
  exact ⟨fun ⟨x, h1, h2⟩ => ⟨x, h1, (mem_runS x n).1 h2⟩, fun ⟨x, h1, h2⟩ => ⟨x, h1, (mem_runS x n).2 h2⟩⟩
theorem rise_listL : ∀ {s : List S105}, Norm s → Rise (listL s)
  | [], _ => rise_nil
  | x :: s, h => by
    unfold listL
    rw [List.flatMap_cons]
    refine List.pairwise_append.2 ⟨rise_run _ _, rise_listL (norm_tail h), fun a ha b hb => ?_⟩
    have h1 := (mem_runS x a).1 ha
    have h2 := norm_lt h b ((mem_listL s b).1 hb)
    omega
theorem list_eq {s : List S105} {l : List Int} (hs : Norm s) (hl : Rise l) (h : ∀ n, n ∈ l ↔ Mem n s) : listL s = l :=
  rise_ext (rise_listL hs) hl (fun n => by rw [mem_listL, h])
def endsL (s : List S105) : List Int := s.flatMap (fun x => [x.f0, x.f1])
def spStep (prev : Option Int) (out : List Int) (x : Int) : List Int :=
  if prev = some (x - 1) then out.dropLast ++ [x + 1] else out ++ [x, x + 1]
def spansF : Option Int → List Int → List Int → List Int
  | _, out, [] => out
  | prev, out, x :: l => spansF (some x) (spStep prev out x) l
theorem spans_run : ∀ (m : Nat) (a : Int) (out rest : List Int), spansF (some (a - 1)) (out ++ [a]) (run a m ++ rest) = spansF (some (a + m - 1)) (out ++ [a + m]) rest
  | 0, a, out, rest => by simp [run]
  | m + 1, a, out, rest => by
    rw [run, List.cons_append, spansF]
    have e : spStep (some (a - 1)) (out ++ [a]) a = out ++ [a + 1] := by simp [spStep]
    have := spans_run m (a + 1) out rest
    rw [show a + 1 - 1 = a by omega] at this
    rw [e, this]
    congr 3 <;> omega
theorem spans_list : ∀ (s : List S105) (prev : Option Int) (out : List Int), Norm s → (∀ x ∈ s, ∀ p, prev = some p → p + 1 < x.f0) → spansF prev out (listL s) = out ++ endsL s
  | [], prev, out, _, _ => by simp [listL, endsL, spansF]
  | x :: s, prev, out, hn, hp => by
    have hx := hn.1 x List.mem_cons_self
    have e : listL (x :: s) = x.f0 :: (run (x.f0 + 1) (x.f1 - x.f0 - 1).toNat ++ listL s) := by
      unfold listL
      rw [List.flatMap_cons, runS, show (x.f1 - x.f0).toNat = (x.f1 - x.f0 - 1).toNat + 1 by omega, run, List.cons_append]
    rw [e, spansF]
    have e1 : spStep prev out x.f0 = out ++ [x.f0] ++ [x.f0 + 1] := by
      unfold spStep
      rw [if_neg]
      · simp
      · intro h
        have := hp x List.mem_cons_self _ h
        omega
    have e2 := spans_run (x.f1 - x.f0 - 1).toNat (x.f0 + 1) (out ++ [x.f0]) (listL s)
    rw [show x.f0 + 1 - 1 = x.f0 by omega, show x.f0 + 1 + ((x.f1 - x.f0 - 1).toNat : Int) = x.f1 by omega] at e2
    rw [e1, e2, spans_list s _ _ (norm_tail hn)]
    · simp [endsL]
    · intro y hy p hpe
      injection hpe with hpe
      have := (List.pairwise_cons.1 hn.2).1 y hy
      omega
def lenL (s : List S105) : Int := (s.map fun x => x.f1 - x.f0).sum
theorem lenL_eq : ∀ {s : List S105}, Norm s → lenL s = ((listL s).length : Int)
  | [], _ => rfl
  | x :: s, h => by
    have hx := h.1 x List.mem_cons_self
    have := lenL_eq (norm_tail h)
    unfold lenL listL at *
    rw [List.map_cons, List.sum_cons, List.flatMap_cons, List.length_append, runS, len_run, this]
    omega
theorem norm_len {s : List S105} (h : Norm s) : s.length ≤ (listL s).length := by
  induction s with
  | nil => exact Nat.zero_le _
  | cons x s ih =>
    have hx := h.1 x List.mem_cons_self
    have := ih (norm_tail h)
    unfold listL at *
    rw [List.flatMap_cons, List.length_append, runS, len_run, List.length_cons]
    omega
end Go.Proofs.Ytiiljdglbfgdbaa.SpanTh
