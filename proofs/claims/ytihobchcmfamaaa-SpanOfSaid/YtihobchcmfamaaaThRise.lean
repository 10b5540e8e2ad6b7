/- Rising lists of whole numbers, and the numbers of a set of spans. No program in sight. -/
import Derived.Test.YtihobchcmfamaaaThSpan
import Derived.Test.YtihobchcmfamaaaS0
namespace Go.Proofs.Ytihobchcmfamaaa.SpanTh
open Go.Proofs.Ytihobchcmfamaaa.S

def Rise (l : List Int) : Prop := l.Pairwise (· < ·)
theorem rise_nil : Rise [] := List.Pairwise.nil
theorem rise_cons {x : Int} {l : List Int} : Rise (x :: l) ↔ (∀ y ∈ l, x < y) ∧ Rise l := List.pairwise_cons
theorem rise_ext : ∀ {s t : List Int}, Rise s → Rise t → (∀ n, n ∈ s ↔ n ∈ t) → s = t := by
  intro s
  induction s with
  | nil =>
    intro t _ _ h
    cases t with
    | nil => rfl
    | cons y t => exact absurd ((h y).2 List.mem_cons_self) (by simp)
  | cons x s ih =>
    intro t hs ht h
    cases t with
    | nil => exact absurd ((h x).1 List.mem_cons_self) (by simp)
    | cons y t =>
      obtain ⟨a1, b1⟩ := rise_cons.1 hs
      obtain ⟨a2, b2⟩ := rise_cons.1 ht
      have e : x = y := by
        rcases List.mem_cons.1 ((h x).1 List.mem_cons_self) with h1 | h1
        · exact h1
        · rcases List.mem_cons.1 ((h y).2 List.mem_cons_self) with h2 | h2
          · exact h2.symm
          · have := a1 y h2; have := a2 x h1; omega
      subst e
      rw [ih b1 b2 (fun n => ?_)]
      have hn := h n
      rw [List.mem_cons, List.mem_cons] at hn
      constructor
      · intro hm
        have := a1 n hm
        exact (hn.1 (.inr hm)).resolve_left (by omega)
      · intro hm
        have := a2 n hm
        exact (hn.2 (.inr hm)).resolve_left (by omega)
def insL (x : Int) : List Int → List Int
  | [] => [x]
  | y :: l => if x < y then x :: y :: l else y :: insL x l
def putL (l : List Int) (x : Int) : List Int := if x ∈ l then l else insL x l
theorem mem_insL (x n : Int) : ∀ l, n ∈ insL x l ↔ n = x ∨ n ∈ l
  | [] => by simp [insL]
  | y :: l => by
    unfold insL
    split
    · rw [List.mem_cons]
    · rw [List.mem_cons, mem_insL x n l, List.mem_cons]
      constructor
      · rintro (h | h | h) <;> simp [h]
      · rintro (h | h | h) <;> simp [h]
theorem mem_putL (l : List Int) (x n : Int) : n ∈ putL l x ↔ n = x ∨ n ∈ l := by
  unfold putL
  split
  · rename_i h
    constructor
    · exact .inr
    · rintro (rfl | h') <;> assumption
  · exact mem_insL x n l
theorem rise_insL (x : Int) : ∀ l, Rise l → x ∉ l → Rise (insL x l)
  | [], _, _ => by simp [insL, Rise]
  | y :: l, h, hx => by
    obtain ⟨a, b⟩ := rise_cons.1 h
    unfold insL
    split
    · rename_i hc
      refine rise_cons.2 ⟨fun z hz => ?_, h⟩
      rcases List.mem_cons.1 hz with rfl | hz
      · exact hc
      · have := a z hz; omega
    · refine rise_cons.2 ⟨fun z hz => ?_, rise_insL x l b (fun h' => hx (List.mem_cons_of_mem _ h'))⟩
      rcases (mem_insL x z l).1 hz with rfl | hz
      · have : z ≠ y := fun e => hx (e ▸ List.mem_cons_self)
        omega
      · exact a z hz
theorem rise_putL {l : List Int} (x : Int) (h : Rise l) : Rise (putL l x) := by
  unfold putL
  split
  · exact h
  · exact rise_insL x l h ‹_›
def run (a : Int) : Nat → List Int
  | 0 => []
  | n + 1 => a :: run (a + 1) n
theorem mem_run (n : Int) : ∀ (m : Nat) (a : Int), n ∈ run a m ↔ a ≤ n ∧ n < a + m
  | 0, a => by simp only [run, List.not_mem_nil, false_iff]; omega
  | m + 1, a => by rw [run, List.mem_cons, mem_run n m]; omega
theorem rise_run : ∀ (m : Nat) (a : Int), Rise (run a m)
  | 0, _ => rise_nil
  | m + 1, a => rise_cons.2 ⟨fun y hy => by have := (mem_run y m (a + 1)).1 hy; omega, rise_run m (a + 1)⟩
theorem len_run : ∀ (m : Nat) (a : Int), (run a m).length = m
  | 0, _ => rfl
  | m + 1, a => by rw [run, List.length_cons, len_run]
theorem rise_len : ∀ (l : List Int) (a b : Int), Rise l → (∀ n ∈ l, a ≤ n ∧ n < b) → l.length ≤ (b - a).toNat
  | [], _, _, _, _ => Nat.zero_le _
  | x :: l, a, b, h, hb => by
    obtain ⟨h1, h2⟩ := rise_cons.1 h
    have := rise_len l (x + 1) b h2 (fun n hn => ⟨by have := h1 n hn; omega, (hb n (List.mem_cons_of_mem _ hn)).2⟩)
    have := hb x List.mem_cons_self
    rw [List.length_cons]
    omega
theorem fold_put : ∀ (r all : List Int), Rise all → Rise (r.foldl putL all) ∧ ∀ n, n ∈ r.foldl putL all ↔ n ∈ all ∨ n ∈ r
  | [], all, h => ⟨h, fun n => by simp⟩
  | x :: r, all, h => by
    obtain ⟨a, b⟩ := fold_put r (putL all x) (rise_putL x h)
    refine ⟨a, fun n => ?_⟩
    rw [List.foldl_cons, b, mem_putL, List.mem_cons]
    constructor
    · rintro ((h | h) | h) <;> simp [h]
    · rintro (h | h | h) <;> simp [h]
def runS (x : S45) : List Int := run x.f0 (x.f1 - x.f0).toNat
theorem mem_runS (x : S45) (n : Int) : n ∈ runS x ↔ x.f0 ≤ n ∧ n < x.f1 := by unfold runS; rw [mem_run]; omega
def allF (all : List Int) (l : List S45) : List Int := l.foldl (fun a x => (runS x).foldl putL a) all
theorem all_spec : ∀ (l : List S45) (all : List Int), Rise all → Rise (allF all l) ∧ ∀ n, n ∈ allF all l ↔ n ∈ all ∨ Mem n l
  | [], all, h => ⟨h, fun n => by simp [allF, mem_nil]⟩
  | x :: l, all, h => by
    obtain ⟨a, b⟩ := fold_put (runS x) all h
    obtain ⟨c, d⟩ := all_spec l _ a
    refine ⟨c, fun n => ?_⟩
    show n ∈ allF _ l ↔ _
    rw [d, b, mem_cons, mem_runS, or_assoc]
def listL (s : List S45) : List Int := s.flatMap runS
theorem mem_listL (s : List S45) (n : Int) : n ∈ listL s ↔ Mem n s := by
  unfold listL Mem
  rw [List.mem_flatMap]
  exact ⟨fun ⟨x, h1, h2⟩ => ⟨x, h1, (mem_runS x n).1 h2⟩, fun ⟨x, h1, h2⟩ => ⟨x, h1, (mem_runS x n).2 h2⟩⟩
theorem rise_listL : ∀ {s : List S45}, Norm s → Rise (listL s)
  | [], _ => rise_nil
  | x :: s, h => by
    unfold listL
    rw [List.flatMap_cons]
    refine List.pairwise_append.2 ⟨rise_run _ _, rise_listL (norm_tail h), fun a ha b hb => ?_⟩
    have h1 := (mem_runS x a).1 ha
    have h2 := norm_lt h b ((mem_listL s b).1 hb)
    omega
theorem list_eq {s : List S45} {l : List Int} (hs : Norm s) (hl : Rise l) (h : ∀ n, n ∈ l ↔ Mem n s) : listL s = l :=
  rise_ext (rise_listL hs) hl (fun n => by rw [mem_listL, h])
def endsL (s : List S45) : List Int := s.flatMap (fun x => [x.f0, x.f1])
def spStep (prev : Option Int) (out : List Int) (x : Int) : List Int :=
  if prev = some (x - 1) then out.dropLast ++ [x + 1] else out ++ [x, x + 1]
def spansF : Option Int → List Int → List Int → List Int
  | _, out, [] => out
  | prev, out, x :: l => spansF (some x) (spStep prev out x) l
theorem spans_run : ∀ (m : Nat) (a : Int) (out rest : List Int), spansF (some (a - 1)) (out ++ [a]) (run a m ++ rest) = spansF (some (a + m - 1)) (out ++ [a + m]) rest
  | 0, a, out, rest => by simp [run]
  | m + 1, a, out, rest => by
    rw [run, List.cons_append, spansF]
    have e : spStep (some (a - 1)) (out ++ [a]) a = out ++ [a + 1] := by simp [spStep]
    have := spans_run m (a + 1) out rest
    rw [show a + 1 - 1 = a by omega] at this
    rw [e, this]
    congr 3 <;> omega
theorem spans_list : ∀ (s : List S45) (prev : Option Int) (out : List Int), Norm s → (∀ x ∈ s, ∀ p, prev = some p → p + 1 < x.f0) → spansF prev out (listL s) = out ++ endsL s
  | [], prev, out, _, _ => by simp [listL, endsL, spansF]
  | x :: s, prev, out, hn, hp => by
    have hx := hn.1 x List.mem_cons_self
    have e : listL (x :: s) = x.f0 :: (run (x.f0 + 1) (x.f1 - x.f0 - 1).toNat ++ listL s) := by
      unfold listL
      rw [List.flatMap_cons, runS, show (x.f1 - x.f0).toNat = (x.f1 - x.f0 - 1).toNat + 1 by omega, run, List.cons_append]
    rw [e, spansF]
    have e1 : spStep prev out x.f0 = out ++ [x.f0] ++ [x.f0 + 1] := by
      unfold spStep
      rw [if_neg]
      · simp
      · intro h
        have := hp x List.mem_cons_self _ h
        omega
    have e2 := spans_run (x.f1 - x.f0 - 1).toNat (x.f0 + 1) (out ++ [x.f0]) (listL s)
    rw [show x.f0 + 1 - 1 = x.f0 by omega, show x.f0 + 1 + ((x.f1 - x.f0 - 1).toNat : Int) = x.f1 by omega] at e2
    rw [e1, e2, spans_list s _ _ (norm_tail hn)]
    · simp [endsL]
    · intro y hy p hpe
      injection hpe with hpe
      have := (List.pairwise_cons.1 hn.2).1 y hy
      omega
def lenL (s : List S45) : Int := (s.map fun x => x.f1 - x.f0).sum
theorem lenL_eq : ∀ {s : List S45}, Norm s → lenL s = ((listL s).length : Int)
  | [], _ => rfl
  | x :: s, h => by
    have hx := h.1 x List.mem_cons_self
    have := lenL_eq (norm_tail h)
    unfold lenL listL at *
    rw [List.map_cons, List.sum_cons, List.flatMap_cons, List.length_append, runS, len_run, this]
    omega
theorem norm_len {s : List S45} (h : Norm s) : s.length ≤ (listL s).length := by
  induction s with
  | nil => exact Nat.zero_le _
  | cons x s ih =>
    have hx := h.1 x List.mem_cons_self
    have := ih (norm_tail h)
    unfold listL at *
    rw [List.flatMap_cons, List.length_append, runS, len_run, List.length_cons]
    omega
end Go.Proofs.Ytihobchcmfamaaa.SpanTh
