/- SpanTwo: the plain law. -/
import Derived.Test.YtihobchcmfamaaaEvBoth
import Derived.Test.YtihobchcmfamaaaArgs
import Derived.Test.YtihobchcmfamaaaS0
import Derived.Test.YtihobchcmfamaaaS5
import Derived.Test.YtihobchcmfamaaaS7
import Derived.Test.YtihobchcmfamaaaS9
import Derived.Test.YtihobchcmfamaaaS10
namespace Go.Proofs.Ytihobchcmfamaaa.Pure
open Go.RowKit Go.Proofs.Ytihobchcmfamaaa.S Go.Proofs.YtihobchcmfamaaaW.PrintWords Go.Proofs.YtihobchcmfamaaaW.PrintMore Go.Proofs.Ytihobchcmfamaaa.SpanTh Go.Proofs.Ytihobchcmfamaaa.SpanEv
theorem two_l0 (l m : List (S45)) : ∀ (c i : Nat) (out : List Int), (allF [] (fewL l)).length - i = c → i ≤ (allF [] (fewL l)).length → out.length ≤ i →
    out ++ ((allF [] (fewL l)).drop i).filter (fun n => decide (n ∈ allF [] (fewL m))) = (allF [] (fewL l)).filter (fun n => decide (n ∈ allF [] (fewL m))) →
    Ev (fun k => polliwoglaw03_SpanTwo.l0 k (allF [] (fewL l)) (allF [] (fewL m)) (ofL (fewL l)) (ofL (fewL m)) out (allF [] (fewL l)) ((allF [] (fewL l)).length : Int) (i : Int)) true := by
  obtain ⟨n1, s1, m1, b1⟩ := set_few l
  obtain ⟨n2, s2, m2, b2⟩ := set_few m
  obtain ⟨r1, _⟩ := few_all l
  obtain ⟨r2, _⟩ := few_all m
  have q1 := near_len r1
  have q2 := near_len r2
  have hsame : (ofL (fewL l) = ofL (fewL m)) ↔ (allF [] (fewL l) = allF [] (fewL m)) := by
    constructor
    · intro h
      refine rise_ext r1.1 r2.1 (fun n => ?_)
      rw [m1, m2, h]
    · intro h
      refine norm_ext n1 n2 (fun n => ?_)
      rw [← m1, ← m2, h]
  generalize allF [] (fewL l) = a at *
  generalize allF [] (fewL m) = b at *
  generalize ofL (fewL l) = s at *
  generalize ofL (fewL m) = t at *
  intro c
  induction c with
  | zero =>
    intro i out hc hi ho he
    obtain rfl : i = a.length := by omega
    rw [List.drop_length, List.filter_nil, List.append_nil] at he
    have hr : Rise out := by rw [he]; exact List.Pairwise.filter _ r1.1
    have hmem : ∀ n, n ∈ out ↔ Mem n s ∧ Mem n t := fun n => by
      rw [he, List.mem_filter, decide_eq_true_iff, m1, m2]
    have hprod : s.length * t.length ≤ 200 * 200 := Nat.mul_le_mul b1 b2
    have hprod' : t.length * s.length ≤ 200 * 200 := Nat.mul_le_mul b2 b1
    obtain ⟨x1, x2, x3⟩ := both_spec s1 s2
    obtain ⟨y1, y2, y3⟩ := both_spec s2 s1
    refine Ev.step (f := fun k => (span_Set_Both.f k s t).bind fun u => (polliwoglaw03_is.f k u out).bind fun v => if v = true then ((span_Set_Both.f k t s).bind fun u => (polliwoglaw03_is.f k u out).bind fun v => if v = true then ((span_Same.f k s t).bind fun p => (polliwogref03_Same.f k a b).bind fun q => some (p == q)) else none) else none) (fun k => ?_) ?_
    · rw [polliwoglaw03_SpanTwo.l0, if_neg (by omega)]
    · refine Ev.bind (both_ev s t (by omega) (by omega) (by omega)) ?_
      refine Ev.bind (is_ev x1 x2 hr (by omega) (fun n => by rw [hmem, x3])) ?_
      simp only [if_true]
      refine Ev.bind (both_ev t s (by omega) (by omega) (by omega)) ?_
      refine Ev.bind (is_ev y1 y2 hr (by omega) (fun n => by rw [hmem, y3]; exact And.comm)) ?_
      simp only [if_true]
      refine Ev.bind (setsame_ev s t (by omega)) ?_
      refine Ev.bind (same_ev a b (by omega)) ?_
      rw [show (decide (s = t) == decide (a = b)) = true by rw [beq_iff_eq, decide_eq_decide]; exact hsame]
      exact Ev.now _
  | succ c ih =>
    intro i out hc hi ho he
    clear hsame n1 s1 m1 n2 s2 m2 r1 r2 b1 b2
    have hlt : i < a.length := by omega
    have hr := rdi_at a i hlt
    have hw := w1 (i := i) (by omega)
    rw [List.drop_eq_getElem_cons hlt, List.filter_cons] at he
    refine Ev.step (f := fun k => (polliwogref03_Has.f k b a[i]).bind fun v => if v = true then polliwoglaw03_SpanTwo.l0 k a b s t (out ++ [a[i]]) a (a.length : Int) ((i + 1 : Nat) : Int) else polliwoglaw03_SpanTwo.l0 k a b s t out a (a.length : Int) ((i + 1 : Nat) : Int)) (fun k => ?_) (Ev.bind (has_ev b a[i] (by omega)) ?_)
    · have p1 : (i : Int) < (a.length : Int) := Int.ofNat_lt.2 hlt
      have p2 : (0 : Int) ≤ (i : Int) := Int.natCast_nonneg i
      rw [polliwoglaw03_SpanTwo.l0, if_pos p1, if_pos p2, if_pos p1, hr, hw]
      have hq : out.length < 17592186044416 := Nat.lt_of_le_of_lt ho (Nat.lt_of_lt_of_le hlt (Nat.le_trans q1 (by decide)))
      congr 1
      funext v
      cases v
      · rfl
      · rw [if_pos rfl, if_pos hq, if_pos rfl]
    · by_cases hb : a[i] ∈ b
      · rw [if_pos (by simpa using hb)] at he
        rw [decide_eq_true hb]
        simp only [if_true]
        exact ih (i + 1) (out ++ [a[i]]) (by omega) (by omega) (by simp; omega) (by rw [← he]; simp)
      · rw [if_neg (by simpa using hb)] at he
        rw [decide_eq_false hb]
        simp only [Bool.false_eq_true, if_false]
        exact ih (i + 1) out (by omega) (by omega) (by omega) he
theorem SpanTwo (l0 l1 : List (S45)) (_ : ∀ x ∈ l0, Args.good45 x) (_ : ∀ x ∈ l1, Args.good45 x) : ∃ k, polliwoglaw03_SpanTwo.f k l0 l1 = some true := by
  refine Ev.rounds (g := fun k => polliwoglaw03_SpanTwo.f k l0 l1) ?_
  unfold polliwoglaw03_SpanTwo.f
  refine Ev.bind awake_ev ?_
  simp only [if_true]
  refine Ev.bind (few_ev l0) ?_
  dsimp only
  refine Ev.bind (few_ev l1) ?_
  dsimp only
  have h0 := few_len l0
  have h1 := few_len l1
  refine Ev.bind (of_ev _ (by omega)) ?_
  refine Ev.bind (of_ev _ (by omega)) ?_
  exact two_l0 l0 l1 _ 0 [] rfl (Nat.zero_le _) (Nat.le_refl _) (by rw [List.drop_zero, List.nil_append])
end Go.Proofs.Ytihobchcmfamaaa.Pure
