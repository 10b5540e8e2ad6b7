/- SpanChanges: the plain law. -/
import Derived.Test.YtihobchcmfamaaaEvGaps
import Derived.Test.YtihobchcmfamaaaArgs
import Derived.Test.YtihobchcmfamaaaS0
import Derived.Test.YtihobchcmfamaaaS39
import Derived.Test.YtihobchcmfamaaaS90
set_option linter.unusedVariables false
set_option linter.unusedSimpArgs false
namespace Go.Proofs.Ytihobchcmfamaaa.Pure
open Go.RowKit Go.Proofs.Ytihobchcmfamaaa.S Go.Proofs.YtihobchcmfamaaaW.PrintWords Go.Proofs.YtihobchcmfamaaaW.PrintMore Go.Proofs.Ytihobchcmfamaaa.SpanTh Go.Proofs.Ytihobchcmfamaaa.SpanEv
theorem putv_copy (l : List Int) (x : Int) (hl : l.length < 1099511627776) : ∀ (m i : Nat) (out : List Int), l.length - i = m → i ≤ l.length → out.length ≤ i + 1 → Ev (fun k => polliwogref03_Put_v.l0 k x out true l (l.length : Int) (i : Int)) (out ++ l.drop i) := by
  intro m
  induction m with
  | zero =>
    intro i out hm hi ho
    obtain rfl : i = l.length := by omega
    refine Ev.step (f := fun _ => some out) (fun k => ?_) (by rw [List.drop_length, List.append_nil]; exact Ev.now _)
    rw [polliwogref03_Put_v.l0, if_neg (by omega), if_pos rfl]
  | succ m ih =>
    intro i out hm hi ho
    have hlt : i < l.length := by omega
    have hr := rdi_at l i hlt
    have hw := w1 (i := i) (by omega)
    have := ih (i + 1) (out ++ [l[i]]) (by omega) (by omega) (by simp; omega)
    rw [List.drop_eq_getElem_cons hlt, show out ++ l[i] :: l.drop (i + 1) = out ++ [l[i]] ++ l.drop (i + 1) by simp]
    refine Ev.step (fun k => ?_) this
    rw [polliwogref03_Put_v.l0, if_pos (by omega), if_pos (by omega), if_pos (by omega), hr, if_pos rfl, if_pos (by omega), hw]
theorem putv_ins (l : List Int) (x : Int) (hl : l.length < 1099511627776) : ∀ (m i : Nat) (out : List Int), l.length - i = m → i ≤ l.length → out.length ≤ i → Ev (fun k => polliwogref03_Put_v.l0 k x out false l (l.length : Int) (i : Int)) (out ++ insL x (l.drop i)) := by
  intro m
  induction m with
  | zero =>
    intro i out hm hi ho
    obtain rfl : i = l.length := by omega
    refine Ev.step (f := fun _ => some (out ++ [x])) (fun k => ?_) (by rw [List.drop_length]; exact Ev.now _)
    rw [polliwogref03_Put_v.l0, if_neg (by omega), if_neg (by decide), if_pos (by omega)]
  | succ m ih =>
    intro i out hm hi ho
    have hlt : i < l.length := by omega
    have hr := rdi_at l i hlt
    have hw := w1 (i := i) (by omega)
    rw [List.drop_eq_getElem_cons hlt]
    by_cases hc : x < l[i]
    · have := putv_copy l x hl (l.length - (i + 1)) (i + 1) (out ++ [x] ++ [l[i]]) rfl (by omega) (by simp; omega)
      rw [show out ++ insL x (l[i] :: l.drop (i + 1)) = out ++ [x] ++ [l[i]] ++ l.drop (i + 1) by simp [insL, hc]]
      refine Ev.step (fun k => ?_) this
      rw [polliwogref03_Put_v.l0, if_pos (by omega), if_pos (by omega), if_pos (by omega), hr, if_neg (by decide), if_pos hc, if_pos (by omega), Option.bind_some, if_pos (by simp; omega), hw]
    · have := ih (i + 1) (out ++ [l[i]]) (by omega) (by omega) (by simp; omega)
      rw [show out ++ insL x (l[i] :: l.drop (i + 1)) = out ++ [l[i]] ++ insL x (l.drop (i + 1)) by simp [insL, hc]]
      refine Ev.step (fun k => ?_) this
      rw [polliwogref03_Put_v.l0, if_pos (by omega), if_pos (by omega), if_pos (by omega), hr, if_neg (by decide), if_neg hc, if_pos (by omega), hw]
theorem putv_ev (l : List Int) (x : Int) (hl : l.length < 1099511627776) : Ev (fun k => polliwogref03_Put_v.f k l x) (putL l x) := by
  unfold polliwogref03_Put_v.f
  refine Ev.bind (has_ev l x hl) ?_
  unfold putL
  by_cases hc : x ∈ l
  · rw [if_pos hc]
    simp only [hc, decide_true, if_true]
    exact Ev.now _
  · rw [if_neg hc]
    have := putv_ins l x hl l.length 0 [] rfl (Nat.zero_le _) (Nat.le_refl _)
    rw [List.drop_zero, List.nil_append] at this
    simp only [hc, decide_false, Bool.false_eq_true, if_false]
    exact this
theorem changes_l1 (all : List Int) (ha : Near all) : ∀ (ns wi ga : List Int), (∀ n ∈ ns, -100 ≤ n ∧ n < 100) → Near wi → ga.length + ns.length < 1000 →
    Ev (fun k => polliwoglaw03_SpanChanges.l1 k all ns wi ga) (ns.foldl putL wi, ga ++ ns.filter (fun n => !decide (n ∈ all)))
  | [], wi, ga, _, _, _ => by
    rw [List.filter_nil, List.append_nil]
    exact Ev.now _
  | n :: ns, wi, ga, hn, hw, hl => by
    have h1 := near_len ha
    have h2 := near_len hw
    have hn0 := hn n List.mem_cons_self
    rw [List.length_cons] at hl
    simp only [polliwoglaw03_SpanChanges.l1]
    refine Ev.bind (putv_ev wi n (by omega)) ?_
    refine Ev.bind (has_ev all n (by omega)) ?_
    simp only [if_pos (show ga.length < 1099511627776 by omega)]
    by_cases hm : n ∈ all
    · have := changes_l1 all ha ns (putL wi n) ga (fun x hx => hn x (List.mem_cons_of_mem _ hx)) (near_put hw hn0.1 hn0.2) (by omega)
      rw [List.filter_cons_of_neg (by simp [hm])]
      simp only [decide_eq_true hm, if_true]
      exact this
    · have := changes_l1 all ha ns (putL wi n) (ga ++ [n]) (fun x hx => hn x (List.mem_cons_of_mem _ hx)) (near_put hw hn0.1 hn0.2) (by rw [List.length_append, List.length_singleton]; omega)
      rw [List.filter_cons_of_pos (by simp [hm])]
      simp only [decide_eq_false hm, Bool.false_eq_true, if_false]
      rw [List.append_assoc, List.singleton_append] at this
      exact this
theorem changes_l2 (more : List Int) (hm : Near more) : ∀ (ns wo : List Int), wo.length + ns.length < 1000 →
    Ev (fun k => polliwoglaw03_SpanChanges.l2 k more ns wo) (wo ++ ns.filter (fun n => !decide (n ∈ more)))
  | [], wo, _ => by
    rw [List.filter_nil, List.append_nil]
    exact Ev.now _
  | n :: ns, wo, hl => by
    have h1 := near_len hm
    rw [List.length_cons] at hl
    simp only [polliwoglaw03_SpanChanges.l2]
    refine Ev.bind (has_ev more n (by omega)) ?_
    simp only [if_pos (show wo.length < 1099511627776 by omega)]
    by_cases hq : n ∈ more
    · have := changes_l2 more hm ns wo (by omega)
      rw [List.filter_cons_of_neg (by simp [hq])]
      simp only [decide_eq_true hq, if_true]
      exact this
    · have := changes_l2 more hm ns (wo ++ [n]) (by rw [List.length_append, List.length_singleton]; omega)
      rw [List.filter_cons_of_pos (by simp [hq])]
      simp only [decide_eq_false hq, Bool.false_eq_true, if_false]
      rw [List.append_assoc, List.singleton_append] at this
      exact this
theorem rise_filter {l : List Int} (p : Int → Bool) (h : Rise l) : Rise (l.filter p) := List.Pairwise.filter _ h
theorem SpanChanges (l0 : List (S45)) (x : S45) (_ : ∀ x ∈ l0, Args.good45 x) (_ : Args.good45 x) : ∃ k, polliwoglaw03_SpanChanges.f k l0 x.f0 x.f1 = some true := by
  refine Ev.rounds (g := fun k => polliwoglaw03_SpanChanges.f k l0 x.f0 x.f1) ?_
  unfold polliwoglaw03_SpanChanges.f
  refine Ev.bind awake_ev ?_
  simp only [if_true]
  refine Ev.bind (few_ev l0) ?_
  refine Ev.bind (few_ev [⟨x.f0, x.f1⟩]) ?_
  obtain ⟨n1, s1, m1, b1⟩ := set_few l0
  obtain ⟨r1, a1⟩ := few_all l0
  obtain ⟨r2, a2⟩ := few_all [(⟨x.f0, x.f1⟩ : S45)]
  have hf1 := few_near l0
  have hf2 := few_near [(⟨x.f0, x.f1⟩ : S45)]
  have hs2 := few_small [(⟨x.f0, x.f1⟩ : S45)]
  have q1 := near_len r1
  have q2 := near_len r2
  have hl1 := few_len l0
  obtain ⟨y, hy⟩ : ∃ y, fewL [(⟨x.f0, x.f1⟩ : S45)] = [y] := ⟨_, rfl⟩
  rw [hy] at r2 a2 hf2 hs2 q2
  simp only [hy]
  refine Ev.bind (of_ev _ (by omega)) ?_
  generalize allF [] (fewL l0) = all at *
  generalize allF [] [y] = more at *
  generalize ofL (fewL l0) = s at *
  have hy0 := hf2 y (List.mem_singleton.2 rfl)
  have hym : ∀ n, n ∈ more ↔ y.f0 ≤ n ∧ n < y.f1 := fun n => by rw [a2, mem_one]
  refine Ev.bind (changes_l1 all r1 more all [] r2.2 r1 (by simp; omega)) ?_
  refine Ev.bind (changes_l2 more r2 all [] (by simp; omega)) ?_
  simp only [List.nil_append, polliwoglaw03_SpanChanges.fin]
  obtain ⟨p1, p2⟩ := fold_put more all r1.1
  have hyn := near_small (hs2 y (List.mem_singleton.2 rfl))
  have hw : Near (more.foldl putL all) := ⟨p1, fun n hn => ((p2 n).1 hn).elim (r1.2 n) (r2.2 n)⟩
  have qw := near_len hw
  obtain ⟨c1, c2, c3⟩ := add_spec s1 (x := y) (small_one hs2 (List.mem_singleton.2 rfl))
  obtain ⟨d1, d2, d3⟩ := drop_spec s1 y
  rw [hyn] at d3
  obtain ⟨o1, o2⟩ := ofL_spec [y]
  have o3 := ofL_mem (small_one hs2 (List.mem_singleton.2 rfl))
  obtain ⟨g1, g2, g3⟩ := drops_spec s (ofL [y]) (ofL_small _) o1 s1
  have l2 : (all.filter fun n => !decide (n ∈ more)).length ≤ all.length := List.length_filter_le _ _
  have l3 : (more.filter fun n => !decide (n ∈ all)).length ≤ more.length := List.length_filter_le _ _
  refine Ev.bind (add_ev s y (by omega)) ?_
  refine Ev.bind (is_ev c1 c2 p1 (by omega) (fun n => by rw [p2, c3, m1, hym])) ?_
  simp only [if_true]
  refine Ev.bind (drop_ev s y (by omega)) ?_
  refine Ev.bind (is_ev d1 d2 (rise_filter _ r1.1) (by omega) (fun n => by rw [d3, List.mem_filter, m1, ← hym]; simp)) ?_
  simp only [if_true]
  refine Ev.bind (gaps_ev s [y] y hf2 hs2 (List.mem_singleton.2 rfl) (by omega)) ?_
  refine Ev.bind (is_ev g1 g2 (rise_filter _ r2.1) (by omega) (fun n => by rw [g3, o3, mem_one, List.mem_filter, hym, ← m1]; simp)) ?_
  simp only [if_true]
  refine Ev.bind (is_ev n1 s1 r1.1 (by omega) m1) ?_
  simp only [if_true]
  exact Ev.now _
end Go.Proofs.Ytihobchcmfamaaa.Pure
