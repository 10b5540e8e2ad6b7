/- SpanOrder: the plain law. -/
import Derived.Test.YtihobchcmfamaaaEvDrop
import Derived.Test.YtihobchcmfamaaaArgs
import Derived.Test.YtihobchcmfamaaaS0
import Derived.Test.YtihobchcmfamaaaS23
import Derived.Test.YtihobchcmfamaaaS24
import Derived.Test.YtihobchcmfamaaaS25
namespace Go.Proofs.Ytihobchcmfamaaa.Pure
open Go.RowKit Go.Proofs.Ytihobchcmfamaaa.S Go.Proofs.YtihobchcmfamaaaW.PrintWords Go.Proofs.YtihobchcmfamaaaW.PrintMore Go.Proofs.Ytihobchcmfamaaa.SpanTh Go.Proofs.Ytihobchcmfamaaa.SpanEv
theorem order_l2 (few : List (S45)) (all : List Int) (hf : ∀ x ∈ few, -100 ≤ x.f0 ∧ x.f0 ≤ 100 ∧ -100 ≤ x.f1 ∧ x.f1 ≤ 100) (hfs : Small few) (hfl : few.length ≤ 12) (hR : Near all) (hm : ∀ n, n ∈ all ↔ Mem n few) (s : List (S45)) (hs : Inv few s) (hsm : ∀ n, Mem n few → Mem n s) : ∀ (c i : Nat) (t : List (S45)), few.length - i = c → i ≤ few.length → Inv few t → (∀ n, Mem n t → Mem n (few.drop i)) →
    Ev (fun k => polliwoglaw03_SpanOrder.l2 k all s t few (few.length : Int) (i : Int)) true := by
  intro c
  induction c with
  | zero =>
    intro i t hc hi ht hd
    obtain rfl : i = few.length := by omega
    rw [List.drop_length] at hd
    have e : t = [] := by
      cases t with
      | nil => rfl
      | cons x t => exact absurd (hd _ (norm_head_mem ht.1)) (mem_nil _)
    subst e
    have hlen := near_len hR
    have hi := is_ev (l := all) hs.1 hs.2.1 hR.1 (by omega) (fun n => by rw [hm]; exact ⟨hsm n, hs.2.2 n⟩)
    refine Ev.step (fun k => ?_) (Ev.bind (f := fun _ t => if t = true then (some ((([] : List (S45)).length : Int) == 0)) else none) hi (Ev.now _))
    rw [polliwoglaw03_SpanOrder.l2, if_neg (Int.lt_irrefl _)]
  | succ c ih =>
    intro i t hc hi ht hd
    have hlt : i < few.length := by omega
    have hr := rd_at few i hlt
    have hw := w1 (i := i) (by omega)
    have hx := List.getElem_mem hlt
    have hl := inv_len hf ht
    obtain ⟨a, b, d⟩ := drop_spec ht.2.1 few[i]
    have e := near_small (hfs _ hx)
    refine Ev.step (f := fun k => (span_Set_Drop.f k t few[i].f0 few[i].f1).bind fun u => polliwoglaw03_SpanOrder.l2 k all s u few (few.length : Int) ((i + 1 : Nat) : Int)) (fun k => ?_) (Ev.bind (drop_ev t few[i] (by omega)) (ih (i + 1) (dropR t few[i]) (by omega) (by omega) ⟨a, b, fun n hn => ht.2.2 n ((d n).1 hn).1⟩ (fun n hn => ?_)))
    · have p1 : (i : Int) < (few.length : Int) := Int.ofNat_lt.2 hlt
      have p2 : (0 : Int) ≤ (i : Int) := Int.natCast_nonneg i
      rw [polliwoglaw03_SpanOrder.l2, if_pos p1, if_pos p2, if_pos p1, hr, hw]
    · obtain ⟨h1, h2⟩ := (d n).1 hn
      rw [e] at h2
      have h3 := hd n h1
      rw [List.drop_eq_getElem_cons hlt, mem_cons] at h3
      exact h3.resolve_left h2
theorem order_l1 (few : List (S45)) (all : List Int) (hf : ∀ x ∈ few, -100 ≤ x.f0 ∧ x.f0 ≤ 100 ∧ -100 ≤ x.f1 ∧ x.f1 ≤ 100) (hfs : Small few) (hfl : few.length ≤ 12) (hR : Near all) (hm : ∀ n, n ∈ all ↔ Mem n few) : ∀ (c i : Nat) (s : List (S45)), few.length - i = c → i ≤ few.length → Inv few s → (∀ n, Mem n (few.drop (few.length - i)) → Mem n s) →
    Ev (fun k => polliwoglaw03_SpanOrder.l1 k few all (few.length : Int) s (few.length : Int) (i : Int)) true := by
  intro c
  induction c with
  | zero =>
    intro i s hc hi hs hd
    obtain rfl : i = few.length := by omega
    rw [Nat.sub_self, List.drop_zero] at hd
    refine Ev.step (fun k => ?_) (order_l2 few all hf hfs hfl hR hm s hs hd few.length 0 s rfl (Nat.zero_le _) hs (by rw [List.drop_zero]; exact hs.2.2))
    rw [polliwoglaw03_SpanOrder.l1, if_neg (Int.lt_irrefl _)]
    rfl
  | succ c ih =>
    intro i s hc hi hs hd
    have hlt : i < few.length := by omega
    have hq : few.length - 1 - i < few.length := by omega
    have hr := rd_at few (few.length - 1 - i) hq
    have hw := w1 (i := i) (by omega)
    have hx := List.getElem_mem hq
    have hl := inv_len hf hs
    have hwq : wrap64 (wrap64 ((few.length : Int) - 1) - (i : Int)) = ((few.length - 1 - i : Nat) : Int) := by
      rw [wid (x := (few.length : Int) - 1) (by omega) (by omega), wid (by omega) (by omega)]
      omega
    obtain ⟨a, b⟩ := inv_add hfs hs hx
    refine Ev.step (f := fun k => (span_Set_Add.f k s few[few.length - 1 - i].f0 few[few.length - 1 - i].f1).bind fun u => polliwoglaw03_SpanOrder.l1 k few all (few.length : Int) u (few.length : Int) ((i + 1 : Nat) : Int)) (fun k => ?_) (Ev.bind (add_ev s few[few.length - 1 - i] (by omega)) (ih (i + 1) _ (by omega) (by omega) a (fun n hn => ?_)))
    · have p1 : (i : Int) < (few.length : Int) := Int.ofNat_lt.2 hlt
      have p2 : (0 : Int) ≤ ((few.length - 1 - i : Nat) : Int) := Int.natCast_nonneg _
      have p3 : ((few.length - 1 - i : Nat) : Int) < (few.length : Int) := Int.ofNat_lt.2 hq
      rw [polliwoglaw03_SpanOrder.l1, if_pos p1, hwq, if_pos p2, if_pos p3, hr, hw]
    · have e : few.length - (i + 1) = few.length - 1 - i := by omega
      rw [e, List.drop_eq_getElem_cons hq, mem_cons] at hn
      rw [b]
      rcases hn with h | h
      · exact .inr h
      · exact .inl (hd n (by rw [show few.length - i = few.length - 1 - i + 1 by omega]; exact h))
theorem order_l0 (few : List (S45)) (all : List Int) (hf : ∀ x ∈ few, -100 ≤ x.f0 ∧ x.f0 ≤ 100 ∧ -100 ≤ x.f1 ∧ x.f1 ≤ 100) (hfs : Small few) (hfl : few.length ≤ 12) (hR : Near all) (hm : ∀ n, n ∈ all ↔ Mem n few) (l1 : List Int) : ∀ (c i : Nat) (s : List (S45)), 30 - i = c → i ≤ 30 → Inv few s →
    Ev (fun k => polliwoglaw03_SpanOrder.l0 k l1 few all (few.length : Int) s (i : Int)) true := by
  have hj : ∀ s, Inv few s → Ev (fun k => polliwoglaw03_SpanOrder.j1 k few all (few.length : Int) s) true := fun s hs =>
    Ev.step (fun k => by rw [polliwoglaw03_SpanOrder.j1]; rfl) (order_l1 few all hf hfs hfl hR hm few.length 0 s rfl (Nat.zero_le _) hs (by
      intro n hn
      rw [Nat.sub_zero, List.drop_length] at hn
      exact absurd hn (mem_nil n)))
  intro c
  induction c with
  | zero =>
    intro i s hc hi hs
    obtain rfl : i = 30 := by omega
    refine Ev.step (fun k => ?_) (hj s hs)
    rw [polliwoglaw03_SpanOrder.l0]
    split
    · rw [if_neg (by decide)]
    · rfl
  | succ c ih =>
    intro i s hc hi hs
    by_cases h1 : (i : Int) < (l1.length : Int)
    · by_cases h2 : (few.length : Int) > 0
      · have b1 := Int.tmod_lt_of_pos (rd l1 (i : Int)) h2
        have b2 := Int.lt_tmod_of_pos (rd l1 (i : Int)) h2
        have hwa : wrap64 (Int.tmod (rd l1 (i : Int)) (few.length : Int) + (few.length : Int)) = Int.tmod (rd l1 (i : Int)) (few.length : Int) + (few.length : Int) := by
          generalize Int.tmod (rd l1 (i : Int)) (few.length : Int) = z at *
          exact wid (by omega) (by omega)
        have b3 := Int.tmod_lt_of_pos (Int.tmod (rd l1 (i : Int)) (few.length : Int) + (few.length : Int)) h2
        have b4 : 0 ≤ Int.tmod (Int.tmod (rd l1 (i : Int)) (few.length : Int) + (few.length : Int)) (few.length : Int) := Int.tmod_nonneg _ (by
          generalize Int.tmod (rd l1 (i : Int)) (few.length : Int) = z at *
          omega)
        obtain ⟨q, hq⟩ := Int.eq_ofNat_of_zero_le b4
        rw [hq] at b3
        have hql : q < few.length := by omega
        have hr := rd_at few q hql
        have hw := w1 (i := i) (by omega)
        have hx := List.getElem_mem hql
        have hl := inv_len hf hs
        obtain ⟨a, _⟩ := inv_add hfs hs hx
        refine Ev.step (f := fun k => (span_Set_Add.f k s few[q].f0 few[q].f1).bind fun u => polliwoglaw03_SpanOrder.l0 k l1 few all (few.length : Int) u ((i + 1 : Nat) : Int)) (fun k => ?_) (Ev.bind (add_ev s few[q] (by omega)) (ih (i + 1) _ (by omega) (by omega) a))
        have p1 : (i : Int) < 30 := by omega
        have p2 : (0 : Int) ≤ (i : Int) := Int.natCast_nonneg _
        have p3 : ¬ (few.length : Int) = 0 := by omega
        rw [polliwoglaw03_SpanOrder.l0, if_pos h1, if_pos p1, if_pos h2, if_pos p2, if_neg p3, hwa, hq, if_pos (Int.natCast_nonneg q), if_pos b3, hr, hw]
      · refine Ev.step (fun k => ?_) (hj s hs)
        have p1 : (i : Int) < 30 := by omega
        rw [polliwoglaw03_SpanOrder.l0, if_pos h1, if_pos p1, if_neg h2]
    · refine Ev.step (fun k => ?_) (hj s hs)
      rw [polliwoglaw03_SpanOrder.l0, if_neg h1]
theorem SpanOrder (l0 : List (S45)) (l1 : List Int) (_ : ∀ x ∈ l0, Args.good45 x) (_ : ∀ x ∈ l1, (Lit.int .i64 x).wf = true) : ∃ k, polliwoglaw03_SpanOrder.f k l0 l1 = some true := by
  refine Ev.rounds (g := fun k => polliwoglaw03_SpanOrder.f k l0 l1) ?_
  unfold polliwoglaw03_SpanOrder.f
  refine Ev.bind awake_ev ?_
  simp only [if_true]
  refine Ev.bind (few_ev l0) ?_
  obtain ⟨r, m⟩ := few_all l0
  exact order_l0 (fewL l0) (allF [] (fewL l0)) (few_near l0) (few_small l0) (few_len l0) r m l1 30 0 [] rfl (by decide) (inv_nil _)
end Go.Proofs.Ytihobchcmfamaaa.Pure
