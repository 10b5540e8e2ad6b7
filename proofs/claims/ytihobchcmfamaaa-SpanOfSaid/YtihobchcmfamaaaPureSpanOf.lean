/- SpanOf: the plain law. -/
import Derived.Test.YtihobchcmfamaaaEvAwake
import Derived.Test.YtihobchcmfamaaaEvHas
import Derived.Test.YtihobchcmfamaaaArgs
import Derived.Test.YtihobchcmfamaaaS0
import Derived.Test.YtihobchcmfamaaaS4
import Derived.Test.YtihobchcmfamaaaS11
import Derived.Test.YtihobchcmfamaaaS19
import Derived.Test.YtihobchcmfamaaaS20
import Derived.Test.YtihobchcmfamaaaS33
namespace Go.Proofs.Ytihobchcmfamaaa.Pure
open Go.RowKit Go.Proofs.Ytihobchcmfamaaa.S Go.Proofs.YtihobchcmfamaaaW.PrintWords Go.Proofs.YtihobchcmfamaaaW.PrintMore Go.Proofs.Ytihobchcmfamaaa.SpanTh Go.Proofs.Ytihobchcmfamaaa.SpanEv
theorem of_core (few s : List (S45)) (all : List Int) (a1 : Int) (hs : s = ofL few) (hfs : Small few) (hN : Norm s) (hS : Small s) (hR : Near all) (hm : ∀ n, n ∈ all ↔ Mem n s) (hl : s.length ≤ 200) (hfl : few.length ≤ 12) :
    Ev (fun k => (span_Of.f k few).bind fun t => (polliwoglaw03_is.f k t all).bind fun u => if u = true then ((span_Set_Has.f t a1).bind fun p => (polliwogref03_Has.f k all a1).bind fun q => if (p == q) = true then ((span_Of.f k t).bind fun v => (span_Same.f k t v).bind fun w => if w = true then (if few.length + few.length < 8796093022208 then ((span_Of.f k (few ++ few)).bind fun x => (span_Same.f k t x).bind fun y => some y) else none) else none) else none) else none) true := by
  have hlen := near_len hR
  have h1 := of_ev few (by omega)
  rw [← hs] at h1
  refine Ev.bind h1 ?_
  refine Ev.bind (is_ev hN hS hR.1 (by omega) hm) ?_
  simp only [if_true]
  rw [hasS_eq hN]
  simp only [Option.bind_some]
  refine Ev.bind (has_ev all a1 (by omega)) ?_
  have e1 : (decide (∃ y ∈ s, y.f0 ≤ a1 ∧ a1 < y.f1) == decide (a1 ∈ all)) = true := by
    rw [beq_iff_eq, decide_eq_decide]
    exact (hm a1).symm
  simp only [e1, if_true]
  have h2 := of_ev s (by omega)
  rw [ofL_norm hN hS] at h2
  refine Ev.bind h2 ?_
  have h3 := setsame_ev s s (by omega)
  rw [decide_eq_true rfl] at h3
  refine Ev.bind h3 ?_
  have hlt : few.length + few.length < 8796093022208 := by omega
  simp only [if_true, if_pos hlt]
  have e2 : ofL (few ++ few) = s := by
    rw [hs]
    refine norm_ext (ofL_spec _).1 (ofL_spec _).1 (fun n => ?_)
    rw [ofL_mem (small_append hfs hfs), ofL_mem hfs, mem_append, or_self]
  have h4 := of_ev (few ++ few) (by rw [List.length_append]; omega)
  rw [e2] at h4
  exact Ev.bind h4 (Ev.bind h3 (Ev.now _))
theorem SpanOf (l0 : List (S45)) (a1 : Int) (_ : ∀ x ∈ l0, Args.good45 x) (_ : (Lit.int .i64 a1).wf = true) : ∃ k, polliwoglaw03_SpanOf.f k l0 a1 = some true := by
  refine Ev.rounds (g := fun k => polliwoglaw03_SpanOf.f k l0 a1) ?_
  unfold polliwoglaw03_SpanOf.f
  refine Ev.bind awake_ev ?_
  simp only [if_true]
  refine Ev.bind (few_ev l0) ?_
  obtain ⟨n1, s1, m1, b1⟩ := set_few l0
  exact of_core (fewL l0) (ofL (fewL l0)) (allF [] (fewL l0)) a1 rfl (few_small l0) n1 s1 (few_all l0).1 m1 b1 (few_len l0)
end Go.Proofs.Ytihobchcmfamaaa.Pure
