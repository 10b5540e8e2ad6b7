/- GapsEmpty: the plain law. -/
import Derived.Test.YtihobchcmfamaaaEvGset
import Derived.Test.YtihobchcmfamaaaEvSpan
import Derived.Test.YtihobchcmfamaaaArgs
import Derived.Test.YtihobchcmfamaaaS0
import Derived.Test.YtihobchcmfamaaaS35
namespace Go.Proofs.Ytihobchcmfamaaa.Pure
open Go.RowKit Go.Proofs.Ytihobchcmfamaaa.S Go.Proofs.YtihobchcmfamaaaW.PrintWords Go.Proofs.YtihobchcmfamaaaW.PrintMore Go.Proofs.Ytihobchcmfamaaa.SpanTh Go.Proofs.Ytihobchcmfamaaa.SpanEv
theorem one_norm {a b : Int} (h : a < b) (h0 : 0 ≤ a) (h1 : b ≤ 8388608) : Norm [(⟨a, b⟩ : S45)] ∧ Small [(⟨a, b⟩ : S45)] ∧ ofL [(⟨a, b⟩ : S45)] = [⟨a, b⟩] ∧ cutH [(⟨a, b⟩ : S45)] = [⟨a, b⟩] := by
  have hn : Norm [(⟨a, b⟩ : S45)] := ⟨fun x hx => by rw [List.mem_singleton] at hx; subst hx; exact h, by simp⟩
  have hs : Small [(⟨a, b⟩ : S45)] := fun x hx => by rw [List.mem_singleton] at hx; subst hx; unfold mostL; simp only; omega
  obtain ⟨p, _, q, _⟩ := cutH_spec hs
  refine ⟨hn, hs, ofL_norm hn hs, norm_ext p hn (fun n => ?_)⟩
  rw [q, mem_cons]
  simp only [mem_nil, or_false]
  omega
theorem GapsEmpty (a0 : Int) (a1 : Int) (_ : (Lit.int .u32 a0).wf = true) (_ : (Lit.int .i64 a1).wf = true) : ∃ k, polliwoglaw09_GapsEmpty.f k a0 a1 = some true := by
  refine Ev.rounds (g := fun k => polliwoglaw09_GapsEmpty.f k a0 a1) ?_
  unfold polliwoglaw09_GapsEmpty.f
  refine Ev.bind awake9_ev ?_
  simp only [if_true]
  rw [low_eq]
  simp only [Option.bind_some]
  have hn : 1 ≤ mx 1 (mn a1 300) ∧ mx 1 (mn a1 300) ≤ 300 := by unfold mx mn; split <;> split <;> omega
  generalize mx 1 (mn a1 300) = n at *
  obtain ⟨hn0, hn1⟩ := hn
  have hb : 0 ≤ a0 % 16777216 ∧ a0 % 16777216 < 16777216 := by omega
  generalize a0 % 16777216 = b at *
  obtain ⟨N1, S1, O1, C1⟩ := one_norm (a := n - 1) (b := n) (by omega) (by omega) (by omega)
  obtain ⟨N2, S2, O2, C2⟩ := one_norm (a := 0) (b := n) (by omega) (by omega) (by omega)
  have o1 := of_ev [(⟨n - 1, n⟩ : S45)] (by simp)
  rw [O1] at o1
  have o2 := of_ev [(⟨0, n⟩ : S45)] (by simp)
  rw [O2] at o2
  have g1 := glist_ev b [(⟨n - 1, n⟩ : S45)] (by simp)
  rw [C1] at g1
  have g2 := glist_ev b [(⟨0, n⟩ : S45)] (by simp)
  rw [C2] at g2
  have z := cutH_spec (s := ([] : List (S45))) (fun _ h => by cases h)
  have Cz : cutH ([] : List (S45)) = [] := norm_ext z.1 norm_nil (fun m => by rw [z.2.2.1]; simp [mem_nil])
  have g3 := glist_ev b ([] : List (S45)) (by simp)
  rw [Cz] at g3
  have e1 : (gM b n - b) % 16777216 = n := by rw [gM_to0]; omega
  have e2 : (gM b (n - 1) - b) % 16777216 = n - 1 := by rw [gM_to0]; omega
  have s1 := gset_ev b (gM b n) [(⟨0, n⟩ : S45)] (by simp) N2 S2 (fun x hx => by rw [List.mem_singleton] at hx; subst hx; simp only [e1]; omega) (by omega)
  have s2 := gset_far b (gM b (n - 1)) n (by omega) (by omega) (by omega)
  have s3 := gset_ev b b ([] : List (S45)) (by simp) norm_nil (fun _ h => by cases h) (fun _ h => by cases h) (by rw [Int.sub_self]; decide)
  have l1 := len_ev [(⟨0, n⟩ : S45)] (by simp) N2.1 (by unfold lenL; simp; omega)
  have l2 := len_ev ([] : List (S45)) (by simp) (fun _ h => by cases h) (by decide)
  have hl1 : lenL [(⟨0, n⟩ : S45)] = n := by unfold lenL; simp
  rw [hl1] at l1
  have c1 := count_eq b [(⟨0, n⟩ : S45)] (by simp)
  rw [count_mid _ _ (fun x hx => by rw [List.mem_singleton] at hx; subst hx; simp only; omega), hl1] at c1
  refine Ev.bind o1 ?_
  refine Ev.bind g1 ?_
  refine Ev.bind o2 ?_
  refine Ev.bind g2 ?_
  simp only [add_eq, Option.bind_some]
  refine Ev.bind s1 ?_
  refine Ev.bind s2 ?_
  refine Ev.bind s3 ?_
  refine Ev.bind g3 ?_
  have r0 : rd (pairsOf b [(⟨n - 1, n⟩ : S45)]) 0 = gM b (n - 1) := rfl
  have r1 : rd (pairsOf b [(⟨n - 1, n⟩ : S45)]) 1 = gM b n := rfl
  have q0 : ((pairsOf b ([] : List (S45))).length : Int) = 0 := rfl
  have q1 : ((pairsOf b [(⟨n - 1, n⟩ : S45)]).length : Int) = 2 := by rw [pairs_len]; rfl
  have q2 : ((pairsOf b [(⟨0, n⟩ : S45)]).length : Int) = 2 := by rw [pairs_len]; rfl
  have w : gM (gM b (n - 1)) 1 = gM b n := by rw [gM_add]; congr 1; omega
  simp only [q0, q1, q2, r0, r1, w, if_true, show (0 : Int) < 2 from by decide, show (1 : Int) < 2 from by decide]
  refine Ev.bind l1 ?_
  simp only [if_true, Bool.false_eq_true, if_false]
  refine Ev.bind l2 ?_
  rw [show lenL ([] : List (S45)) = 0 from rfl, c1]
  simp only [if_true, Option.bind_some, Int.zero_add, beq_self_eq_true]
  exact Ev.now _
end Go.Proofs.Ytihobchcmfamaaa.Pure
