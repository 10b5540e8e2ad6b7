/- GapsMoves: the plain law. -/
import Derived.Test.YtihobchcmfamaaaEvGap
import Derived.Test.YtihobchcmfamaaaEvAwake
import Derived.Test.YtihobchcmfamaaaArgs
import Derived.Test.YtihobchcmfamaaaS0
import Derived.Test.YtihobchcmfamaaaS9
import Derived.Test.YtihobchcmfamaaaS14
namespace Go.Proofs.Ytihobchcmfamaaa.Pure
open Go.RowKit Go.Proofs.Ytihobchcmfamaaa.S Go.Proofs.YtihobchcmfamaaaW.PrintWords Go.Proofs.YtihobchcmfamaaaW.PrintMore Go.Proofs.Ytihobchcmfamaaa.SpanTh Go.Proofs.Ytihobchcmfamaaa.SpanEv
theorem moves_l0 (by_ : Int) (a c : List Int) (v : Int) (hl : a.length < 1000000) (he : a.length = c.length) (hm : ∀ (i : Nat) (h : i < a.length) (h2 : i < c.length), gM a[i] by_ = c[i]) (ha : gaps_Count.f a = some v) (hc : gaps_Count.f c = some v) :
    ∀ (m i : Nat), a.length - i = m → i ≤ a.length → Ev (fun k => polliwoglaw09_GapsMoves.l0 k by_ a c (a.length : Int) (i : Int)) true := by
  intro m
  induction m with
  | zero =>
    intro i h1 h2
    obtain rfl : i = a.length := by omega
    refine Ev.step (f := fun _ => some true) (fun k => ?_) (Ev.now _)
    rw [polliwoglaw09_GapsMoves.l0, if_neg (Int.lt_irrefl _), ha, hc, Option.bind_some, Option.bind_some, beq_self_eq_true]
  | succ m ih =>
    intro i h1 h2
    have hlt : i < a.length := by omega
    have hlt2 : i < c.length := by omega
    have hr := rdi_at a i hlt
    have hr2 := rdi_at c i hlt2
    have hw := w1 (i := i) (by omega)
    have hmi := hm i hlt hlt2
    refine Ev.step (fun k => ?_) (ih (i + 1) (by omega) (by omega))
    rw [polliwoglaw09_GapsMoves.l0, if_pos (by omega), if_pos (by omega), if_pos (by omega), hr, add_eq, Option.bind_some, if_pos (by omega), hr2, if_pos hmi, hw]
theorem GapsMoves (a0 : Int) (l1 : List (S45)) (a2 : Int) (_ : (Lit.int .u32 a0).wf = true) (_ : ∀ x ∈ l1, Args.good45 x) (_ : (Lit.int .i64 a2).wf = true) : ∃ k, polliwoglaw09_GapsMoves.f k a0 l1 a2 = some true := by
  refine Ev.rounds (g := fun k => polliwoglaw09_GapsMoves.f k a0 l1 a2) ?_
  unfold polliwoglaw09_GapsMoves.f
  refine Ev.bind awake9_ev ?_
  simp only [if_true]
  refine Ev.bind (few_ev l1) ?_
  obtain ⟨n1, s1, m1, b1⟩ := set_few l1
  have h0 := few_len l1
  refine Ev.bind (of_ev (fewL l1) (by omega)) ?_
  generalize ofL (fewL l1) = s at *
  rw [low_eq]
  simp only [Option.bind_some]
  refine Ev.bind (glist_ev (a0 % 16777216) s (by omega)) ?_
  rw [add_eq]
  simp only [Option.bind_some]
  refine Ev.bind (glist_ev (gM (a0 % 16777216) a2) s (by omega)) ?_
  have hc := cutH_len (s := s) (by omega)
  have hlen : ((pairsOf (a0 % 16777216) (cutH s)).length : Int) = ((pairsOf (gM (a0 % 16777216) a2) (cutH s)).length : Int) := by rw [pairs_len, pairs_len]
  simp only [if_pos hlen]
  refine moves_l0 a2 _ _ ((cutH s).foldl countF 0) (by rw [pairs_len]; omega) (by rw [pairs_len, pairs_len]) (fun i h h2 => ?_) (count_eq _ _ (by omega)) (count_eq _ _ (by omega)) _ 0 rfl (Nat.zero_le _)
  simp only [pairs_ends, List.getElem_map]
  exact gM_move _ _ _
end Go.Proofs.Ytihobchcmfamaaa.Pure
