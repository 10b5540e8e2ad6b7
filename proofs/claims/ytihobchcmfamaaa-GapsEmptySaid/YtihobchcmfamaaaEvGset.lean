/- gaps.Set, over the pairs of a set. -/
import Derived.Test.YtihobchcmfamaaaEvGap
import Derived.Test.YtihobchcmfamaaaS0
import Derived.Test.YtihobchcmfamaaaS4
import Derived.Test.YtihobchcmfamaaaS34
namespace Go.Proofs.Ytihobchcmfamaaa.SpanEv
open Go.RowKit Go.Proofs.Ytihobchcmfamaaa.S Go.Proofs.YtihobchcmfamaaaW.PrintWords Go.Proofs.YtihobchcmfamaaaW.PrintMore Go.Proofs.Ytihobchcmfamaaa.SpanTh Go.Proofs.Ytihobchcmfamaaa.Bits
theorem rdg_some {l : List Int} {i : Nat} {x : Int} (h : l[i]? = some x) : rd l (i : Int) = x := by
  unfold rd
  rw [Int.toNat_natCast]
  simp [h]
theorem tmod_even (j : Nat) : ¬ Int.tmod ((2 * j : Nat) : Int) 2 = 1 := by
  rw [Int.tmod_eq_emod_of_nonneg (Int.natCast_nonneg _)]
  omega
theorem tmod_odd (j : Nat) : Int.tmod ((2 * j + 1 : Nat) : Int) 2 = 1 := by
  rw [Int.tmod_eq_emod_of_nonneg (Int.natCast_nonneg _)]
  omega
/-- One turn of the loop at an even place. -/
theorem set_even (b E last : Int) (l : List Int) (j : Nat) (x : Int) (hj : 2 * j < l.length) (hl : l.length < 1099511627776) (hx : l[2 * j]? = some (gM b x)) (h0 : 0 ≤ x) (h1 : x < 16777216) (h2 : last < x) (h3 : x ≤ E) (out : List (S45)) (v : List (S45) × Bool)
    (h : Ev (fun k => gaps_Set.l0 k b E x out l (l.length : Int) ((2 * j + 1 : Nat) : Int)) v) : Ev (fun k => gaps_Set.l0 k b E last out l (l.length : Int) ((2 * j : Nat) : Int)) v := by
  have hw : wrap64 (((2 * j : Nat) : Int) + 1) = ((2 * j + 1 : Nat) : Int) := w1 (by omega)
  have e : (gM b x - b) % 16777216 = x := by rw [gM_to0]; omega
  have p1 : ((2 * j : Nat) : Int) < (l.length : Int) := Int.ofNat_lt.2 hj
  have p2 : (0 : Int) ≤ ((2 * j : Nat) : Int) := Int.natCast_nonneg _
  have p3 : decide (x > E) = false := by rw [decide_eq_false_iff_not]; omega
  refine Ev.step (f := fun k => gaps_Set.j2 k b E last out ((2 * j : Nat) : Int) x l (l.length : Int) ((2 * j : Nat) : Int) false) (fun k => ?_) (Ev.step (fun k => ?_) h)
  · rw [gaps_Set.l0, if_pos p1, if_pos p2, if_pos p1, rdg_some hx, to_eq, Option.bind_some, e, if_neg (by omega), p3]
  · rw [gaps_Set.j2, if_neg (by decide), if_neg (tmod_even j), hw]
theorem set_odd (b E last : Int) (l : List Int) (j : Nat) (x : Int) (hj : 2 * j + 1 < l.length) (hl : l.length < 1099511627776) (hx : l[2 * j + 1]? = some (gM b x)) (h0 : 0 ≤ x) (h1 : x < 16777216) (h2 : last < x) (h3 : x ≤ E) (out : List (S45)) (ho : out.length < 1099511627776) (v : List (S45) × Bool)
    (h : Ev (fun k => gaps_Set.l0 k b E x (out ++ [⟨last, x⟩]) l (l.length : Int) ((2 * (j + 1) : Nat) : Int)) v) : Ev (fun k => gaps_Set.l0 k b E last out l (l.length : Int) ((2 * j + 1 : Nat) : Int)) v := by
  have hw : wrap64 (((2 * j + 1 : Nat) : Int) + 1) = ((2 * (j + 1) : Nat) : Int) := w1 (by omega)
  have e : (gM b x - b) % 16777216 = x := by rw [gM_to0]; omega
  have p1 : ((2 * j + 1 : Nat) : Int) < (l.length : Int) := Int.ofNat_lt.2 hj
  have p2 : (0 : Int) ≤ ((2 * j + 1 : Nat) : Int) := Int.natCast_nonneg _
  have p3 : decide (x > E) = false := by rw [decide_eq_false_iff_not]; omega
  have p4 : out.length < 8796093022208 := by omega
  refine Ev.step (f := fun k => gaps_Set.j2 k b E last out ((2 * j + 1 : Nat) : Int) x l (l.length : Int) ((2 * j + 1 : Nat) : Int) false) (fun k => ?_) (Ev.step (fun k => ?_) h)
  · rw [gaps_Set.l0, if_pos p1, if_pos p2, if_pos p1, rdg_some hx, to_eq, Option.bind_some, e, if_neg (by omega), p3]
  · rw [gaps_Set.j2, if_neg (by decide), if_pos (tmod_odd j), if_pos p4, hw]
theorem set_l0 (b E : Int) (c : List (S45)) (hl : c.length < 1000000) (hN : Norm c) (hM : ∀ x ∈ c, 0 ≤ x.f0 ∧ x.f0 < x.f1 ∧ x.f1 ≤ E) (hE : E ≤ 8388608) : ∀ (m j : Nat) (last : Int) (out : List (S45)), c.length - j = m → j ≤ c.length → out.length = j → (∀ x ∈ c.drop j, last < x.f0) →
    Ev (fun k => gaps_Set.l0 k b E last out (pairsOf b c) ((pairsOf b c).length : Int) ((2 * j : Nat) : Int)) (ofL (out ++ c.drop j), true) := by
  have hlen := pairs_len b c
  intro m
  induction m with
  | zero =>
    intro j last out hm hj ho hx
    obtain rfl : j = c.length := by omega
    rw [List.drop_length, List.append_nil]
    refine Ev.step (f := fun k => (span_Of.f k out).bind fun t => some (t, true)) (fun k => ?_) (Ev.bind (of_ev out (by omega)) (Ev.now _))
    have p1 : ¬ ((2 * c.length : Nat) : Int) < ((pairsOf b c).length : Int) := by omega
    rw [gaps_Set.l0, if_neg p1]
  | succ m ih =>
    intro j last out hm hj ho hx
    have hlt : j < c.length := by omega
    obtain ⟨a0, a1⟩ := pairs_at b c j hlt
    have hc := hM c[j] (List.getElem_mem hlt)
    have hlast : last < c[j].f0 := hx c[j] (by rw [List.drop_eq_getElem_cons hlt]; exact List.mem_cons_self)
    rw [List.drop_eq_getElem_cons hlt, show out ++ c[j] :: c.drop (j + 1) = out ++ [c[j]] ++ c.drop (j + 1) by simp]
    refine set_even b E last _ j c[j].f0 (by omega) (by omega) a0 (by omega) (by omega) hlast (by omega) out _ ?_
    refine set_odd b E c[j].f0 _ j c[j].f1 (by omega) (by omega) a1 (by omega) (by omega) (by omega) (by omega) out (by omega) _ ?_
    exact ih (j + 1) c[j].f1 (out ++ [c[j]]) (by omega) (by omega) (by simp; omega) (fun x hx => by
      obtain ⟨p, hp, rfl⟩ := List.mem_iff_getElem.1 hx
      rw [List.getElem_drop]
      rw [List.length_drop] at hp
      exact List.pairwise_iff_getElem.1 hN.2 j (j + 1 + p) hlt (by omega) (by omega))
/-- gaps.Set over a set's own pairs gives the set. -/
theorem gset_ev (b top : Int) (c : List (S45)) (hl : c.length < 1000000) (hN : Norm c) (hS : Small c) (hM : ∀ x ∈ c, 0 ≤ x.f0 ∧ x.f0 < x.f1 ∧ x.f1 ≤ (top - b) % 16777216) (hE : (top - b) % 16777216 ≤ 8388608) : Ev (fun k => gaps_Set.f k b top (pairsOf b c)) (c, true) := by
  unfold gaps_Set.f
  rw [to_eq]
  simp only [Option.bind_some]
  have p1 : ((pairsOf b c).length : Int) % 2 = 0 := by rw [pairs_len]; omega
  have p2 : decide ((top - b) % 16777216 > 8388608) = false := by rw [decide_eq_false_iff_not]; omega
  simp only [if_pos p1, p2]
  have h := set_l0 b _ c hl hN hM hE c.length 0 (-1) [] rfl (Nat.zero_le _) rfl (fun x hx => by have := hM x (List.mem_of_mem_drop hx); omega)
  rw [List.drop_zero, List.nil_append, ofL_norm hN hS] at h
  refine Ev.step (fun k => ?_) h
  rw [gaps_Set.j0, if_neg (by decide)]
  rfl
/-- And none, where the last of a single pair lies beyond the top. -/
theorem gset_far (b top n : Int) (h0 : 0 ≤ (top - b) % 16777216) (h1 : (top - b) % 16777216 < n) (hn : n ≤ 8388608) : Ev (fun k => gaps_Set.f k b top (pairsOf b [⟨0, n⟩])) ([], false) := by
  unfold gaps_Set.f
  rw [to_eq]
  simp only [Option.bind_some]
  have p1 : ((pairsOf b [(⟨0, n⟩ : S45)]).length : Int) % 2 = 0 := by rw [pairs_len, List.length_singleton]; decide
  have p2 : decide ((top - b) % 16777216 > 8388608) = false := by rw [decide_eq_false_iff_not]; omega
  simp only [if_pos p1, p2]
  have hq : (pairsOf b [(⟨0, n⟩ : S45)]).length = 2 := pairs_len _ _
  have a01 := pairs_at b [(⟨0, n⟩ : S45)] 0 (by simp)
  have a0 : (pairsOf b [(⟨0, n⟩ : S45)])[2 * 0]? = some (gM b 0) := a01.1
  have a1 : (pairsOf b [(⟨0, n⟩ : S45)])[2 * 0 + 1]? = some (gM b n) := a01.2
  refine Ev.step (f := fun k => gaps_Set.l0 k b ((top - b) % 16777216) (-1) [] (pairsOf b [⟨0, n⟩]) ((pairsOf b [(⟨0, n⟩ : S45)]).length : Int) ((2 * 0 : Nat) : Int)) (fun k => ?_) (set_even b _ (-1) _ 0 0 (by omega) (by omega) a0 (by omega) (by omega) (by omega) h0 [] _ ?_)
  · rw [gaps_Set.j0, if_neg (by decide)]
    rfl
  · have e : (gM b n - b) % 16777216 = n := by rw [gM_to0]; omega
    have q1 : ((2 * 0 + 1 : Nat) : Int) < ((pairsOf b [(⟨0, n⟩ : S45)]).length : Int) := by rw [hq]; decide
    have q2 : (0 : Int) ≤ ((2 * 0 + 1 : Nat) : Int) := Int.natCast_nonneg _
    have q3 : decide (n > (top - b) % 16777216) = true := by rw [decide_eq_true_iff]; omega
    refine Ev.step (f := fun k => gaps_Set.j2 k b ((top - b) % 16777216) 0 [] ((2 * 0 + 1 : Nat) : Int) n (pairsOf b [⟨0, n⟩]) ((pairsOf b [(⟨0, n⟩ : S45)]).length : Int) ((2 * 0 + 1 : Nat) : Int) true) (fun k => ?_) (Ev.step (f := fun _ => some ([], false)) (fun k => ?_) (Ev.now _))
    · rw [gaps_Set.l0, if_pos q1, if_pos q2, if_pos q1, rdg_some a1, to_eq, Option.bind_some]
      rw [e, if_neg (by omega), q3]
    · rw [gaps_Set.j2, if_pos rfl]
end Go.Proofs.Ytihobchcmfamaaa.SpanEv
