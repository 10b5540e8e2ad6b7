/- What the printed functions of layer 3, of its document and of its laws come to: the theory's words. -/
import Derived.Test.YtiiljdglbfgdbaaThSpan
import Derived.Sort.AssemblyPlain
import Derived.Test.YtiiljdglbfgdbaaS0
import Derived.Test.YtiiljdglbfgdbaaS1
import Derived.Test.YtiiljdglbfgdbaaS2
import Derived.Test.YtiiljdglbfgdbaaS3
import Derived.Test.YtiiljdglbfgdbaaS5
namespace Go.Proofs.Ytiiljdglbfgdbaa.SpanEv
open Go.RowKit Go.Proofs.Ytiiljdglbfgdbaa.S Go.Proofs.YtiiljdglbfgdbaaW.PrintWords Go.Proofs.YtiiljdglbfgdbaaW.PrintMore Go.Proofs.Ytiiljdglbfgdbaa.SpanTh
theorem mx_eq (a b : Int) : mx a b = max a b := by unfold mx; omega
theorem mn_eq (a b : Int) : mn a b = min a b := by unfold mn; omega
theorem w1 {i : Nat} (h : i < 4611686018427387904) : wrap64 ((i : Int) + 1) = ((i + 1 : Nat) : Int) := by unfold wrap64; omega
theorem rd_at (l : List (S105)) (i : Nat) (h : i < l.length) : rd_T105 l (i : Int) = l[i] := by
  unfold rd_T105
  rw [Int.toNat_natCast]
  simp [h]
theorem near_eq (x : S105) : span_Span_near.f x.f0 x.f1 = some ((nearL x).f0, (nearL x).f1) := by
  unfold span_Span_near.f nearL mostL
  rw [mx_eq, mn_eq, mx_eq, mn_eq]
  rfl
theorem sort_spec (l : List (S105)) (h : l.length < 4611686018427387904) : ∃ d, span_Span.f l = some d ∧ d.Perm l ∧ d.Pairwise fun a b => a.f0 ≤ b.f0 := by
  unfold span_Span.f
  rw [if_pos h]
  have hps := Go.Sort.pdq_sorts (ltOf span_Span.cf) span_Span.swo (l.map span_Span.pr).toArray 0 l.length (Lib.bitLen l.length) true true (Nat.zero_le _) (by simp) (Or.inl rfl)
  generalize Go.Sort.pdq (ltOf span_Span.cf) (l.map span_Span.pr).toArray 0 l.length (Lib.bitLen l.length) true true = d at hps
  obtain ⟨⟨hsz, _, hperm⟩, hsorted⟩ := hps
  have hn : d.size = l.length := by rw [hsz]; simp
  have e1 : (d.extract 0 l.length).toList = d.toList := by rw [← hn]; simp
  have e2 : (((l.map span_Span.pr).toArray).extract 0 l.length).toList = l.map span_Span.pr := by simp [List.take_of_length_le]
  rw [e1, e2] at hperm
  refine ⟨_, rfl, ?_, ?_⟩
  · have h2 := hperm.map span_Span.un
    rw [List.map_map] at h2
    have e3 : l.map (span_Span.un ∘ span_Span.pr) = l := by
      conv => rhs; rw [← List.map_id l]
      exact List.map_congr_left (fun x _ => rfl)
    rwa [e3] at h2
  · rw [List.pairwise_map, List.pairwise_iff_getElem]
    intro i j hi hj hij
    have h3 := hsorted i j (Nat.zero_le _) hij (by rw [Array.length_toList] at hj; omega)
    rw [span_Span.lt] at h3
    rw [Array.length_toList] at hi hj
    rw [getElem!_pos d i (by omega), getElem!_pos d j (by omega)] at h3
    simp only [decide_eq_false_iff_not] at h3
    show (d.toList[i]).1 ≤ (d.toList[j]).1
    simp only [Array.getElem_toList]
    omega
theorem of_l1 (d : List (S105)) (hd : d.length < 1099511627776) : ∀ (m j : Nat) (out : List (S105)), d.length - j = m → j ≤ d.length → out.length ≤ j → Ev (fun k => span_Of.l1 k out d (d.length : Int) (j : Int)) ((d.drop j).foldl push out) := by
  intro m
  induction m with
  | zero =>
    intro j out hm hj ho
    obtain rfl : j = d.length := by omega
    refine Ev.step (f := fun _ => some out) (fun k => ?_) (by rw [List.drop_length]; exact Ev.now _)
    rw [span_Of.l1, if_neg (by omega)]
  | succ m ih =>
    intro j out hm hj ho
    have hlt : j < d.length := by omega
    rw [List.drop_eq_getElem_cons hlt, List.foldl_cons]
    have hr := rd_at d j hlt
    have hw := w1 (i := j) (by omega)
    have hpl : (push out d[j]).length ≤ j + 1 := by
      rcases List.eq_nil_or_concat out with rfl | ⟨o, y, rfl⟩
      · rw [push_nil]; simp
      · rw [List.concat_eq_append] at *
        rw [push_snoc]
        split <;> simp at * <;> omega
    have hi := ih (j + 1) (push out d[j]) (by omega) (by omega) hpl
    refine Ev.step (fun k => ?_) hi
    rw [span_Of.l1, if_pos (by omega), if_pos (by omega), if_pos (by omega), hr, hw]
    rcases List.eq_nil_or_concat out with rfl | ⟨o, y, rfl⟩
    · have e : wrap64 ((([] : List (S105)).length : Int) - 1) = -1 := by simp only [List.length_nil, wrap64]; decide
      rw [e, if_neg (by omega), if_pos (by simp), push_nil]
      rfl
    · rw [List.concat_eq_append] at *
      have e : wrap64 (((o ++ [y]).length : Int) - 1) = (o.length : Int) := by
        rw [List.length_append, List.length_singleton]
        simp only [List.length_append, List.length_singleton] at ho
        unfold wrap64
        omega
      have ho2 : o.length + 1 ≤ j := by simpa using ho
      have e2 : rd_T105 (o ++ [y]) (o.length : Int) = y := by rw [rd_at _ _ (by simp)]; simp
      rw [e, if_pos (by omega), if_pos (by omega), if_pos (by simp; omega), e2, push_snoc]
      by_cases hc : d[j].f0 ≤ y.f1
      · rw [if_pos hc, if_pos hc, Int.toNat_natCast, mx_eq]
        congr 1
        simp
      · rw [if_neg hc, if_neg hc, if_pos (by simp; omega)]
theorem of_l0 (l : List (S105)) (hl : l.length < 1099511627776) : ∀ (m i : Nat) (x3 : List (S105)), l.length - i = m → i ≤ l.length → x3.length ≤ i → (∀ x ∈ x3, x.f0 < x.f1) → Ev (fun k => span_Of.l0 k x3 l (l.length : Int) (i : Int)) (ofG (x3 ++ keptL (l.drop i))) := by
  intro m
  induction m with
  | zero =>
    intro i x3 hm hi hx hne
    obtain rfl : i = l.length := by omega
    rw [List.drop_length, show keptL [] = [] from rfl, List.append_nil]
    obtain ⟨d, h1, h2, h3⟩ := sort_spec x3 (by omega)
    have hd := of_l1 d (by rw [h2.length_eq]; omega) d.length 0 [] rfl (Nat.zero_le _) (Nat.le_refl _)
    rw [List.drop_zero, ofG_eq hne h2 h3] at hd
    refine Ev.step (fun k => ?_) hd
    rw [span_Of.l0, if_neg (by omega), h1, Option.bind_some, h2.length_eq]
    rfl
  | succ m ih =>
    intro i x3 hm hi hx hne
    have hlt : i < l.length := by omega
    have hr := rd_at l i hlt
    have hw := w1 (i := i) (by omega)
    rw [List.drop_eq_getElem_cons hlt, kept_cons]
    by_cases hc : (nearL l[i]).f0 < (nearL l[i]).f1
    · rw [if_pos hc, show x3 ++ nearL l[i] :: keptL (l.drop (i + 1)) = (x3 ++ [nearL l[i]]) ++ keptL (l.drop (i + 1)) by simp]
      refine Ev.step (fun k => ?_) (ih (i + 1) (x3 ++ [nearL l[i]]) (by omega) (by omega) (by simp; omega) (fun x hx => ?_))
      · rw [span_Of.l0, if_pos (by omega), if_pos (by omega), if_pos (by omega), hr, near_eq, Option.bind_some]
        simp only [span_Span_empty.f, Option.bind_some]
        rw [if_neg (by simp; omega), if_pos (by omega), hw]
      · rcases List.mem_append.1 hx with h | h
        · exact hne x h
        · rw [List.mem_singleton] at h; subst h; exact hc
    · rw [if_neg hc]
      refine Ev.step (fun k => ?_) (ih (i + 1) x3 (by omega) (by omega) (by omega) hne)
      rw [span_Of.l0, if_pos (by omega), if_pos (by omega), if_pos (by omega), hr, near_eq, Option.bind_some]
      simp only [span_Span_empty.f, Option.bind_some]
      rw [if_pos (by simp; omega), hw]
/-- span.Of. -/
theorem of_ev (l : List (S105)) (hl : l.length < 1099511627776) : Ev (fun k => span_Of.f k l) (ofL l) := by
  have h := of_l0 l hl l.length 0 [] rfl (Nat.zero_le _) (Nat.le_refl _) (fun _ h => by cases h)
  rw [List.drop_zero, List.nil_append, ofG_kept] at h
  exact h
end Go.Proofs.Ytiiljdglbfgdbaa.SpanEv
namespace Go.Proofs.Ytiiljdglbfgdbaa.SpanEv
open Go.RowKit Go.Proofs.Ytiiljdglbfgdbaa.S Go.Proofs.YtiiljdglbfgdbaaW.PrintWords Go.Proofs.YtiiljdglbfgdbaaW.PrintMore Go.Proofs.Ytiiljdglbfgdbaa.SpanTh
theorem wid {x : Int} (h0 : -9223372036854775808 ≤ x) (h1 : x ≤ 9223372036854775807) : wrap64 x = x := by unfold wrap64; omega
end Go.Proofs.Ytiiljdglbfgdbaa.SpanEv
namespace Go.Proofs.Ytiiljdglbfgdbaa.SpanEv
open Go.RowKit Go.Proofs.Ytiiljdglbfgdbaa.S Go.Proofs.YtiiljdglbfgdbaaW.PrintWords Go.Proofs.YtiiljdglbfgdbaaW.PrintMore Go.Proofs.Ytiiljdglbfgdbaa.SpanTh
end Go.Proofs.Ytiiljdglbfgdbaa.SpanEv
namespace Go.Proofs.Ytiiljdglbfgdbaa.SpanEv
open Go.RowKit Go.Proofs.Ytiiljdglbfgdbaa.S Go.Proofs.YtiiljdglbfgdbaaW.PrintWords Go.Proofs.YtiiljdglbfgdbaaW.PrintMore Go.Proofs.Ytiiljdglbfgdbaa.SpanTh
theorem mem_one (n : Int) (x : S105) : Mem n [x] ↔ x.f0 ≤ n ∧ n < x.f1 := by rw [mem_cons]; simp [mem_nil]
theorem small_one {few : List (S105)} (hf : Small few) {x : S105} (hx : x ∈ few) : Small [x] := fun y hy => by rw [List.mem_singleton] at hy; subst hy; exact hf _ hx
theorem small_append {s t : List (S105)} (hs : Small s) (ht : Small t) : Small (s ++ t) := fun x hx => (List.mem_append.1 hx).elim (hs x) (ht x)
end Go.Proofs.Ytiiljdglbfgdbaa.SpanEv
namespace Go.Proofs.Ytiiljdglbfgdbaa.SpanEv
open Go.RowKit Go.Proofs.Ytiiljdglbfgdbaa.S Go.Proofs.YtiiljdglbfgdbaaW.PrintWords Go.Proofs.YtiiljdglbfgdbaaW.PrintMore Go.Proofs.Ytiiljdglbfgdbaa.SpanTh
def meetL (x y : S105) : S105 := ⟨max x.f0 y.f0, min x.f1 y.f1⟩
def meets (s t : List (S105)) : List (S105) := s.flatMap fun x => t.map (meetL x)
theorem both_l1 (t s : List (S105)) (i : Int) (x : S105) (v : List (S105)) (ht : t.length < 1099511627776) : ∀ (m j : Nat) (out : List (S105)), t.length - j = m → j ≤ t.length → out.length + m < 8796093022208 →
    Ev (fun k => span_Set_Both.l0 k t (out ++ (t.drop j).map (meetL x)) s (s.length : Int) (wrap64 (i + 1))) v → Ev (fun k => span_Set_Both.l1 k t out s (s.length : Int) i t (t.length : Int) (j : Int) x.f0 x.f1) v := by
  intro m
  induction m with
  | zero =>
    intro j out hm hj ho he
    obtain rfl : j = t.length := by omega
    rw [List.drop_length, List.map_nil, List.append_nil] at he
    refine Ev.step (fun k => ?_) he
    rw [span_Set_Both.l1, if_neg (by omega)]
  | succ m ih =>
    intro j out hm hj ho he
    have hlt : j < t.length := by omega
    have hr := rd_at t j hlt
    have hw := w1 (i := j) (by omega)
    rw [List.drop_eq_getElem_cons hlt, List.map_cons, show out ++ meetL x t[j] :: (t.drop (j + 1)).map (meetL x) = out ++ [meetL x t[j]] ++ (t.drop (j + 1)).map (meetL x) by simp] at he
    refine Ev.step (fun k => ?_) (ih (j + 1) (out ++ [meetL x t[j]]) (by omega) (by omega) (by simp; omega) he)
    rw [span_Set_Both.l1, if_pos (by omega), if_pos (by omega), if_pos (by omega), if_pos (by omega), hr, mx_eq, mn_eq, hw]
    rfl
theorem both_l0 (s t : List (S105)) (hs : s.length < 1099511627776) (ht : t.length < 1099511627776) (hb : s.length * t.length < 1099511627776) : ∀ (m i : Nat) (out : List (S105)), s.length - i = m → i ≤ s.length → out.length = i * t.length →
    Ev (fun k => span_Set_Both.l0 k t out s (s.length : Int) (i : Int)) (ofL (out ++ meets (s.drop i) t)) := by
  intro m
  induction m with
  | zero =>
    intro i out hm hi ho
    obtain rfl : i = s.length := by omega
    rw [List.drop_length, show meets [] t = [] from rfl, List.append_nil]
    refine Ev.step (f := fun k => (span_Of.f k out).bind fun t => some t) (fun k => ?_) (Ev.bind (of_ev out (by omega)) (Ev.now _))
    rw [span_Set_Both.l0, if_neg (by omega)]
  | succ m ih =>
    intro i out hm hi ho
    have hlt : i < s.length := by omega
    have hr := rd_at s i hlt
    have hw := w1 (i := i) (by omega)
    have hmul : (i + 1) * t.length ≤ s.length * t.length := Nat.mul_le_mul_right _ hlt
    rw [Nat.succ_mul] at hmul
    have e : meets (s.drop i) t = t.map (meetL s[i]) ++ meets (s.drop (i + 1)) t := by rw [List.drop_eq_getElem_cons hlt]; rfl
    rw [e, ← List.append_assoc]
    refine Ev.step (fun k => ?_) (both_l1 t s (i : Int) s[i] _ ht t.length 0 out rfl (Nat.zero_le _) (by omega) (by rw [hw, List.drop_zero]; exact ih (i + 1) _ (by omega) (by omega) (by rw [List.length_append, List.length_map, ho, Nat.succ_mul])))
    rw [span_Set_Both.l0, if_pos (by omega), if_pos (by omega), if_pos (by omega), hr]
    rfl
theorem both_ev (s t : List (S105)) (hs : s.length < 1099511627776) (ht : t.length < 1099511627776) (hb : s.length * t.length < 1099511627776) : Ev (fun k => span_Set_Both.f k s t) (ofL (meets s t)) := by
  have := both_l0 s t hs ht hb s.length 0 [] rfl (Nat.zero_le _) (by simp)
  rwa [List.drop_zero, List.nil_append] at this
theorem mem_meets (s t : List (S105)) (n : Int) : Mem n (meets s t) ↔ Mem n s ∧ Mem n t := by
  constructor
  · rintro ⟨x, hx, h0, h1⟩
    obtain ⟨a, ha, hx⟩ := List.mem_flatMap.1 hx
    obtain ⟨b, hb, rfl⟩ := List.mem_map.1 hx
    simp only [meetL] at h0 h1
    exact ⟨⟨a, ha, by omega, by omega⟩, ⟨b, hb, by omega, by omega⟩⟩
  · rintro ⟨⟨a, ha, h0, h1⟩, ⟨b, hb, h2, h3⟩⟩
    exact ⟨meetL a b, List.mem_flatMap.2 ⟨a, ha, List.mem_map.2 ⟨b, hb, rfl⟩⟩, by simp only [meetL]; omega, by simp only [meetL]; omega⟩
theorem small_meets {s t : List (S105)} (hs : Small s) (ht : Small t) : Small (meets s t) := by
  intro x hx
  obtain ⟨a, ha, hx⟩ := List.mem_flatMap.1 hx
  obtain ⟨b, hb, rfl⟩ := List.mem_map.1 hx
  have := hs a ha
  have := ht b hb
  simp only [meetL]
  omega
/-- Both of two sets: normal, small, and what is in both. -/
theorem both_spec {s t : List (S105)} (hs : Small s) (ht : Small t) : Norm (ofL (meets s t)) ∧ Small (ofL (meets s t)) ∧ ∀ n, Mem n (ofL (meets s t)) ↔ Mem n s ∧ Mem n t :=
  ⟨(ofL_spec _).1, ofL_small _, fun n => by rw [ofL_mem (small_meets hs ht), mem_meets]⟩
end Go.Proofs.Ytiiljdglbfgdbaa.SpanEv
