/- What the printed functions of layer 3, of its document and of its laws come to: the theory's words. -/
import Derived.Test.YtihobchcmfamaaaThSpan
import Derived.Sort.AssemblyPlain
import Derived.Test.YtihobchcmfamaaaS0
import Derived.Test.YtihobchcmfamaaaS2
import Derived.Test.YtihobchcmfamaaaS3
import Derived.Test.YtihobchcmfamaaaS4
import Derived.Test.YtihobchcmfamaaaS5
import Derived.Test.YtihobchcmfamaaaS6
import Derived.Test.YtihobchcmfamaaaS7
import Derived.Test.YtihobchcmfamaaaS8
import Derived.Test.YtihobchcmfamaaaS9
import Derived.Test.YtihobchcmfamaaaS10
import Derived.Test.YtihobchcmfamaaaS11
import Derived.Test.YtihobchcmfamaaaS12
import Derived.Test.YtihobchcmfamaaaS13
namespace Go.Proofs.Ytihobchcmfamaaa.SpanEv
open Go.RowKit Go.Proofs.Ytihobchcmfamaaa.S Go.Proofs.YtihobchcmfamaaaW.PrintWords Go.Proofs.YtihobchcmfamaaaW.PrintMore Go.Proofs.Ytihobchcmfamaaa.SpanTh
theorem mx_eq (a b : Int) : mx a b = max a b := by unfold mx; omega
theorem mn_eq (a b : Int) : mn a b = min a b := by unfold mn; omega
theorem w1 {i : Nat} (h : i < 4611686018427387904) : wrap64 ((i : Int) + 1) = ((i + 1 : Nat) : Int) := by unfold wrap64; omega
theorem rd_at (l : List (S45)) (i : Nat) (h : i < l.length) : rd_T45 l (i : Int) = l[i] := by
  unfold rd_T45
  rw [Int.toNat_natCast]
  simp [h]
theorem rdi_at (l : List Int) (i : Nat) (h : i < l.length) : rd l (i : Int) = l[i] := by
  unfold rd
  rw [Int.toNat_natCast]
  simp [h]
theorem near_eq (x : S45) : span_Span_near.f x.f0 x.f1 = some ((nearL x).f0, (nearL x).f1) := by
  unfold span_Span_near.f nearL mostL
  rw [mx_eq, mn_eq, mx_eq, mn_eq]
  rfl
theorem sort_spec (l : List (S45)) (h : l.length < 4611686018427387904) : ∃ d, span_Span_46.f l = some d ∧ d.Perm l ∧ d.Pairwise fun a b => a.f0 ≤ b.f0 := by
  unfold span_Span_46.f
  rw [if_pos h]
  have hps := Go.Sort.pdq_sorts (ltOf span_Span_46.cf) span_Span_46.swo (l.map span_Span_46.pr).toArray 0 l.length (Lib.bitLen l.length) true true (Nat.zero_le _) (by simp) (Or.inl rfl)
  generalize Go.Sort.pdq (ltOf span_Span_46.cf) (l.map span_Span_46.pr).toArray 0 l.length (Lib.bitLen l.length) true true = d at hps
  obtain ⟨⟨hsz, _, hperm⟩, hsorted⟩ := hps
  have hn : d.size = l.length := by rw [hsz]; simp
  have e1 : (d.extract 0 l.length).toList = d.toList := by rw [← hn]; simp
  have e2 : (((l.map span_Span_46.pr).toArray).extract 0 l.length).toList = l.map span_Span_46.pr := by simp [List.take_of_length_le]
  rw [e1, e2] at hperm
  refine ⟨_, rfl, ?_, ?_⟩
  · have h2 := hperm.map span_Span_46.un
    rw [List.map_map] at h2
    have e3 : l.map (span_Span_46.un ∘ span_Span_46.pr) = l := by
      conv => rhs; rw [← List.map_id l]
      exact List.map_congr_left (fun x _ => rfl)
    rwa [e3] at h2
  · rw [List.pairwise_map, List.pairwise_iff_getElem]
    intro i j hi hj hij
    have h3 := hsorted i j (Nat.zero_le _) hij (by rw [Array.length_toList] at hj; omega)
    rw [span_Span_46.lt] at h3
    rw [Array.length_toList] at hi hj
    rw [getElem!_pos d i (by omega), getElem!_pos d j (by omega)] at h3
    simp only [decide_eq_false_iff_not] at h3
    show (d.toList[i]).1 ≤ (d.toList[j]).1
    simp only [Array.getElem_toList]
    omega
theorem of_l1 (d : List (S45)) (hd : d.length < 1099511627776) : ∀ (m j : Nat) (out : List (S45)), d.length - j = m → j ≤ d.length → out.length ≤ j → Ev (fun k => span_Of.l1 k out d (d.length : Int) (j : Int)) ((d.drop j).foldl push out) := by
  intro m
  induction m with
  | zero =>
    intro j out hm hj ho
    obtain rfl : j = d.length := by omega
    refine Ev.step (f := fun _ => some out) (fun k => ?_) (by rw [List.drop_length]; exact Ev.now _)
    rw [span_Of.l1, if_neg (by omega)]
  | succ m ih =>
    intro j out hm hj ho
    have hlt : j < d.length := by omega
    rw [List.drop_eq_getElem_cons hlt, List.foldl_cons]
    have hr := rd_at d j hlt
    have hw := w1 (i := j) (by omega)
    have hpl : (push out d[j]).length ≤ j + 1 := by
      rcases List.eq_nil_or_concat out with rfl | ⟨o, y, rfl⟩
      · rw [push_nil]; simp
      · rw [List.concat_eq_append] at *
        rw [push_snoc]
        split <;> simp at * <;> omega
    have hi := ih (j + 1) (push out d[j]) (by omega) (by omega) hpl
    refine Ev.step (fun k => ?_) hi
    rw [span_Of.l1, if_pos (by omega), if_pos (by omega), if_pos (by omega), hr, hw]
    rcases List.eq_nil_or_concat out with rfl | ⟨o, y, rfl⟩
    · have e : wrap64 ((([] : List (S45)).length : Int) - 1) = -1 := by simp only [List.length_nil, wrap64]; decide
      rw [e, if_neg (by omega), if_pos (by simp), push_nil]
      rfl
    · rw [List.concat_eq_append] at *
      have e : wrap64 (((o ++ [y]).length : Int) - 1) = (o.length : Int) := by
        rw [List.length_append, List.length_singleton]
        simp only [List.length_append, List.length_singleton] at ho
        unfold wrap64
        omega
      have ho2 : o.length + 1 ≤ j := by simpa using ho
      have e2 : rd_T45 (o ++ [y]) (o.length : Int) = y := by rw [rd_at _ _ (by simp)]; simp
      rw [e, if_pos (by omega), if_pos (by omega), if_pos (by simp; omega), e2, push_snoc]
      by_cases hc : d[j].f0 ≤ y.f1
      · rw [if_pos hc, if_pos hc, Int.toNat_natCast, mx_eq]
        congr 1
        simp
      · rw [if_neg hc, if_neg hc, if_pos (by simp; omega)]
theorem of_l0 (l : List (S45)) (hl : l.length < 1099511627776) : ∀ (m i : Nat) (x3 : List (S45)), l.length - i = m → i ≤ l.length → x3.length ≤ i → (∀ x ∈ x3, x.f0 < x.f1) → Ev (fun k => span_Of.l0 k x3 l (l.length : Int) (i : Int)) (ofG (x3 ++ keptL (l.drop i))) := by
  intro m
  induction m with
  | zero =>
    intro i x3 hm hi hx hne
    obtain rfl : i = l.length := by omega
    rw [List.drop_length, show keptL [] = [] from rfl, List.append_nil]
    obtain ⟨d, h1, h2, h3⟩ := sort_spec x3 (by omega)
    have hd := of_l1 d (by rw [h2.length_eq]; omega) d.length 0 [] rfl (Nat.zero_le _) (Nat.le_refl _)
    rw [List.drop_zero, ofG_eq hne h2 h3] at hd
    refine Ev.step (fun k => ?_) hd
    rw [span_Of.l0, if_neg (by omega), h1, Option.bind_some, h2.length_eq]
    rfl
  | succ m ih =>
    intro i x3 hm hi hx hne
    have hlt : i < l.length := by omega
    have hr := rd_at l i hlt
    have hw := w1 (i := i) (by omega)
    rw [List.drop_eq_getElem_cons hlt, kept_cons]
    by_cases hc : (nearL l[i]).f0 < (nearL l[i]).f1
    · rw [if_pos hc, show x3 ++ nearL l[i] :: keptL (l.drop (i + 1)) = (x3 ++ [nearL l[i]]) ++ keptL (l.drop (i + 1)) by simp]
      refine Ev.step (fun k => ?_) (ih (i + 1) (x3 ++ [nearL l[i]]) (by omega) (by omega) (by simp; omega) (fun x hx => ?_))
      · rw [span_Of.l0, if_pos (by omega), if_pos (by omega), if_pos (by omega), hr, near_eq, Option.bind_some]
        simp only [span_Span_empty.f, Option.bind_some]
        rw [if_neg (by simp; omega), if_pos (by omega), hw]
      · rcases List.mem_append.1 hx with h | h
        · exact hne x h
        · rw [List.mem_singleton] at h; subst h; exact hc
    · rw [if_neg hc]
      refine Ev.step (fun k => ?_) (ih (i + 1) x3 (by omega) (by omega) (by omega) hne)
      rw [span_Of.l0, if_pos (by omega), if_pos (by omega), if_pos (by omega), hr, near_eq, Option.bind_some]
      simp only [span_Span_empty.f, Option.bind_some]
      rw [if_pos (by simp; omega), hw]
/-- span.Of. -/
theorem of_ev (l : List (S45)) (hl : l.length < 1099511627776) : Ev (fun k => span_Of.f k l) (ofL l) := by
  have h := of_l0 l hl l.length 0 [] rfl (Nat.zero_le _) (Nat.le_refl _) (fun _ h => by cases h)
  rw [List.drop_zero, List.nil_append, ofG_kept] at h
  exact h
end Go.Proofs.Ytihobchcmfamaaa.SpanEv
namespace Go.Proofs.Ytihobchcmfamaaa.SpanEv
open Go.RowKit Go.Proofs.Ytihobchcmfamaaa.S Go.Proofs.YtihobchcmfamaaaW.PrintWords Go.Proofs.YtihobchcmfamaaaW.PrintMore Go.Proofs.Ytihobchcmfamaaa.SpanTh
theorem wid {x : Int} (h0 : -9223372036854775808 ≤ x) (h1 : x ≤ 9223372036854775807) : wrap64 x = x := by unfold wrap64; omega
theorem has_l0 (l : List Int) (x : Int) (hl : l.length < 1099511627776) : ∀ (m i : Nat), l.length - i = m → i ≤ l.length → Ev (fun k => polliwogref03_Has.l0 k x l (l.length : Int) (i : Int)) (decide (x ∈ l.drop i)) := by
  intro m
  induction m with
  | zero =>
    intro i hm hi
    obtain rfl : i = l.length := by omega
    refine Ev.step (f := fun _ => some false) (fun k => ?_) (by rw [List.drop_length]; exact Ev.now _)
    rw [polliwogref03_Has.l0, if_neg (by omega)]
  | succ m ih =>
    intro i hm hi
    have hlt : i < l.length := by omega
    have hr := rdi_at l i hlt
    have hw := w1 (i := i) (by omega)
    rw [List.drop_eq_getElem_cons hlt]
    by_cases hc : l[i] = x
    · refine Ev.step (f := fun _ => some true) (fun k => ?_) (by rw [show decide (x ∈ l[i] :: l.drop (i + 1)) = true by simp [hc]]; exact Ev.now _)
      rw [polliwogref03_Has.l0, if_pos (by omega), if_pos (by omega), if_pos (by omega), hr, if_pos hc]
    · have := ih (i + 1) (by omega) (by omega)
      rw [show decide (x ∈ l[i] :: l.drop (i + 1)) = decide (x ∈ l.drop (i + 1)) from decide_eq_decide.2 ⟨fun h => (List.mem_cons.1 h).resolve_left (fun e => hc e.symm), List.mem_cons_of_mem _⟩]
      refine Ev.step (fun k => ?_) this
      rw [polliwogref03_Has.l0, if_pos (by omega), if_pos (by omega), if_pos (by omega), hr, if_neg hc, hw]
theorem has_ev (l : List Int) (x : Int) (hl : l.length < 1099511627776) : Ev (fun k => polliwogref03_Has.f k l x) (decide (x ∈ l)) := by
  have := has_l0 l x hl l.length 0 rfl (Nat.zero_le _)
  rwa [List.drop_zero] at this
theorem put_copy (l : List Int) (x : Int) (hl : l.length < 1099511627776) : ∀ (m i : Nat) (out : List Int), l.length - i = m → i ≤ l.length → out.length ≤ i + 1 → Ev (fun k => polliwogref03_Put.l0 k x out true l (l.length : Int) (i : Int)) (out ++ l.drop i) := by
  intro m
  induction m with
  | zero =>
    intro i out hm hi ho
    obtain rfl : i = l.length := by omega
    refine Ev.step (f := fun _ => some out) (fun k => ?_) (by rw [List.drop_length, List.append_nil]; exact Ev.now _)
    rw [polliwogref03_Put.l0, if_neg (by omega), if_pos rfl]
  | succ m ih =>
    intro i out hm hi ho
    have hlt : i < l.length := by omega
    have hr := rdi_at l i hlt
    have hw := w1 (i := i) (by omega)
    have := ih (i + 1) (out ++ [l[i]]) (by omega) (by omega) (by simp; omega)
    rw [List.drop_eq_getElem_cons hlt, show out ++ l[i] :: l.drop (i + 1) = out ++ [l[i]] ++ l.drop (i + 1) by simp]
    refine Ev.step (fun k => ?_) this
    rw [polliwogref03_Put.l0, if_pos (by omega), if_pos (by omega), if_pos (by omega), hr, if_pos rfl, if_pos (by omega), hw]
theorem put_ins (l : List Int) (x : Int) (hl : l.length < 1099511627776) : ∀ (m i : Nat) (out : List Int), l.length - i = m → i ≤ l.length → out.length ≤ i → Ev (fun k => polliwogref03_Put.l0 k x out false l (l.length : Int) (i : Int)) (out ++ insL x (l.drop i)) := by
  intro m
  induction m with
  | zero =>
    intro i out hm hi ho
    obtain rfl : i = l.length := by omega
    refine Ev.step (f := fun _ => some (out ++ [x])) (fun k => ?_) (by rw [List.drop_length]; exact Ev.now _)
    rw [polliwogref03_Put.l0, if_neg (by omega), if_neg (by decide), if_pos (by omega)]
  | succ m ih =>
    intro i out hm hi ho
    have hlt : i < l.length := by omega
    have hr := rdi_at l i hlt
    have hw := w1 (i := i) (by omega)
    rw [List.drop_eq_getElem_cons hlt]
    by_cases hc : x < l[i]
    · have := put_copy l x hl (l.length - (i + 1)) (i + 1) (out ++ [x] ++ [l[i]]) rfl (by omega) (by simp; omega)
      rw [show out ++ insL x (l[i] :: l.drop (i + 1)) = out ++ [x] ++ [l[i]] ++ l.drop (i + 1) by simp [insL, hc]]
      refine Ev.step (fun k => ?_) this
      rw [polliwogref03_Put.l0, if_pos (by omega), if_pos (by omega), if_pos (by omega), hr, if_neg (by decide), if_pos hc, if_pos (by omega), Option.bind_some, if_pos (by simp; omega), hw]
    · have := ih (i + 1) (out ++ [l[i]]) (by omega) (by omega) (by simp; omega)
      rw [show out ++ insL x (l[i] :: l.drop (i + 1)) = out ++ [l[i]] ++ insL x (l.drop (i + 1)) by simp [insL, hc]]
      refine Ev.step (fun k => ?_) this
      rw [polliwogref03_Put.l0, if_pos (by omega), if_pos (by omega), if_pos (by omega), hr, if_neg (by decide), if_neg hc, if_pos (by omega), hw]
theorem put_ev (l : List Int) (x : Int) (hl : l.length < 1099511627776) : Ev (fun k => polliwogref03_Put.f k l x) (putL l x) := by
  unfold polliwogref03_Put.f
  refine Ev.bind (has_ev l x hl) ?_
  unfold putL
  by_cases hc : x ∈ l
  · rw [if_pos hc]
    simp only [hc, decide_true, if_true]
    exact Ev.now _
  · rw [if_neg hc]
    have := put_ins l x hl l.length 0 [] rfl (Nat.zero_le _) (Nat.le_refl _)
    rw [List.drop_zero, List.nil_append] at this
    simp only [hc, decide_false, Bool.false_eq_true, if_false]
    exact this
def cutL (x : S45) : S45 := ⟨mx (-100) (mn x.f0 100), mn (mx (-100) (mn x.f1 100)) (mx (-100) (mn x.f0 100) + 40)⟩
def fewL (l : List S45) : List S45 := (l.take 12).map cutL
def Near (all : List Int) : Prop := Rise all ∧ ∀ n ∈ all, -100 ≤ n ∧ n < 100
theorem near_len {all : List Int} (h : Near all) : all.length ≤ 200 := by
  have := rise_len all (-100) 100 h.1 h.2
  omega
theorem near_put {all : List Int} {n : Int} (h : Near all) (h0 : -100 ≤ n) (h1 : n < 100) : Near (putL all n) :=
  ⟨rise_putL n h.1, fun m hm => (mem_putL all n m).1 hm |>.elim (fun e => e ▸ ⟨h0, h1⟩) (h.2 m)⟩
theorem near_nil : Near [] := ⟨rise_nil, fun _ h => by cases h⟩
theorem few_l1 (l x4 : List (S45)) (i : Int) (f0 f1 : Int) (v : List (S45) × List Int) (h1 : f1 ≤ 100) : ∀ (m : Nat) (n : Int) (all : List Int), (f1 - n).toNat = m → -100 ≤ n → n ≤ 101 → Near all →
    (Near ((run n m).foldl putL all) → Ev (fun k => polliwoglaw03_Few.l0 k l x4 ((run n m).foldl putL all) (wrap64 (i + 1))) v) → Ev (fun k => polliwoglaw03_Few.l1 k l x4 all i n f0 f1) v := by
  intro m
  induction m with
  | zero =>
    intro n all hm hn hn2 hN he
    refine Ev.step (fun k => ?_) (he hN)
    rw [polliwoglaw03_Few.l1, if_neg (by omega)]
    rfl
  | succ m ih =>
    intro n all hm hn hn2 hN he
    have := near_len hN
    have hw : wrap64 (n + 1) = n + 1 := wid (by omega) (by omega)
    refine Ev.step (f := fun k => (polliwogref03_Put.f k all n).bind fun t => polliwoglaw03_Few.l1 k l x4 t i (n + 1) f0 f1) (fun k => ?_) (Ev.bind (f := fun k t => polliwoglaw03_Few.l1 k l x4 t i (n + 1) f0 f1) (put_ev all n (by omega)) (ih (n + 1) (putL all n) (by omega) (by omega) (by omega) (near_put hN hn (by omega)) he))
    rw [polliwoglaw03_Few.l1, if_pos (by omega), hw]
theorem few_l0 (l : List (S45)) : ∀ (m i : Nat) (x4 : List (S45)) (all : List Int), (l.take 12).length - i = m → i ≤ (l.take 12).length → x4.length ≤ i → Near all →
    Ev (fun k => polliwoglaw03_Few.l0 k l x4 all (i : Int)) (x4 ++ ((l.take 12).drop i).map cutL, allF all (((l.take 12).drop i).map cutL)) := by
  intro m
  induction m with
  | zero =>
    intro i x4 all hm hi hx hN
    obtain rfl : i = (l.take 12).length := by omega
    have hlen : (l.take 12).length = min 12 l.length := List.length_take
    rw [List.drop_length, List.map_nil, List.append_nil, show allF all [] = all from rfl]
    refine Ev.step (f := fun k => polliwoglaw03_Few.j1 k l x4 all ((l.take 12).length : Int) false) (fun k => ?_) (Ev.step (f := fun _ => some (x4, all)) (fun k => by rw [polliwoglaw03_Few.j1, if_neg (by decide)]) (Ev.now _))
    rw [polliwoglaw03_Few.l0]
    split
    · rw [show decide (((l.take 12).length : Int) < 12) = false by rw [decide_eq_false_iff_not]; omega]
    · rfl
  | succ m ih =>
    intro i x4 all hm hi hx hN
    have hlen : (l.take 12).length = min 12 l.length := List.length_take
    have hlt : i < (l.take 12).length := by omega
    have hlt2 : i < l.length := by omega
    have hr := rd_at l i hlt2
    have hg : (l.take 12)[i] = l[i] := List.getElem_take
    rw [List.drop_eq_getElem_cons hlt, List.map_cons, hg]
    have hcut : (cutL l[i]) = ⟨mx (-100) (mn l[i].f0 100), mn (mx (-100) (mn l[i].f1 100)) (mx (-100) (mn l[i].f0 100) + 40)⟩ := rfl
    have hw := w1 (i := i) (by omega)
    have hL := few_l1 l (x4 ++ [cutL l[i]]) (i : Int) (cutL l[i]).f0 (cutL l[i]).f1 (x4 ++ cutL l[i] :: ((l.take 12).drop (i + 1)).map cutL, allF all (cutL l[i] :: ((l.take 12).drop (i + 1)).map cutL)) (by rw [hcut]; simp only [mx, mn]; repeat' split <;> omega)
      ((cutL l[i]).f1 - (cutL l[i]).f0).toNat (cutL l[i]).f0 all rfl (by rw [hcut]; simp only [mx, mn]; repeat' split <;> omega) (by rw [hcut]; simp only [mx, mn]; repeat' split <;> omega) hN (fun hN' => by
        rw [hw]
        have := ih (i + 1) (x4 ++ [cutL l[i]]) ((runS (cutL l[i])).foldl putL all) (by omega) (by omega) (by simp; omega) hN'
        rw [show x4 ++ cutL l[i] :: ((l.take 12).drop (i + 1)).map cutL = x4 ++ [cutL l[i]] ++ ((l.take 12).drop (i + 1)).map cutL by simp]
        exact this)
    refine Ev.step (f := fun k => polliwoglaw03_Few.j1 k l x4 all (i : Int) true) (fun k => ?_) (Ev.step (fun k => ?_) hL)
    · rw [polliwoglaw03_Few.l0, if_pos (by omega), show decide ((i : Int) < 12) = true by rw [decide_eq_true_iff]; omega]
    · rw [polliwoglaw03_Few.j1, if_pos rfl, if_pos (by omega), if_pos (by omega), if_pos (by omega), hr, ← hcut]
      rfl
theorem few_ev (l : List (S45)) : Ev (fun k => polliwoglaw03_Few.f k l) (fewL l, allF [] (fewL l)) := by
  have := few_l0 l _ 0 [] [] rfl (Nat.zero_le _) (Nat.le_refl _) near_nil
  rwa [List.drop_zero] at this
end Go.Proofs.Ytihobchcmfamaaa.SpanEv
namespace Go.Proofs.Ytihobchcmfamaaa.SpanEv
open Go.RowKit Go.Proofs.Ytihobchcmfamaaa.S Go.Proofs.YtihobchcmfamaaaW.PrintWords Go.Proofs.YtihobchcmfamaaaW.PrintMore Go.Proofs.Ytihobchcmfamaaa.SpanTh
theorem same_l0 (a b : List Int) (hl : a.length < 1099511627776) (he : a.length = b.length) : ∀ (m i : Nat), a.length - i = m → i ≤ a.length → Ev (fun k => polliwogref03_Same.l0 k a b (a.length : Int) (i : Int)) (decide (a.drop i = b.drop i)) := by
  intro m
  induction m with
  | zero =>
    intro i hm hi
    obtain rfl : i = a.length := by omega
    refine Ev.step (f := fun _ => some true) (fun k => ?_) (by rw [List.drop_length, he, List.drop_length, decide_eq_true rfl]; exact Ev.now _)
    rw [polliwogref03_Same.l0, if_neg (by omega)]
  | succ m ih =>
    intro i hm hi
    have hlt : i < a.length := by omega
    have hlt2 : i < b.length := by omega
    have hr := rdi_at a i hlt
    have hr2 := rdi_at b i hlt2
    have hw := w1 (i := i) (by omega)
    rw [List.drop_eq_getElem_cons hlt, List.drop_eq_getElem_cons hlt2]
    by_cases hc : a[i] = b[i]
    · have := ih (i + 1) (by omega) (by omega)
      rw [show decide (a[i] :: a.drop (i + 1) = b[i] :: b.drop (i + 1)) = decide (a.drop (i + 1) = b.drop (i + 1)) from decide_eq_decide.2 (by rw [hc]; exact ⟨fun h => (List.cons.inj h).2, fun h => by rw [h]⟩)]
      refine Ev.step (fun k => ?_) this
      rw [polliwogref03_Same.l0, if_pos (by omega), if_pos (by omega), if_pos (by omega), if_pos (by omega), hr, hr2, if_pos hc, hw]
    · rw [decide_eq_false (fun h => hc (List.cons.inj h).1)]
      refine Ev.step (f := fun _ => some false) (fun k => ?_) (Ev.now _)
      rw [polliwogref03_Same.l0, if_pos (by omega), if_pos (by omega), if_pos (by omega), if_pos (by omega), hr, hr2, if_neg hc]
theorem same_ev (a b : List Int) (hl : a.length < 1099511627776) : Ev (fun k => polliwogref03_Same.f k a b) (decide (a = b)) := by
  unfold polliwogref03_Same.f
  by_cases he : a.length = b.length
  · have := same_l0 a b hl he a.length 0 rfl (Nat.zero_le _)
    rw [List.drop_zero, List.drop_zero] at this
    simp only [if_pos (show (a.length : Int) = (b.length : Int) by omega)]
    exact this
  · simp only [if_neg (show ¬ (a.length : Int) = (b.length : Int) by omega)]
    rw [decide_eq_false (fun h => he (by rw [h]))]
    exact Ev.now _
theorem eq45 {x y : S45} (h0 : x.f0 = y.f0) (h1 : x.f1 = y.f1) : x = y := by cases x; cases y; simp_all
instance : DecidableEq (S45) := fun x y => if h : x.f0 = y.f0 ∧ x.f1 = y.f1 then isTrue (eq45 h.1 h.2) else isFalse (fun e => h (e ▸ ⟨rfl, rfl⟩))
theorem equal_l0 (a b : List (S45)) (hl : a.length < 1099511627776) (he : a.length = b.length) : ∀ (m i : Nat), a.length - i = m → i ≤ a.length → Ev (fun k => span_Span_52.l0 k a b (a.length : Int) (i : Int)) (decide (a.drop i = b.drop i)) := by
  intro m
  induction m with
  | zero =>
    intro i hm hi
    obtain rfl : i = a.length := by omega
    refine Ev.step (f := fun _ => some true) (fun k => ?_) (by rw [List.drop_length, he, List.drop_length, decide_eq_true rfl]; exact Ev.now _)
    rw [span_Span_52.l0, if_neg (by omega)]
  | succ m ih =>
    intro i hm hi
    have hlt : i < a.length := by omega
    have hlt2 : i < b.length := by omega
    have hr := rd_at a i hlt
    have hr2 := rd_at b i hlt2
    have hw := w1 (i := i) (by omega)
    rw [List.drop_eq_getElem_cons hlt, List.drop_eq_getElem_cons hlt2]
    by_cases hc : a[i] = b[i]
    · have := ih (i + 1) (by omega) (by omega)
      rw [show decide (a[i] :: a.drop (i + 1) = b[i] :: b.drop (i + 1)) = decide (a.drop (i + 1) = b.drop (i + 1)) from decide_eq_decide.2 (by rw [hc]; exact ⟨fun h => (List.cons.inj h).2, fun h => by rw [h]⟩)]
      refine Ev.step (fun k => ?_) this
      rw [span_Span_52.l0, if_pos (by omega), if_pos (by omega), if_pos (by omega), if_pos (by omega), hr, hr2, hc, if_neg (by simp), hw]
    · rw [decide_eq_false (fun h => hc (List.cons.inj h).1)]
      refine Ev.step (f := fun _ => some false) (fun k => ?_) (Ev.now _)
      rw [span_Span_52.l0, if_pos (by omega), if_pos (by omega), if_pos (by omega), if_pos (by omega), hr, hr2, if_pos]
      by_cases h0 : a[i].f0 = b[i].f0
      · have h1 : a[i].f1 ≠ b[i].f1 := fun h1 => hc (eq45 h0 h1)
        simp [h1]
      · simp [h0]
theorem setsame_ev (a b : List (S45)) (hl : a.length < 1099511627776) : Ev (fun k => span_Same.f k a b) (decide (a = b)) := by
  have : Ev (fun k => span_Span_52.f k a b) (decide (a = b)) := by
    unfold span_Span_52.f
    by_cases he : a.length = b.length
    · have := equal_l0 a b hl he a.length 0 rfl (Nat.zero_le _)
      rw [List.drop_zero, List.drop_zero] at this
      simp only [if_pos (show (a.length : Int) = (b.length : Int) by omega)]
      exact this
    · simp only [if_neg (show ¬ (a.length : Int) = (b.length : Int) by omega)]
      rw [decide_eq_false (fun h => he (by rw [h]))]
      exact Ev.now _
  exact Ev.bind this (Ev.now _)
theorem len_l0 (s : List (S45)) (hl : s.length < 1099511627776) (hn : ∀ x ∈ s, x.f0 < x.f1) : ∀ (m i : Nat) (acc : Int), s.length - i = m → i ≤ s.length → 0 ≤ acc → acc + lenL (s.drop i) ≤ 4611686018427387904 → Ev (fun k => span_Set_Len.l0 k acc s (s.length : Int) (i : Int)) (acc + lenL (s.drop i)) := by
  have pos : ∀ t : List (S45), (∀ x ∈ t, x.f0 < x.f1) → 0 ≤ lenL t := by
    intro t ht
    induction t with
    | nil => exact Int.le_refl _
    | cons x t ih =>
      have := ih (fun y hy => ht y (List.mem_cons_of_mem _ hy))
      have := ht x List.mem_cons_self
      unfold lenL at *
      rw [List.map_cons, List.sum_cons]
      omega
  intro m
  induction m with
  | zero =>
    intro i acc hm hi ha hb
    obtain rfl : i = s.length := by omega
    refine Ev.step (f := fun _ => some acc) (fun k => ?_) (by rw [List.drop_length, show acc + lenL [] = acc by unfold lenL; simp]; exact Ev.now _)
    rw [span_Set_Len.l0, if_neg (by omega)]
  | succ m ih =>
    intro i acc hm hi ha hb
    have hlt : i < s.length := by omega
    have hr := rd_at s i hlt
    have hw := w1 (i := i) (by omega)
    have hx := hn s[i] (List.getElem_mem hlt)
    have hp := pos (s.drop (i + 1)) (fun x hx => hn x (List.mem_of_mem_drop hx))
    have e : lenL (s.drop i) = (s[i].f1 - s[i].f0) + lenL (s.drop (i + 1)) := by
      rw [List.drop_eq_getElem_cons hlt]
      unfold lenL
      rw [List.map_cons, List.sum_cons]
    rw [e] at hb ⊢
    have := ih (i + 1) (acc + (s[i].f1 - s[i].f0)) (by omega) (by omega) (by omega) (by omega)
    rw [show acc + (s[i].f1 - s[i].f0 + lenL (s.drop (i + 1))) = acc + (s[i].f1 - s[i].f0) + lenL (s.drop (i + 1)) by omega]
    refine Ev.step (fun k => ?_) this
    have h1 : wrap64 (s[i].f1 - s[i].f0) = s[i].f1 - s[i].f0 := wid (by omega) (by omega)
    have h2 : wrap64 (acc + (s[i].f1 - s[i].f0)) = acc + (s[i].f1 - s[i].f0) := wid (by omega) (by omega)
    rw [span_Set_Len.l0, if_pos (by omega), if_pos (by omega), if_pos (by omega), hr, h1, h2, hw]
theorem len_ev (s : List (S45)) (hl : s.length < 1099511627776) (hn : ∀ x ∈ s, x.f0 < x.f1) (hb : lenL s ≤ 4611686018427387904) : Ev (fun k => span_Set_Len.f k s) (lenL s) := by
  have := len_l0 s hl hn s.length 0 0 rfl (Nat.zero_le _) (Int.le_refl _) (by rw [List.drop_zero]; omega)
  rw [List.drop_zero, show (0 : Int) + lenL s = lenL s by omega] at this
  exact this
theorem list_l1 (s : List (S45)) (L i : Int) (f0 f1 : Int) (v : List Int) (h1 : f1 ≤ 4611686018427387904) : ∀ (m : Nat) (n : Int) (out : List Int), (f1 - n).toNat = m → -4611686018427387904 ≤ n → out.length + m < 65536 →
    Ev (fun k => span_Set_List.l0 k (out ++ run n m) s L (wrap64 (i + 1))) v → Ev (fun k => span_Set_List.l1 k out n s L i f0 f1) v := by
  intro m
  induction m with
  | zero =>
    intro n out hm hn hb he
    refine Ev.step (fun k => ?_) he
    rw [span_Set_List.l1, if_neg (by omega), run, List.append_nil]
  | succ m ih =>
    intro n out hm hn hb he
    have hw : wrap64 (n + 1) = n + 1 := wid (by omega) (by omega)
    refine Ev.step (fun k => ?_) (ih (n + 1) (out ++ [n]) (by omega) (by omega) (by simp; omega) (by rw [List.append_assoc]; exact he))
    rw [span_Set_List.l1, if_pos (by omega), if_pos (by omega), if_pos (by omega), hw]
theorem list_l0 (s : List (S45)) (hl : s.length < 1099511627776) (hS : Small s) (hn : ∀ x ∈ s, x.f0 < x.f1) : ∀ (m i : Nat) (out : List Int), s.length - i = m → i ≤ s.length → out.length + (listL (s.drop i)).length < 65536 →
    Ev (fun k => span_Set_List.l0 k out s (s.length : Int) (i : Int)) (out ++ listL (s.drop i)) := by
  intro m
  induction m with
  | zero =>
    intro i out hm hi ho
    obtain rfl : i = s.length := by omega
    refine Ev.step (f := fun _ => some out) (fun k => ?_) (by rw [List.drop_length, show listL [] = [] from rfl, List.append_nil]; exact Ev.now _)
    rw [span_Set_List.l0, if_neg (by omega)]
  | succ m ih =>
    intro i out hm hi ho
    have hlt : i < s.length := by omega
    have hr := rd_at s i hlt
    have hw := w1 (i := i) (by omega)
    have hx := hn s[i] (List.getElem_mem hlt)
    have hs := hS s[i] (List.getElem_mem hlt)
    unfold mostL at hs
    have e : listL (s.drop i) = runS s[i] ++ listL (s.drop (i + 1)) := by rw [List.drop_eq_getElem_cons hlt]; rfl
    have hrl : (runS s[i]).length = (s[i].f1 - s[i].f0).toNat := len_run _ _
    rw [e, List.length_append] at ho
    rw [e, ← List.append_assoc]
    refine Ev.step (fun k => ?_) (list_l1 s (s.length : Int) (i : Int) s[i].f0 s[i].f1 _ (by omega) _ s[i].f0 out rfl (by omega) (by omega) ?_)
    · rw [span_Set_List.l0, if_pos (by omega), if_pos (by omega), if_pos (by omega), hr]
    · rw [hw]
      exact ih (i + 1) (out ++ runS s[i]) (by omega) (by omega) (by rw [List.length_append]; omega)
theorem list_ev (s : List (S45)) (hN : Norm s) (hS : Small s) (hb : (listL s).length < 65536) : Ev (fun k => span_Set_List.f k s) (listL s) := by
  have := norm_len hN
  have := list_l0 s (by omega) hS hN.1 s.length 0 [] rfl (Nat.zero_le _) (by rw [List.drop_zero]; simpa using hb)
  rwa [List.drop_zero, List.nil_append] at this
theorem spans_l0 (l : List Int) (hl : l.length < 1099511627776) (hb : ∀ n ∈ l, -4611686018427387904 ≤ n ∧ n ≤ 4611686018427387904) : ∀ (m i : Nat) (out : List Int), l.length - i = m → i ≤ l.length → out.length ≤ 2 * i → (0 < i → 0 < out.length) →
    Ev (fun k => polliwogref03_Spans.l0 k l out l (l.length : Int) (i : Int)) (spansF (if i = 0 then none else l[i - 1]?) out (l.drop i)) := by
  intro m
  induction m with
  | zero =>
    intro i out hm hi ho hp
    obtain rfl : i = l.length := by omega
    refine Ev.step (f := fun _ => some out) (fun k => ?_) (by rw [List.drop_length]; exact Ev.now _)
    rw [polliwogref03_Spans.l0, if_neg (by omega)]
  | succ m ih =>
    intro i out hm hi ho hp
    have hlt : i < l.length := by omega
    have hr := rdi_at l i hlt
    have hw := w1 (i := i) (by omega)
    have hbi := hb l[i] (List.getElem_mem hlt)
    have hw2 : wrap64 (l[i] + 1) = l[i] + 1 := wid (by omega) (by omega)
    have set2 : ∀ o : List Int, (o ++ [l[i], l[i]]).set (o.length + 1) (l[i] + 1) = o ++ [l[i], l[i] + 1] := fun o => by
      rw [List.set_append_right _ _ (by omega), Nat.add_sub_cancel_left]; rfl
    have ew : wrap64 (((out ++ [l[i], l[i]]).length : Int) - 1) = ((out.length + 1 : Nat) : Int) := by
      rw [List.length_append, wid] <;> simp only [List.length_cons, List.length_nil] <;> omega
    have elen : (out ++ [l[i], l[i]]).length = out.length + 2 := by simp
    rw [List.drop_eq_getElem_cons hlt, spansF]
    have hnext : (if i + 1 = 0 then none else l[i + 1 - 1]?) = some l[i] := by rw [if_neg (by omega), Nat.add_sub_cancel, List.getElem?_eq_getElem hlt]
    by_cases h0 : i = 0
    · have e : spStep (if i = 0 then none else l[i - 1]?) out l[i] = out ++ [l[i], l[i] + 1] := by rw [if_pos h0]; simp [spStep]
      have := ih (i + 1) (out ++ [l[i], l[i] + 1]) (by omega) (by omega) (by simp; omega) (fun _ => by simp)
      rw [hnext] at this
      rw [e]
      refine Ev.step (fun k => ?_) this
      rw [polliwogref03_Spans.l0, if_pos (by omega), if_pos (by omega), if_pos (by omega), if_pos (by omega), hr, Option.bind_some, if_pos (by simp; omega), Option.bind_some, ew, if_pos (by omega), if_pos (by rw [elen]; omega), hw2, Int.toNat_natCast, set2, hw]
    · have hpos : 0 < i := by omega
      have hprev : l[i - 1]? = some l[i - 1] := List.getElem?_eq_getElem (by omega)
      have hbp := hb l[i - 1] (List.getElem_mem (by omega))
      have hwm : wrap64 ((i : Int) - 1) = ((i - 1 : Nat) : Int) := by rw [wid (by omega) (by omega)]; omega
      have hrp := rdi_at l (i - 1) (by omega)
      have hw3 : wrap64 (l[i - 1] + 1) = l[i - 1] + 1 := wid (by omega) (by omega)
      rw [if_neg h0, hprev]
      by_cases hc : l[i - 1] + 1 = l[i]
      · obtain ⟨o, y, rfl⟩ : ∃ o y, out = o ++ [y] := by
          rcases List.eq_nil_or_concat out with rfl | ⟨o, y, rfl⟩
          · exact absurd (hp hpos) (by simp)
          · exact ⟨o, y, List.concat_eq_append⟩
        have e : spStep (some l[i - 1]) (o ++ [y]) l[i] = o ++ [l[i] + 1] := by
          unfold spStep
          rw [if_pos (by rw [show l[i] - 1 = l[i - 1] by omega])]
          simp
        have := ih (i + 1) (o ++ [l[i] + 1]) (by omega) (by omega) (by simp at ho ⊢; omega) (fun _ => by simp)
        rw [hnext] at this
        rw [e]
        have ew' : wrap64 (((o ++ [y]).length : Int) - 1) = ((o.length : Nat) : Int) := by
          rw [List.length_append, wid] <;> simp only [List.length_append, List.length_cons, List.length_nil] at * <;> omega
        have sl : (o ++ [y]).set o.length (l[i] + 1) = o ++ [l[i] + 1] := by rw [List.set_append_right _ _ (by omega), Nat.sub_self]; rfl
        refine Ev.step (fun k => ?_) this
        rw [polliwogref03_Spans.l0, if_pos (by omega), if_pos (by omega), if_pos (by omega), if_neg (by omega), hwm, if_pos (by omega), if_pos (by omega), hrp, hw3, hr, if_pos hc, ew', if_pos (by omega), if_pos (by rw [List.length_append, List.length_singleton]; omega), hw2, Int.toNat_natCast, sl, hw]
      · have e : spStep (some l[i - 1]) out l[i] = out ++ [l[i], l[i] + 1] := by
          unfold spStep
          rw [if_neg]
          intro h
          injection h with h
          omega
        have := ih (i + 1) (out ++ [l[i], l[i] + 1]) (by omega) (by omega) (by simp; omega) (fun _ => by simp)
        rw [hnext] at this
        rw [e]
        refine Ev.step (fun k => ?_) this
        rw [polliwogref03_Spans.l0, if_pos (by omega), if_pos (by omega), if_pos (by omega), if_neg (by omega), hwm, if_pos (by omega), if_pos (by omega), hrp, hw3, hr, if_neg hc, Option.bind_some, if_pos (by simp; omega), Option.bind_some, ew, if_pos (by omega), if_pos (by rw [elen]; omega), hw2, Int.toNat_natCast, set2, hw]
theorem spans_ev (l : List Int) (hl : l.length < 1099511627776) (hb : ∀ n ∈ l, -4611686018427387904 ≤ n ∧ n ≤ 4611686018427387904) : Ev (fun k => polliwogref03_Spans.f k l) (spansF none [] l) := by
  have := spans_l0 l hl hb l.length 0 [] rfl (Nat.zero_le _) (Nat.zero_le _) (fun h => absurd h (by omega))
  rwa [List.drop_zero] at this
theorem ends_len (s : List (S45)) : (endsL s).length = 2 * s.length := by
  induction s with
  | nil => rfl
  | cons x s ih =>
    unfold endsL at *
    rw [List.flatMap_cons, List.length_append, ih]
    simp
    omega
theorem ends_at : ∀ (s : List (S45)) (i : Nat) (h : i < s.length), (endsL s)[2 * i]? = some s[i].f0 ∧ (endsL s)[2 * i + 1]? = some s[i].f1
  | [], i, h => absurd h (by simp)
  | x :: s, 0, h => ⟨rfl, rfl⟩
  | x :: s, i + 1, h => by
    have := ends_at s i (by simpa using h)
    unfold endsL at *
    rw [List.flatMap_cons, show 2 * (i + 1) = 2 * i + 1 + 1 by omega]
    simpa using this
theorem rd_some {l : List Int} {i : Nat} {x : Int} (h : l[i]? = some x) : rd l (i : Int) = x := by
  unfold rd
  rw [Int.toNat_natCast]
  simp [h]
theorem is_l0 (s : List (S45)) (hl : s.length < 1099511627776) : ∀ (m i : Nat), s.length - i = m → i ≤ s.length → Ev (fun k => polliwoglaw03_is.l0 k (endsL s) s (s.length : Int) (i : Int)) true := by
  intro m
  induction m with
  | zero =>
    intro i hm hi
    obtain rfl : i = s.length := by omega
    refine Ev.step (f := fun _ => some true) (fun k => ?_) (Ev.now _)
    rw [polliwoglaw03_is.l0, if_neg (by omega)]
  | succ m ih =>
    intro i hm hi
    have hlt : i < s.length := by omega
    have hr := rd_at s i hlt
    have hw := w1 (i := i) (by omega)
    obtain ⟨h0, h1⟩ := ends_at s i hlt
    have hw0 : wrap64 (2 * (i : Int)) = ((2 * i : Nat) : Int) := by rw [wid (by omega) (by omega)]; omega
    have hw1 : wrap64 (((2 * i : Nat) : Int) + 1) = ((2 * i + 1 : Nat) : Int) := by rw [wid (by omega) (by omega)]; omega
    have hel := ends_len s
    refine Ev.step (fun k => ?_) (ih (i + 1) (by omega) (by omega))
    rw [polliwoglaw03_is.l0, if_pos (by omega), if_pos (by omega), if_pos (by omega), hw0, if_pos (by omega), if_pos (by omega), hr, rd_some h0, if_pos rfl, hw1, if_pos (by omega), if_pos (by omega), rd_some h1, if_pos rfl, hw]
theorem is_ev {s : List (S45)} {l : List Int} (hN : Norm s) (hS : Small s) (hR : Rise l) (hb : l.length < 65536) (hm : ∀ n, n ∈ l ↔ Mem n s) : Ev (fun k => polliwoglaw03_is.f k s l) true := by
  have e := list_eq hN hR hm
  have hsl := norm_len hN
  rw [e] at hsl
  have hb' : ∀ n ∈ l, -4611686018427387904 ≤ n ∧ n ≤ 4611686018427387904 := fun n hn => by
    obtain ⟨x, hx, h0, h1⟩ := (hm n).1 hn
    have := hS x hx
    unfold mostL at this
    omega
  have e2 : spansF none [] l = endsL s := by rw [← e, spans_list s none [] hN (fun _ _ _ h => by cases h)]; rfl
  have hsp := spans_ev l (by omega) hb'
  rw [e2] at hsp
  have hlen : lenL s = (l.length : Int) := by rw [lenL_eq hN, e]
  have hle := len_ev s (by omega) hN.1 (by omega)
  have hli := list_ev s hN hS (by rw [e]; exact hb)
  rw [e] at hli
  have hsa := same_ev l l (by omega)
  rw [decide_eq_true rfl] at hsa
  unfold polliwoglaw03_is.f
  refine Ev.bind hsp ?_
  have hc : ((endsL s).length : Int) = wrap64 (2 * (s.length : Int)) := by rw [ends_len, wid (by omega) (by omega)]; omega
  simp only [if_pos hc]
  refine Ev.bind hle ?_
  simp only [if_pos hlen]
  refine Ev.bind hli ?_
  refine Ev.bind hsa ?_
  refine Ev.step (fun k => ?_) (is_l0 s (by omega) s.length 0 rfl (Nat.zero_le _))
  rw [polliwoglaw03_is.j0, if_neg (by decide)]
  rfl
end Go.Proofs.Ytihobchcmfamaaa.SpanEv
namespace Go.Proofs.Ytihobchcmfamaaa.SpanEv
open Go.RowKit Go.Proofs.Ytihobchcmfamaaa.S Go.Proofs.YtihobchcmfamaaaW.PrintWords Go.Proofs.YtihobchcmfamaaaW.PrintMore Go.Proofs.Ytihobchcmfamaaa.SpanTh
theorem awake_ev : Ev (fun k => polliwoglaw03_awake.f k) true := by
  have e : ofL [(⟨5, 7⟩ : S45), ⟨1, 3⟩, ⟨6, 9⟩] = [⟨1, 3⟩, ⟨5, 9⟩] := by
    refine norm_ext (ofL_spec _).1 ⟨fun x hx => ?_, by simp⟩ (fun n => ?_)
    · simp only [List.mem_cons, List.not_mem_nil, or_false] at hx
      rcases hx with rfl | rfl <;> decide
    · rw [ofL_mem (fun x hx => ?_)]
      · simp only [mem_cons, mem_nil, or_false]
        omega
      · simp only [List.mem_cons, List.not_mem_nil, or_false] at hx
        rcases hx with rfl | rfl | rfl <;> decide
  have h1 := of_ev [(⟨5, 7⟩ : S45), ⟨1, 3⟩, ⟨6, 9⟩] (by decide)
  rw [e] at h1
  unfold polliwoglaw03_awake.f
  refine Ev.bind h1 ?_
  have h2 := len_ev [(⟨1, 3⟩ : S45), ⟨5, 9⟩] (by decide) (fun x hx => by
    simp only [List.mem_cons, List.not_mem_nil, or_false] at hx
    rcases hx with rfl | rfl <;> decide) (by decide)
  exact Ev.bind (f := fun _ t => some (t == 6)) h2 (Ev.now _)
theorem few_near (l : List (S45)) : ∀ x ∈ fewL l, -100 ≤ x.f0 ∧ x.f0 ≤ 100 ∧ -100 ≤ x.f1 ∧ x.f1 ≤ 100 := by
  intro x hx
  obtain ⟨y, _, rfl⟩ := List.mem_map.1 hx
  simp only [cutL, mx, mn]
  repeat' split <;> omega
theorem few_small (l : List (S45)) : Small (fewL l) := fun x hx => by have := few_near l x hx; unfold mostL; omega
theorem few_len (l : List (S45)) : (fewL l).length ≤ 12 := by unfold fewL; rw [List.length_map, List.length_take]; omega
theorem few_all (l : List (S45)) : Near (allF [] (fewL l)) ∧ ∀ n, n ∈ allF [] (fewL l) ↔ Mem n (fewL l) := by
  obtain ⟨a, b⟩ := all_spec (fewL l) [] rise_nil
  have b' : ∀ n, n ∈ allF [] (fewL l) ↔ Mem n (fewL l) := fun n => by rw [b]; simp
  refine ⟨⟨a, fun n hn => ?_⟩, b'⟩
  obtain ⟨x, hx, h0, h1⟩ := (b' n).1 hn
  have := few_near l x hx
  omega
/-- The set of the few: all that the laws need. -/
theorem set_few (l : List (S45)) : Norm (ofL (fewL l)) ∧ Small (ofL (fewL l)) ∧ (∀ n, n ∈ allF [] (fewL l) ↔ Mem n (ofL (fewL l))) ∧ (ofL (fewL l)).length ≤ 200 := by
  have h := few_all l
  have hm : ∀ n, n ∈ allF [] (fewL l) ↔ Mem n (ofL (fewL l)) := fun n => by rw [ofL_mem (few_small l), h.2]
  refine ⟨(ofL_spec _).1, ofL_small _, hm, ?_⟩
  have := norm_len (ofL_spec (fewL l)).1
  rw [list_eq (ofL_spec _).1 h.1.1 hm] at this
  exact Nat.le_trans this (near_len h.1)
/-- A set whose numbers lie within some. -/
def Inv (few s : List (S45)) : Prop := Norm s ∧ Small s ∧ ∀ n, Mem n s → Mem n few
theorem inv_nil (few : List (S45)) : Inv few [] := ⟨norm_nil, fun _ h => (by cases h), fun n h => absurd h (mem_nil n)⟩
theorem inv_len {few s : List (S45)} (hf : ∀ x ∈ few, -100 ≤ x.f0 ∧ x.f0 ≤ 100 ∧ -100 ≤ x.f1 ∧ x.f1 ≤ 100) (h : Inv few s) : s.length ≤ 200 := by
  have h1 := norm_len h.1
  have h2 := rise_len (listL s) (-100) 100 (rise_listL h.1) (fun n hn => by
    obtain ⟨x, hx, h3, h4⟩ := h.2.2 n ((mem_listL s n).1 hn)
    have := hf x hx
    omega)
  omega
theorem mem_one (n : Int) (x : S45) : Mem n [x] ↔ x.f0 ≤ n ∧ n < x.f1 := by rw [mem_cons]; simp [mem_nil]
theorem small_one {few : List (S45)} (hf : Small few) {x : S45} (hx : x ∈ few) : Small [x] := fun y hy => by rw [List.mem_singleton] at hy; subst hy; exact hf _ hx
theorem small_append {s t : List (S45)} (hs : Small s) (ht : Small t) : Small (s ++ t) := fun x hx => (List.mem_append.1 hx).elim (hs x) (ht x)
end Go.Proofs.Ytihobchcmfamaaa.SpanEv
namespace Go.Proofs.Ytihobchcmfamaaa.SpanEv
open Go.RowKit Go.Proofs.Ytihobchcmfamaaa.S Go.Proofs.YtihobchcmfamaaaW.PrintWords Go.Proofs.YtihobchcmfamaaaW.PrintMore Go.Proofs.Ytihobchcmfamaaa.SpanTh
def meetL (x y : S45) : S45 := ⟨max x.f0 y.f0, min x.f1 y.f1⟩
def meets (s t : List (S45)) : List (S45) := s.flatMap fun x => t.map (meetL x)
theorem both_l1 (t s : List (S45)) (i : Int) (x : S45) (v : List (S45)) (ht : t.length < 1099511627776) : ∀ (m j : Nat) (out : List (S45)), t.length - j = m → j ≤ t.length → out.length + m < 8796093022208 →
    Ev (fun k => span_Set_Both.l0 k t (out ++ (t.drop j).map (meetL x)) s (s.length : Int) (wrap64 (i + 1))) v → Ev (fun k => span_Set_Both.l1 k t out s (s.length : Int) i t (t.length : Int) (j : Int) x.f0 x.f1) v := by
  intro m
  induction m with
  | zero =>
    intro j out hm hj ho he
    obtain rfl : j = t.length := by omega
    rw [List.drop_length, List.map_nil, List.append_nil] at he
    refine Ev.step (fun k => ?_) he
    rw [span_Set_Both.l1, if_neg (by omega)]
  | succ m ih =>
    intro j out hm hj ho he
    have hlt : j < t.length := by omega
    have hr := rd_at t j hlt
    have hw := w1 (i := j) (by omega)
    rw [List.drop_eq_getElem_cons hlt, List.map_cons, show out ++ meetL x t[j] :: (t.drop (j + 1)).map (meetL x) = out ++ [meetL x t[j]] ++ (t.drop (j + 1)).map (meetL x) by simp] at he
    refine Ev.step (fun k => ?_) (ih (j + 1) (out ++ [meetL x t[j]]) (by omega) (by omega) (by simp; omega) he)
    rw [span_Set_Both.l1, if_pos (by omega), if_pos (by omega), if_pos (by omega), if_pos (by omega), hr, mx_eq, mn_eq, hw]
    rfl
theorem both_l0 (s t : List (S45)) (hs : s.length < 1099511627776) (ht : t.length < 1099511627776) (hb : s.length * t.length < 1099511627776) : ∀ (m i : Nat) (out : List (S45)), s.length - i = m → i ≤ s.length → out.length = i * t.length →
    Ev (fun k => span_Set_Both.l0 k t out s (s.length : Int) (i : Int)) (ofL (out ++ meets (s.drop i) t)) := by
  intro m
  induction m with
  | zero =>
    intro i out hm hi ho
    obtain rfl : i = s.length := by omega
    rw [List.drop_length, show meets [] t = [] from rfl, List.append_nil]
    refine Ev.step (f := fun k => (span_Of.f k out).bind fun t => some t) (fun k => ?_) (Ev.bind (of_ev out (by omega)) (Ev.now _))
    rw [span_Set_Both.l0, if_neg (by omega)]
  | succ m ih =>
    intro i out hm hi ho
    have hlt : i < s.length := by omega
    have hr := rd_at s i hlt
    have hw := w1 (i := i) (by omega)
    have hmul : (i + 1) * t.length ≤ s.length * t.length := Nat.mul_le_mul_right _ hlt
    rw [Nat.succ_mul] at hmul
    have e : meets (s.drop i) t = t.map (meetL s[i]) ++ meets (s.drop (i + 1)) t := by rw [List.drop_eq_getElem_cons hlt]; rfl
    rw [e, ← List.append_assoc]
    refine Ev.step (fun k => ?_) (both_l1 t s (i : Int) s[i] _ ht t.length 0 out rfl (Nat.zero_le _) (by omega) (by rw [hw, List.drop_zero]; exact ih (i + 1) _ (by omega) (by omega) (by rw [List.length_append, List.length_map, ho, Nat.succ_mul])))
    rw [span_Set_Both.l0, if_pos (by omega), if_pos (by omega), if_pos (by omega), hr]
    rfl
theorem both_ev (s t : List (S45)) (hs : s.length < 1099511627776) (ht : t.length < 1099511627776) (hb : s.length * t.length < 1099511627776) : Ev (fun k => span_Set_Both.f k s t) (ofL (meets s t)) := by
  have := both_l0 s t hs ht hb s.length 0 [] rfl (Nat.zero_le _) (by simp)
  rwa [List.drop_zero, List.nil_append] at this
theorem mem_meets (s t : List (S45)) (n : Int) : Mem n (meets s t) ↔ Mem n s ∧ Mem n t := by
  constructor
  · rintro ⟨x, hx, h0, h1⟩
    obtain ⟨a, ha, hx⟩ := List.mem_flatMap.1 hx
    obtain ⟨b, hb, rfl⟩ := List.mem_map.1 hx
    simp only [meetL] at h0 h1
    exact ⟨⟨a, ha, by omega, by omega⟩, ⟨b, hb, by omega, by omega⟩⟩
  · rintro ⟨⟨a, ha, h0, h1⟩, ⟨b, hb, h2, h3⟩⟩
    exact ⟨meetL a b, List.mem_flatMap.2 ⟨a, ha, List.mem_map.2 ⟨b, hb, rfl⟩⟩, by simp only [meetL]; omega, by simp only [meetL]; omega⟩
theorem small_meets {s t : List (S45)} (hs : Small s) (ht : Small t) : Small (meets s t) := by
  intro x hx
  obtain ⟨a, ha, hx⟩ := List.mem_flatMap.1 hx
  obtain ⟨b, hb, rfl⟩ := List.mem_map.1 hx
  have := hs a ha
  have := ht b hb
  simp only [meetL]
  omega
/-- Both of two sets: normal, small, and what is in both. -/
theorem both_spec {s t : List (S45)} (hs : Small s) (ht : Small t) : Norm (ofL (meets s t)) ∧ Small (ofL (meets s t)) ∧ ∀ n, Mem n (ofL (meets s t)) ↔ Mem n s ∧ Mem n t :=
  ⟨(ofL_spec _).1, ofL_small _, fun n => by rw [ofL_mem (small_meets hs ht), mem_meets]⟩
end Go.Proofs.Ytihobchcmfamaaa.SpanEv
