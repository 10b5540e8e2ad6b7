/- What layer 3's document and its laws come to: lists of numbers. -/
import Derived.Test.YtihobchcmfamaaaThRise
import Derived.Test.YtihobchcmfamaaaEvSpan
import Derived.Test.YtihobchcmfamaaaS0
import Derived.Test.YtihobchcmfamaaaS11
import Derived.Test.YtihobchcmfamaaaS12
import Derived.Test.YtihobchcmfamaaaS13
namespace Go.Proofs.Ytihobchcmfamaaa.SpanEv
open Go.RowKit Go.Proofs.Ytihobchcmfamaaa.S Go.Proofs.YtihobchcmfamaaaW.PrintWords Go.Proofs.YtihobchcmfamaaaW.PrintMore Go.Proofs.Ytihobchcmfamaaa.SpanTh
theorem wid {x : Int} (h0 : -9223372036854775808 ≤ x) (h1 : x ≤ 9223372036854775807) : wrap64 x = x := by unfold wrap64; omega
theorem has_l0 (l : List Int) (x : Int) (hl : l.length < 1099511627776) : ∀ (m i : Nat), l.length - i = m → i ≤ l.length → Ev (fun k => polliwogref03_Has.l0 k x l (l.length : Int) (i : Int)) (decide (x ∈ l.drop i)) := by
  intro m
  induction m with
  | zero =>
    intro i hm hi
    obtain rfl : i = l.length := by omega
    refine Ev.step (f := fun _ => some false) (fun k => ?_) (by rw [List.drop_length]; exact Ev.now _)
    rw [polliwogref03_Has.l0, if_neg (by omega)]
  | succ m ih =>
    intro i hm hi
    have hlt : i < l.length := by omega
    have hr := rdi_at l i hlt
    have hw := w1 (i := i) (by omega)
    rw [List.drop_eq_getElem_cons hlt]
    by_cases hc : l[i] = x
    · refine Ev.step (f := fun _ => some true) (fun k => ?_) (by rw [show decide (x ∈ l[i] :: l.drop (i + 1)) = true by simp [hc]]; exact Ev.now _)
      rw [polliwogref03_Has.l0, if_pos (by omega), if_pos (by omega), if_pos (by omega), hr, if_pos hc]
    · have := ih (i + 1) (by omega) (by omega)
      rw [show decide (x ∈ l[i] :: l.drop (i + 1)) = decide (x ∈ l.drop (i + 1)) from decide_eq_decide.2 ⟨fun h => (List.mem_cons.1 h).resolve_left (fun e => hc e.symm), List.mem_cons_of_mem _⟩]
      refine Ev.step (fun k => ?_) this
      rw [polliwogref03_Has.l0, if_pos (by omega), if_pos (by omega), if_pos (by omega), hr, if_neg hc, hw]
theorem has_ev (l : List Int) (x : Int) (hl : l.length < 1099511627776) : Ev (fun k => polliwogref03_Has.f k l x) (decide (x ∈ l)) := by
  have := has_l0 l x hl l.length 0 rfl (Nat.zero_le _)
  rwa [List.drop_zero] at this
theorem put_copy (l : List Int) (x : Int) (hl : l.length < 1099511627776) : ∀ (m i : Nat) (out : List Int), l.length - i = m → i ≤ l.length → out.length ≤ i + 1 → Ev (fun k => polliwogref03_Put.l0 k x out true l (l.length : Int) (i : Int)) (out ++ l.drop i) := by
  intro m
  induction m with
  | zero =>
    intro i out hm hi ho
    obtain rfl : i = l.length := by omega
    refine Ev.step (f := fun _ => some out) (fun k => ?_) (by rw [List.drop_length, List.append_nil]; exact Ev.now _)
    rw [polliwogref03_Put.l0, if_neg (by omega), if_pos rfl]
  | succ m ih =>
    intro i out hm hi ho
    have hlt : i < l.length := by omega
    have hr := rdi_at l i hlt
    have hw := w1 (i := i) (by omega)
    have := ih (i + 1) (out ++ [l[i]]) (by omega) (by omega) (by simp; omega)
    rw [List.drop_eq_getElem_cons hlt, show out ++ l[i] :: l.drop (i + 1) = out ++ [l[i]] ++ l.drop (i + 1) by simp]
    refine Ev.step (fun k => ?_) this
    rw [polliwogref03_Put.l0, if_pos (by omega), if_pos (by omega), if_pos (by omega), hr, if_pos rfl, if_pos (by omega), hw]
theorem put_ins (l : List Int) (x : Int) (hl : l.length < 1099511627776) : ∀ (m i : Nat) (out : List Int), l.length - i = m → i ≤ l.length → out.length ≤ i → Ev (fun k => polliwogref03_Put.l0 k x out false l (l.length : Int) (i : Int)) (out ++ insL x (l.drop i)) := by
  intro m
  induction m with
  | zero =>
    intro i out hm hi ho
    obtain rfl : i = l.length := by omega
    refine Ev.step (f := fun _ => some (out ++ [x])) (fun k => ?_) (by rw [List.drop_length]; exact Ev.now _)
    rw [polliwogref03_Put.l0, if_neg (by omega), if_neg (by decide), if_pos (by omega)]
  | succ m ih =>
    intro i out hm hi ho
    have hlt : i < l.length := by omega
    have hr := rdi_at l i hlt
    have hw := w1 (i := i) (by omega)
    rw [List.drop_eq_getElem_cons hlt]
    by_cases hc : x < l[i]
    · have := put_copy l x hl (l.length - (i + 1)) (i + 1) (out ++ [x] ++ [l[i]]) rfl (by omega) (by simp; omega)
      rw [show out ++ insL x (l[i] :: l.drop (i + 1)) = out ++ [x] ++ [l[i]] ++ l.drop (i + 1) by simp [insL, hc]]
      refine Ev.step (fun k => ?_) this
      rw [polliwogref03_Put.l0, if_pos (by omega), if_pos (by omega), if_pos (by omega), hr, if_neg (by decide), if_pos hc, if_pos (by omega), Option.bind_some, if_pos (by simp; omega), hw]
    · have := ih (i + 1) (out ++ [l[i]]) (by omega) (by omega) (by simp; omega)
      rw [show out ++ insL x (l[i] :: l.drop (i + 1)) = out ++ [l[i]] ++ insL x (l.drop (i + 1)) by simp [insL, hc]]
      refine Ev.step (fun k => ?_) this
      rw [polliwogref03_Put.l0, if_pos (by omega), if_pos (by omega), if_pos (by omega), hr, if_neg (by decide), if_neg hc, if_pos (by omega), hw]
theorem put_ev (l : List Int) (x : Int) (hl : l.length < 1099511627776) : Ev (fun k => polliwogref03_Put.f k l x) (putL l x) := by
  unfold polliwogref03_Put.f
  refine Ev.bind (has_ev l x hl) ?_
  unfold putL
  by_cases hc : x ∈ l
  · rw [if_pos hc]
    simp only [hc, decide_true, if_true]
    exact Ev.now _
  · rw [if_neg hc]
    have := put_ins l x hl l.length 0 [] rfl (Nat.zero_le _) (Nat.le_refl _)
    rw [List.drop_zero, List.nil_append] at this
    simp only [hc, decide_false, Bool.false_eq_true, if_false]
    exact this
def cutL (x : S45) : S45 := ⟨mx (-100) (mn x.f0 100), mn (mx (-100) (mn x.f1 100)) (mx (-100) (mn x.f0 100) + 40)⟩
def fewL (l : List S45) : List S45 := (l.take 12).map cutL
def Near (all : List Int) : Prop := Rise all ∧ ∀ n ∈ all, -100 ≤ n ∧ n < 100
theorem near_len {all : List Int} (h : Near all) : all.length ≤ 200 := by
  have := rise_len all (-100) 100 h.1 h.2
  omega
theorem near_put {all : List Int} {n : Int} (h : Near all) (h0 : -100 ≤ n) (h1 : n < 100) : Near (putL all n) :=
  ⟨rise_putL n h.1, fun m hm => (mem_putL all n m).1 hm |>.elim (fun e => e ▸ ⟨h0, h1⟩) (h.2 m)⟩
theorem near_nil : Near [] := ⟨rise_nil, fun _ h => by cases h⟩
theorem few_l1 (l x4 : List (S45)) (i : Int) (f0 f1 : Int) (v : List (S45) × List Int) (h1 : f1 ≤ 100) : ∀ (m : Nat) (n : Int) (all : List Int), (f1 - n).toNat = m → -100 ≤ n → n ≤ 101 → Near all →
    (Near ((run n m).foldl putL all) → Ev (fun k => polliwoglaw03_Few.l0 k l x4 ((run n m).foldl putL all) (wrap64 (i + 1))) v) → Ev (fun k => polliwoglaw03_Few.l1 k l x4 all i n f0 f1) v := by
  intro m
  induction m with
  | zero =>
    intro n all hm hn hn2 hN he
    refine Ev.step (fun k => ?_) (he hN)
    rw [polliwoglaw03_Few.l1, if_neg (by omega)]
    rfl
  | succ m ih =>
    intro n all hm hn hn2 hN he
    have := near_len hN
    have hw : wrap64 (n + 1) = n + 1 := wid (by omega) (by omega)
    refine Ev.step (f := fun k => (polliwogref03_Put.f k all n).bind fun t => polliwoglaw03_Few.l1 k l x4 t i (n + 1) f0 f1) (fun k => ?_) (Ev.bind (f := fun k t => polliwoglaw03_Few.l1 k l x4 t i (n + 1) f0 f1) (put_ev all n (by omega)) (ih (n + 1) (putL all n) (by omega) (by omega) (by omega) (near_put hN hn (by omega)) he))
    rw [polliwoglaw03_Few.l1, if_pos (by omega), hw]
theorem few_l0 (l : List (S45)) : ∀ (m i : Nat) (x4 : List (S45)) (all : List Int), (l.take 12).length - i = m → i ≤ (l.take 12).length → x4.length ≤ i → Near all →
    Ev (fun k => polliwoglaw03_Few.l0 k l x4 all (i : Int)) (x4 ++ ((l.take 12).drop i).map cutL, allF all (((l.take 12).drop i).map cutL)) := by
  intro m
  induction m with
  | zero =>
    intro i x4 all hm hi hx hN
    obtain rfl : i = (l.take 12).length := by omega
    have hlen : (l.take 12).length = min 12 l.length := List.length_take
    rw [List.drop_length, List.map_nil, List.append_nil, show allF all [] = all from rfl]
    refine Ev.step (f := fun k => polliwoglaw03_Few.j1 k l x4 all ((l.take 12).length : Int) false) (fun k => ?_) (Ev.step (f := fun _ => some (x4, all)) (fun k => by rw [polliwoglaw03_Few.j1, if_neg (by decide)]) (Ev.now _))
    rw [polliwoglaw03_Few.l0]
    split
    · rw [show decide (((l.take 12).length : Int) < 12) = false by rw [decide_eq_false_iff_not]; omega]
    · rfl
  | succ m ih =>
    intro i x4 all hm hi hx hN
    have hlen : (l.take 12).length = min 12 l.length := List.length_take
    have hlt : i < (l.take 12).length := by omega
    have hlt2 : i < l.length := by omega
    have hr := rd_at l i hlt2
    have hg : (l.take 12)[i] = l[i] := List.getElem_take
    rw [List.drop_eq_getElem_cons hlt, List.map_cons, hg]
    have hcut : (cutL l[i]) = ⟨mx (-100) (mn l[i].f0 100), mn (mx (-100) (mn l[i].f1 100)) (mx (-100) (mn l[i].f0 100) + 40)⟩ := rfl
    have hw := w1 (i := i) (by omega)
    have hL := few_l1 l (x4 ++ [cutL l[i]]) (i : Int) (cutL l[i]).f0 (cutL l[i]).f1 (x4 ++ cutL l[i] :: ((l.take 12).drop (i + 1)).map cutL, allF all (cutL l[i] :: ((l.take 12).drop (i + 1)).map cutL)) (by rw [hcut]; simp only [mx, mn]; repeat' split <;> omega)
      ((cutL l[i]).f1 - (cutL l[i]).f0).toNat (cutL l[i]).f0 all rfl (by rw [hcut]; simp only [mx, mn]; repeat' split <;> omega) (by rw [hcut]; simp only [mx, mn]; repeat' split <;> omega) hN (fun hN' => by
        rw [hw]
        have := ih (i + 1) (x4 ++ [cutL l[i]]) ((runS (cutL l[i])).foldl putL all) (by omega) (by omega) (by simp; omega) hN'
        rw [show x4 ++ cutL l[i] :: ((l.take 12).drop (i + 1)).map cutL = x4 ++ [cutL l[i]] ++ ((l.take 12).drop (i + 1)).map cutL by simp]
        exact this)
    refine Ev.step (f := fun k => polliwoglaw03_Few.j1 k l x4 all (i : Int) true) (fun k => ?_) (Ev.step (fun k => ?_) hL)
    · rw [polliwoglaw03_Few.l0, if_pos (by omega), show decide ((i : Int) < 12) = true by rw [decide_eq_true_iff]; omega]
    · rw [polliwoglaw03_Few.j1, if_pos rfl, if_pos (by omega), if_pos (by omega), if_pos (by omega), hr, ← hcut]
      rfl
theorem few_ev (l : List (S45)) : Ev (fun k => polliwoglaw03_Few.f k l) (fewL l, allF [] (fewL l)) := by
  have := few_l0 l _ 0 [] [] rfl (Nat.zero_le _) (Nat.le_refl _) near_nil
  rwa [List.drop_zero] at this
end Go.Proofs.Ytihobchcmfamaaa.SpanEv
