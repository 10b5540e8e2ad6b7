/- What layer 3's methods and its document's lists come to. -/
import Derived.Test.YtihobchcmfamaaaEvFew
import Derived.Test.YtihobchcmfamaaaS0
import Derived.Test.YtihobchcmfamaaaS15
import Derived.Test.YtihobchcmfamaaaS16
import Derived.Test.YtihobchcmfamaaaS17
import Derived.Test.YtihobchcmfamaaaS18
import Derived.Test.YtihobchcmfamaaaS19
import Derived.Test.YtihobchcmfamaaaS20
namespace Go.Proofs.Ytihobchcmfamaaa.SpanEv
open Go.RowKit Go.Proofs.Ytihobchcmfamaaa.S Go.Proofs.YtihobchcmfamaaaW.PrintWords Go.Proofs.YtihobchcmfamaaaW.PrintMore Go.Proofs.Ytihobchcmfamaaa.SpanTh
theorem same_l0 (a b : List Int) (hl : a.length < 1099511627776) (he : a.length = b.length) : ∀ (m i : Nat), a.length - i = m → i ≤ a.length → Ev (fun k => polliwogref03_Same.l0 k a b (a.length : Int) (i : Int)) (decide (a.drop i = b.drop i)) := by
  intro m
  induction m with
  | zero =>
    intro i hm hi
    obtain rfl : i = a.length := by omega
    refine Ev.step (f := fun _ => some true) (fun k => ?_) (by rw [List.drop_length, he, List.drop_length, decide_eq_true rfl]; exact Ev.now _)
    rw [polliwogref03_Same.l0, if_neg (by omega)]
  | succ m ih =>
    intro i hm hi
    have hlt : i < a.length := by omega
    have hlt2 : i < b.length := by omega
    have hr := rdi_at a i hlt
    have hr2 := rdi_at b i hlt2
    have hw := w1 (i := i) (by omega)
    rw [List.drop_eq_getElem_cons hlt, List.drop_eq_getElem_cons hlt2]
    by_cases hc : a[i] = b[i]
    · have := ih (i + 1) (by omega) (by omega)
      rw [show decide (a[i] :: a.drop (i + 1) = b[i] :: b.drop (i + 1)) = decide (a.drop (i + 1) = b.drop (i + 1)) from decide_eq_decide.2 (by rw [hc]; exact ⟨fun h => (List.cons.inj h).2, fun h => by rw [h]⟩)]
      refine Ev.step (fun k => ?_) this
      rw [polliwogref03_Same.l0, if_pos (by omega), if_pos (by omega), if_pos (by omega), if_pos (by omega), hr, hr2, if_pos hc, hw]
    · rw [decide_eq_false (fun h => hc (List.cons.inj h).1)]
      refine Ev.step (f := fun _ => some false) (fun k => ?_) (Ev.now _)
      rw [polliwogref03_Same.l0, if_pos (by omega), if_pos (by omega), if_pos (by omega), if_pos (by omega), hr, hr2, if_neg hc]
theorem same_ev (a b : List Int) (hl : a.length < 1099511627776) : Ev (fun k => polliwogref03_Same.f k a b) (decide (a = b)) := by
  unfold polliwogref03_Same.f
  by_cases he : a.length = b.length
  · have := same_l0 a b hl he a.length 0 rfl (Nat.zero_le _)
    rw [List.drop_zero, List.drop_zero] at this
    simp only [if_pos (show (a.length : Int) = (b.length : Int) by omega)]
    exact this
  · simp only [if_neg (show ¬ (a.length : Int) = (b.length : Int) by omega)]
    rw [decide_eq_false (fun h => he (by rw [h]))]
    exact Ev.now _
theorem eq45 {x y : S45} (h0 : x.f0 = y.f0) (h1 : x.f1 = y.f1) : x = y := by cases x; cases y; simp_all
instance : DecidableEq (S45) := fun x y => if h : x.f0 = y.f0 ∧ x.f1 = y.f1 then isTrue (eq45 h.1 h.2) else isFalse (fun e => h (e ▸ ⟨rfl, rfl⟩))
theorem equal_l0 (a b : List (S45)) (hl : a.length < 1099511627776) (he : a.length = b.length) : ∀ (m i : Nat), a.length - i = m → i ≤ a.length → Ev (fun k => span_Span_52.l0 k a b (a.length : Int) (i : Int)) (decide (a.drop i = b.drop i)) := by
  intro m
  induction m with
  | zero =>
    intro i hm hi
    obtain rfl : i = a.length := by omega
    refine Ev.step (f := fun _ => some true) (fun k => ?_) (by rw [List.drop_length, he, List.drop_length, decide_eq_true rfl]; exact Ev.now _)
    rw [span_Span_52.l0, if_neg (by omega)]
  | succ m ih =>
    intro i hm hi
    have hlt : i < a.length := by omega
    have hlt2 : i < b.length := by omega
    have hr := rd_at a i hlt
    have hr2 := rd_at b i hlt2
    have hw := w1 (i := i) (by omega)
    rw [List.drop_eq_getElem_cons hlt, List.drop_eq_getElem_cons hlt2]
    by_cases hc : a[i] = b[i]
    · have := ih (i + 1) (by omega) (by omega)
      rw [show decide (a[i] :: a.drop (i + 1) = b[i] :: b.drop (i + 1)) = decide (a.drop (i + 1) = b.drop (i + 1)) from decide_eq_decide.2 (by rw [hc]; exact ⟨fun h => (List.cons.inj h).2, fun h => by rw [h]⟩)]
      refine Ev.step (fun k => ?_) this
      rw [span_Span_52.l0, if_pos (by omega), if_pos (by omega), if_pos (by omega), if_pos (by omega), hr, hr2, hc, if_neg (by simp), hw]
    · rw [decide_eq_false (fun h => hc (List.cons.inj h).1)]
      refine Ev.step (f := fun _ => some false) (fun k => ?_) (Ev.now _)
      rw [span_Span_52.l0, if_pos (by omega), if_pos (by omega), if_pos (by omega), if_pos (by omega), hr, hr2, if_pos]
      by_cases h0 : a[i].f0 = b[i].f0
      · have h1 : a[i].f1 ≠ b[i].f1 := fun h1 => hc (eq45 h0 h1)
        simp [h1]
      · simp [h0]
theorem setsame_ev (a b : List (S45)) (hl : a.length < 1099511627776) : Ev (fun k => span_Same.f k a b) (decide (a = b)) := by
  have : Ev (fun k => span_Span_52.f k a b) (decide (a = b)) := by
    unfold span_Span_52.f
    by_cases he : a.length = b.length
    · have := equal_l0 a b hl he a.length 0 rfl (Nat.zero_le _)
      rw [List.drop_zero, List.drop_zero] at this
      simp only [if_pos (show (a.length : Int) = (b.length : Int) by omega)]
      exact this
    · simp only [if_neg (show ¬ (a.length : Int) = (b.length : Int) by omega)]
      rw [decide_eq_false (fun h => he (by rw [h]))]
      exact Ev.now _
  exact Ev.bind this (Ev.now _)
theorem len_l0 (s : List (S45)) (hl : s.length < 1099511627776) (hn : ∀ x ∈ s, x.f0 < x.f1) : ∀ (m i : Nat) (acc : Int), s.length - i = m → i ≤ s.length → 0 ≤ acc → acc + lenL (s.drop i) ≤ 4611686018427387904 → Ev (fun k => span_Set_Len.l0 k acc s (s.length : Int) (i : Int)) (acc + lenL (s.drop i)) := by
  have pos : ∀ t : List (S45), (∀ x ∈ t, x.f0 < x.f1) → 0 ≤ lenL t := by
    intro t ht
    induction t with
    | nil => exact Int.le_refl _
    | cons x t ih =>
      have := ih (fun y hy => ht y (List.mem_cons_of_mem _ hy))
      have := ht x List.mem_cons_self
      unfold lenL at *
      rw [List.map_cons, List.sum_cons]
      omega
  intro m
  induction m with
  | zero =>
    intro i acc hm hi ha hb
    obtain rfl : i = s.length := by omega
    refine Ev.step (f := fun _ => some acc) (fun k => ?_) (by rw [List.drop_length, show acc + lenL [] = acc by unfold lenL; simp]; exact Ev.now _)
    rw [span_Set_Len.l0, if_neg (by omega)]
  | succ m ih =>
    intro i acc hm hi ha hb
    have hlt : i < s.length := by omega
    have hr := rd_at s i hlt
    have hw := w1 (i := i) (by omega)
    have hx := hn s[i] (List.getElem_mem hlt)
    have hp := pos (s.drop (i + 1)) (fun x hx => hn x (List.mem_of_mem_drop hx))
    have e : lenL (s.drop i) = (s[i].f1 - s[i].f0) + lenL (s.drop (i + 1)) := by
      rw [List.drop_eq_getElem_cons hlt]
      unfold lenL
      rw [List.map_cons, List.sum_cons]
    rw [e] at hb ⊢
    have := ih (i + 1) (acc + (s[i].f1 - s[i].f0)) (by omega) (by omega) (by omega) (by omega)
    rw [show acc + (s[i].f1 - s[i].f0 + lenL (s.drop (i + 1))) = acc + (s[i].f1 - s[i].f0) + lenL (s.drop (i + 1)) by omega]
    refine Ev.step (fun k => ?_) this
    have h1 : wrap64 (s[i].f1 - s[i].f0) = s[i].f1 - s[i].f0 := wid (by omega) (by omega)
    have h2 : wrap64 (acc + (s[i].f1 - s[i].f0)) = acc + (s[i].f1 - s[i].f0) := wid (by omega) (by omega)
    rw [span_Set_Len.l0, if_pos (by omega), if_pos (by omega), if_pos (by omega), hr, h1, h2, hw]
theorem len_ev (s : List (S45)) (hl : s.length < 1099511627776) (hn : ∀ x ∈ s, x.f0 < x.f1) (hb : lenL s ≤ 4611686018427387904) : Ev (fun k => span_Set_Len.f k s) (lenL s) := by
  have := len_l0 s hl hn s.length 0 0 rfl (Nat.zero_le _) (Int.le_refl _) (by rw [List.drop_zero]; omega)
  rw [List.drop_zero, show (0 : Int) + lenL s = lenL s by omega] at this
  exact this
theorem list_l1 (s : List (S45)) (L i : Int) (f0 f1 : Int) (v : List Int) (h1 : f1 ≤ 4611686018427387904) : ∀ (m : Nat) (n : Int) (out : List Int), (f1 - n).toNat = m → -4611686018427387904 ≤ n → out.length + m < 65536 →
    Ev (fun k => span_Set_List.l0 k (out ++ run n m) s L (wrap64 (i + 1))) v → Ev (fun k => span_Set_List.l1 k out n s L i f0 f1) v := by
  intro m
  induction m with
  | zero =>
    intro n out hm hn hb he
    refine Ev.step (fun k => ?_) he
    rw [span_Set_List.l1, if_neg (by omega), run, List.append_nil]
  | succ m ih =>
    intro n out hm hn hb he
    have hw : wrap64 (n + 1) = n + 1 := wid (by omega) (by omega)
    refine Ev.step (fun k => ?_) (ih (n + 1) (out ++ [n]) (by omega) (by omega) (by simp; omega) (by rw [List.append_assoc]; exact he))
    rw [span_Set_List.l1, if_pos (by omega), if_pos (by omega), if_pos (by omega), hw]
theorem list_l0 (s : List (S45)) (hl : s.length < 1099511627776) (hS : Small s) (hn : ∀ x ∈ s, x.f0 < x.f1) : ∀ (m i : Nat) (out : List Int), s.length - i = m → i ≤ s.length → out.length + (listL (s.drop i)).length < 65536 →
    Ev (fun k => span_Set_List.l0 k out s (s.length : Int) (i : Int)) (out ++ listL (s.drop i)) := by
  intro m
  induction m with
  | zero =>
    intro i out hm hi ho
    obtain rfl : i = s.length := by omega
    refine Ev.step (f := fun _ => some out) (fun k => ?_) (by rw [List.drop_length, show listL [] = [] from rfl, List.append_nil]; exact Ev.now _)
    rw [span_Set_List.l0, if_neg (by omega)]
  | succ m ih =>
    intro i out hm hi ho
    have hlt : i < s.length := by omega
    have hr := rd_at s i hlt
    have hw := w1 (i := i) (by omega)
    have hx := hn s[i] (List.getElem_mem hlt)
    have hs := hS s[i] (List.getElem_mem hlt)
    unfold mostL at hs
    have e : listL (s.drop i) = runS s[i] ++ listL (s.drop (i + 1)) := by rw [List.drop_eq_getElem_cons hlt]; rfl
    have hrl : (runS s[i]).length = (s[i].f1 - s[i].f0).toNat := len_run _ _
    rw [e, List.length_append] at ho
    rw [e, ← List.append_assoc]
    refine Ev.step (fun k => ?_) (list_l1 s (s.length : Int) (i : Int) s[i].f0 s[i].f1 _ (by omega) _ s[i].f0 out rfl (by omega) (by omega) ?_)
    · rw [span_Set_List.l0, if_pos (by omega), if_pos (by omega), if_pos (by omega), hr]
    · rw [hw]
      exact ih (i + 1) (out ++ runS s[i]) (by omega) (by omega) (by rw [List.length_append]; omega)
theorem list_ev (s : List (S45)) (hN : Norm s) (hS : Small s) (hb : (listL s).length < 65536) : Ev (fun k => span_Set_List.f k s) (listL s) := by
  have := norm_len hN
  have := list_l0 s (by omega) hS hN.1 s.length 0 [] rfl (Nat.zero_le _) (by rw [List.drop_zero]; simpa using hb)
  rwa [List.drop_zero, List.nil_append] at this
theorem spans_l0 (l : List Int) (hl : l.length < 1099511627776) (hb : ∀ n ∈ l, -4611686018427387904 ≤ n ∧ n ≤ 4611686018427387904) : ∀ (m i : Nat) (out : List Int), l.length - i = m → i ≤ l.length → out.length ≤ 2 * i → (0 < i → 0 < out.length) →
    Ev (fun k => polliwogref03_Spans.l0 k l out l (l.length : Int) (i : Int)) (spansF (if i = 0 then none else l[i - 1]?) out (l.drop i)) := by
  intro m
  induction m with
  | zero =>
    intro i out hm hi ho hp
    obtain rfl : i = l.length := by omega
    refine Ev.step (f := fun _ => some out) (fun k => ?_) (by rw [List.drop_length]; exact Ev.now _)
    rw [polliwogref03_Spans.l0, if_neg (by omega)]
  | succ m ih =>
    intro i out hm hi ho hp
    have hlt : i < l.length := by omega
    have hr := rdi_at l i hlt
    have hw := w1 (i := i) (by omega)
    have hbi := hb l[i] (List.getElem_mem hlt)
    have hw2 : wrap64 (l[i] + 1) = l[i] + 1 := wid (by omega) (by omega)
    have set2 : ∀ o : List Int, (o ++ [l[i], l[i]]).set (o.length + 1) (l[i] + 1) = o ++ [l[i], l[i] + 1] := fun o => by
      rw [List.set_append_right _ _ (by omega), Nat.add_sub_cancel_left]; rfl
    have ew : wrap64 (((out ++ [l[i], l[i]]).length : Int) - 1) = ((out.length + 1 : Nat) : Int) := by
      rw [List.length_append, wid] <;> simp only [List.length_cons, List.length_nil] <;> omega
    have elen : (out ++ [l[i], l[i]]).length = out.length + 2 := by simp
    rw [List.drop_eq_getElem_cons hlt, spansF]
    have hnext : (if i + 1 = 0 then none else l[i + 1 - 1]?) = some l[i] := by rw [if_neg (by omega), Nat.add_sub_cancel, List.getElem?_eq_getElem hlt]
    by_cases h0 : i = 0
    · have e : spStep (if i = 0 then none else l[i - 1]?) out l[i] = out ++ [l[i], l[i] + 1] := by rw [if_pos h0]; simp [spStep]
      have := ih (i + 1) (out ++ [l[i], l[i] + 1]) (by omega) (by omega) (by simp; omega) (fun _ => by simp)
      rw [hnext] at this
      rw [e]
      refine Ev.step (fun k => ?_) this
      rw [polliwogref03_Spans.l0, if_pos (by omega), if_pos (by omega), if_pos (by omega), if_pos (by omega), hr, Option.bind_some, if_pos (by simp; omega), Option.bind_some, ew, if_pos (by omega), if_pos (by rw [elen]; omega), hw2, Int.toNat_natCast, set2, hw]
    · have hpos : 0 < i := by omega
      have hprev : l[i - 1]? = some l[i - 1] := List.getElem?_eq_getElem (by omega)
      have hbp := hb l[i - 1] (List.getElem_mem (by omega))
      have hwm : wrap64 ((i : Int) - 1) = ((i - 1 : Nat) : Int) := by rw [wid (by omega) (by omega)]; omega
      have hrp := rdi_at l (i - 1) (by omega)
      have hw3 : wrap64 (l[i - 1] + 1) = l[i - 1] + 1 := wid (by omega) (by omega)
      rw [if_neg h0, hprev]
      by_cases hc : l[i - 1] + 1 = l[i]
      · obtain ⟨o, y, rfl⟩ : ∃ o y, out = o ++ [y] := by
          rcases List.eq_nil_or_concat out with rfl | ⟨o, y, rfl⟩
          · exact absurd (hp hpos) (by simp)
          · exact ⟨o, y, List.concat_eq_append⟩
        have e : spStep (some l[i - 1]) (o ++ [y]) l[i] = o ++ [l[i] + 1] := by
          unfold spStep
          rw [if_pos (by rw [show l[i] - 1 = l[i - 1] by omega])]
          simp
        have := ih (i + 1) (o ++ [l[i] + 1]) (by omega) (by omega) (by simp at ho ⊢; omega) (fun _ => by simp)
        rw [hnext] at this
        rw [e]
        have ew' : wrap64 (((o ++ [y]).length : Int) - 1) = ((o.length : Nat) : Int) := by
          rw [List.length_append, wid] <;> simp only [List.length_append, List.length_cons, List.length_nil] at * <;> omega
        have sl : (o ++ [y]).set o.length (l[i] + 1) = o ++ [l[i] + 1] := by rw [List.set_append_right _ _ (by omega), Nat.sub_self]; rfl
        refine Ev.step (fun k => ?_) this
        rw [polliwogref03_Spans.l0, if_pos (by omega), if_pos (by omega), if_pos (by omega), if_neg (by omega), hwm, if_pos (by omega), if_pos (by omega), hrp, hw3, hr, if_pos hc, ew', if_pos (by omega), if_pos (by rw [List.length_append, List.length_singleton]; omega), hw2, Int.toNat_natCast, sl, hw]
      · have e : spStep (some l[i - 1]) out l[i] = out ++ [l[i], l[i] + 1] := by
          unfold spStep
          rw [if_neg]
          intro h
          injection h with h
          omega
        have := ih (i + 1) (out ++ [l[i], l[i] + 1]) (by omega) (by omega) (by simp; omega) (fun _ => by simp)
        rw [hnext] at this
        rw [e]
        refine Ev.step (fun k => ?_) this
        rw [polliwogref03_Spans.l0, if_pos (by omega), if_pos (by omega), if_pos (by omega), if_neg (by omega), hwm, if_pos (by omega), if_pos (by omega), hrp, hw3, hr, if_neg hc, Option.bind_some, if_pos (by simp; omega), Option.bind_some, ew, if_pos (by omega), if_pos (by rw [elen]; omega), hw2, Int.toNat_natCast, set2, hw]
theorem spans_ev (l : List Int) (hl : l.length < 1099511627776) (hb : ∀ n ∈ l, -4611686018427387904 ≤ n ∧ n ≤ 4611686018427387904) : Ev (fun k => polliwogref03_Spans.f k l) (spansF none [] l) := by
  have := spans_l0 l hl hb l.length 0 [] rfl (Nat.zero_le _) (Nat.zero_le _) (fun h => absurd h (by omega))
  rwa [List.drop_zero] at this
theorem ends_len (s : List (S45)) : (endsL s).length = 2 * s.length := by
  induction s with
  | nil => rfl
  | cons x s ih =>
    unfold endsL at *
    rw [List.flatMap_cons, List.length_append, ih]
    simp
    omega
theorem ends_at : ∀ (s : List (S45)) (i : Nat) (h : i < s.length), (endsL s)[2 * i]? = some s[i].f0 ∧ (endsL s)[2 * i + 1]? = some s[i].f1
  | [], i, h => absurd h (by simp)
  | x :: s, 0, h => ⟨rfl, rfl⟩
  | x :: s, i + 1, h => by
    have := ends_at s i (by simpa using h)
    unfold endsL at *
    rw [List.flatMap_cons, show 2 * (i + 1) = 2 * i + 1 + 1 by omega]
    simpa using this
theorem rd_some {l : List Int} {i : Nat} {x : Int} (h : l[i]? = some x) : rd l (i : Int) = x := by
  unfold rd
  rw [Int.toNat_natCast]
  simp [h]
theorem is_l0 (s : List (S45)) (hl : s.length < 1099511627776) : ∀ (m i : Nat), s.length - i = m → i ≤ s.length → Ev (fun k => polliwoglaw03_is.l0 k (endsL s) s (s.length : Int) (i : Int)) true := by
  intro m
  induction m with
  | zero =>
    intro i hm hi
    obtain rfl : i = s.length := by omega
    refine Ev.step (f := fun _ => some true) (fun k => ?_) (Ev.now _)
    rw [polliwoglaw03_is.l0, if_neg (by omega)]
  | succ m ih =>
    intro i hm hi
    have hlt : i < s.length := by omega
    have hr := rd_at s i hlt
    have hw := w1 (i := i) (by omega)
    obtain ⟨h0, h1⟩ := ends_at s i hlt
    have hw0 : wrap64 (2 * (i : Int)) = ((2 * i : Nat) : Int) := by rw [wid (by omega) (by omega)]; omega
    have hw1 : wrap64 (((2 * i : Nat) : Int) + 1) = ((2 * i + 1 : Nat) : Int) := by rw [wid (by omega) (by omega)]; omega
    have hel := ends_len s
    refine Ev.step (fun k => ?_) (ih (i + 1) (by omega) (by omega))
    rw [polliwoglaw03_is.l0, if_pos (by omega), if_pos (by omega), if_pos (by omega), hw0, if_pos (by omega), if_pos (by omega), hr, rd_some h0, if_pos rfl, hw1, if_pos (by omega), if_pos (by omega), rd_some h1, if_pos rfl, hw]
theorem is_ev {s : List (S45)} {l : List Int} (hN : Norm s) (hS : Small s) (hR : Rise l) (hb : l.length < 65536) (hm : ∀ n, n ∈ l ↔ Mem n s) : Ev (fun k => polliwoglaw03_is.f k s l) true := by
  have e := list_eq hN hR hm
  have hsl := norm_len hN
  rw [e] at hsl
  have hb' : ∀ n ∈ l, -4611686018427387904 ≤ n ∧ n ≤ 4611686018427387904 := fun n hn => by
    obtain ⟨x, hx, h0, h1⟩ := (hm n).1 hn
    have := hS x hx
    unfold mostL at this
    omega
  have e2 : spansF none [] l = endsL s := by rw [← e, spans_list s none [] hN (fun _ _ _ h => by cases h)]; rfl
  have hsp := spans_ev l (by omega) hb'
  rw [e2] at hsp
  have hlen : lenL s = (l.length : Int) := by rw [lenL_eq hN, e]
  have hle := len_ev s (by omega) hN.1 (by omega)
  have hli := list_ev s hN hS (by rw [e]; exact hb)
  rw [e] at hli
  have hsa := same_ev l l (by omega)
  rw [decide_eq_true rfl] at hsa
  unfold polliwoglaw03_is.f
  refine Ev.bind hsp ?_
  have hc : ((endsL s).length : Int) = wrap64 (2 * (s.length : Int)) := by rw [ends_len, wid (by omega) (by omega)]; omega
  simp only [if_pos hc]
  refine Ev.bind hle ?_
  simp only [if_pos hlen]
  refine Ev.bind hli ?_
  refine Ev.bind hsa ?_
  refine Ev.step (fun k => ?_) (is_l0 s (by omega) s.length 0 rfl (Nat.zero_le _))
  rw [polliwoglaw03_is.j0, if_neg (by decide)]
  rfl
end Go.Proofs.Ytihobchcmfamaaa.SpanEv
