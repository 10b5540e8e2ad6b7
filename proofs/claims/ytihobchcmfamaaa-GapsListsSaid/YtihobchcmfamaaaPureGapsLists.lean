/- GapsLists: the plain law. -/
import Derived.Test.YtihobchcmfamaaaEvGap
import Derived.Test.YtihobchcmfamaaaEvSpan
import Derived.Test.YtihobchcmfamaaaArgs
import Derived.Test.YtihobchcmfamaaaS0
import Derived.Test.YtihobchcmfamaaaS4
import Derived.Test.YtihobchcmfamaaaS5
import Derived.Test.YtihobchcmfamaaaS7
import Derived.Test.YtihobchcmfamaaaS9
import Derived.Test.YtihobchcmfamaaaS16
import Derived.Test.YtihobchcmfamaaaS17
import Derived.Test.YtihobchcmfamaaaS28
import Derived.Test.YtihobchcmfamaaaS30
import Derived.Test.YtihobchcmfamaaaS34
import Derived.Test.YtihobchcmfamaaaS37
import Derived.Test.YtihobchcmfamaaaS38
namespace Go.Proofs.Ytihobchcmfamaaa.Pure
open Go.RowKit Go.Proofs.Ytihobchcmfamaaa.S Go.Proofs.YtihobchcmfamaaaW.PrintWords Go.Proofs.YtihobchcmfamaaaW.PrintMore Go.Proofs.Ytihobchcmfamaaa.SpanTh Go.Proofs.Ytihobchcmfamaaa.SpanEv Go.Proofs.Ytihobchcmfamaaa.Bits
theorem of1_eq (a : Int) : polliwogref01_Of.f a = some (a % 16777216) := by
  unfold polliwogref01_Of.f
  by_cases h0 : 0 ≤ a
  · have e := Int.tmod_eq_emod_of_nonneg (b := 16777216) h0
    rw [if_neg (by rw [e]; omega), e]
  · have e : Int.tmod a 16777216 = -((-a) % 16777216) := by
      have h1 := Int.tmod_eq_emod_of_nonneg (a := -a) (b := 16777216) (by omega)
      rw [Int.neg_tmod] at h1
      omega
    rw [e]
    by_cases h2 : (-a) % 16777216 = 0
    · rw [if_neg (by omega)]
      congr 1
      omega
    · rw [if_pos (by omega), widG (by omega) (by omega)]
      congr 1
      omega
theorem pairs_l0 (b : Int) (l : List Int) (hb : 0 ≤ b ∧ b < 16777216) (hl : l.length < 1000000) (hr : ∀ n ∈ l, 0 ≤ n ∧ n < 16777216) : ∀ (m i : Nat) (out : List Int), l.length - i = m → i ≤ l.length → out.length ≤ 2 * i → (0 < i → 0 < out.length) →
    Ev (fun k => polliwogref09_Pairs.l0 k b l out l (l.length : Int) (i : Int)) (pairsF b (if i = 0 then none else l[i - 1]?) out (l.drop i)) := by
  intro m
  induction m with
  | zero =>
    intro i out hm hi ho hp
    obtain rfl : i = l.length := by omega
    refine Ev.step (f := fun _ => some out) (fun k => ?_) (by rw [List.drop_length]; exact Ev.now _)
    rw [polliwogref09_Pairs.l0, if_neg (Int.lt_irrefl _)]
  | succ m ih =>
    intro i out hm hi ho hp
    have hlt : i < l.length := by omega
    have hri := rdi_at l i hlt
    have hw := w1 (i := i) (by omega)
    have hx := hr l[i] (List.getElem_mem hlt)
    have p1 : (i : Int) < (l.length : Int) := Int.ofNat_lt.2 hlt
    have p2 : (0 : Int) ≤ (i : Int) := Int.natCast_nonneg _
    have hs1 : wrap64 (b + l[i]) = b + l[i] := widG (by omega) (by omega)
    have hs2 : wrap64 (b + l[i] + 1) = b + l[i] + 1 := widG (by omega) (by omega)
    have eg1 : (b + l[i]) % 16777216 = gM b l[i] := rfl
    have eg2 : (b + l[i] + 1) % 16777216 = gM b (l[i] + 1) := by unfold gM; congr 1; omega
    have hnext : (if i + 1 = 0 then none else l[i + 1 - 1]?) = some l[i] := by rw [if_neg (by omega), Nat.add_sub_cancel, List.getElem?_eq_getElem hlt]
    have set2 : (out ++ [gM b l[i], 0]).set (out.length + 1) (gM b (l[i] + 1)) = out ++ [gM b l[i], gM b (l[i] + 1)] := by
      rw [List.set_append_right _ _ (by omega), Nat.add_sub_cancel_left]; rfl
    have elen : (out ++ [gM b l[i], 0]).length = out.length + 2 := by simp
    have ew : wrap64 (((out ++ [gM b l[i], 0]).length : Int) - 1) = ((out.length + 1 : Nat) : Int) := by rw [elen, widG (by omega) (by omega)]; omega
    have q1 : (0 : Int) ≤ ((out.length + 1 : Nat) : Int) := Int.natCast_nonneg _
    have q2 : ((out.length + 1 : Nat) : Int) < ((out ++ [gM b l[i], 0]).length : Int) := by rw [elen]; omega
    have q3 : out.length + [gM b l[i], 0].length < 17592186044416 := by simp; omega
    -- a new pair
    have fresh : Ev (fun k => polliwogref09_Pairs.j1 k b l out l[i] l (l.length : Int) (i : Int) true) (pairsF b (some l[i]) (out ++ [gM b l[i], gM b (l[i] + 1)]) (l.drop (i + 1))) := by
      have := ih (i + 1) (out ++ [gM b l[i], gM b (l[i] + 1)]) (by omega) (by omega) (by simp; omega) (fun _ => by simp)
      rw [hnext] at this
      refine Ev.step (fun k => ?_) this
      rw [polliwogref09_Pairs.j1, if_pos rfl, hs1, of1_eq, Option.bind_some, eg1, Option.bind_some, if_pos q3, Option.bind_some, hs2, of1_eq, Option.bind_some, eg2, ew, if_pos q1, if_pos q2, Int.toNat_natCast, set2, hw]
    rw [List.drop_eq_getElem_cons hlt, pairsF]
    by_cases h0 : i = 0
    · have e : pStep b (if i = 0 then none else l[i - 1]?) out l[i] = out ++ [gM b l[i], gM b (l[i] + 1)] := by rw [if_pos h0]; simp [pStep]
      rw [e]
      refine Ev.step (fun k => ?_) fresh
      rw [polliwogref09_Pairs.l0, if_pos p1, if_pos p2, if_pos p1, if_pos (by omega), hri]
    · have hpos : 0 < i := by omega
      have hprev : l[i - 1]? = some l[i - 1] := List.getElem?_eq_getElem (by omega)
      have hbp := hr l[i - 1] (List.getElem_mem (by omega))
      have hwm : wrap64 ((i : Int) - 1) = ((i - 1 : Nat) : Int) := by rw [widG (by omega) (by omega)]; omega
      have hrp := rdi_at l (i - 1) (by omega)
      have hw3 : wrap64 (l[i - 1] + 1) = l[i - 1] + 1 := widG (by omega) (by omega)
      have p3 : ¬ (i : Int) = 0 := by omega
      have p4 : (0 : Int) ≤ ((i - 1 : Nat) : Int) := Int.natCast_nonneg _
      have p5 : ((i - 1 : Nat) : Int) < (l.length : Int) := by omega
      rw [if_neg h0, hprev]
      by_cases hc : l[i - 1] + 1 = l[i]
      · obtain ⟨o, y, rfl⟩ : ∃ o y, out = o ++ [y] := by
          rcases List.eq_nil_or_concat out with rfl | ⟨o, y, rfl⟩
          · exact absurd (hp hpos) (by simp)
          · exact ⟨o, y, List.concat_eq_append⟩
        have e : pStep b (some l[i - 1]) (o ++ [y]) l[i] = o ++ [gM b (l[i] + 1)] := by
          unfold pStep
          rw [if_pos (by rw [show l[i] - 1 = l[i - 1] by omega])]
          simp
        have := ih (i + 1) (o ++ [gM b (l[i] + 1)]) (by omega) (by omega) (by simp at ho ⊢; omega) (fun _ => by simp)
        rw [hnext] at this
        rw [e]
        have el : (o ++ [y]).length = o.length + 1 := by simp
        have ew' : wrap64 (((o ++ [y]).length : Int) - 1) = ((o.length : Nat) : Int) := by rw [el, widG (by omega) (by omega)]; omega
        have sl : (o ++ [y]).set o.length (gM b (l[i] + 1)) = o ++ [gM b (l[i] + 1)] := by rw [List.set_append_right _ _ (by omega), Nat.sub_self]; rfl
        have r1 : (0 : Int) ≤ ((o.length : Nat) : Int) := Int.natCast_nonneg _
        have r2 : ((o.length : Nat) : Int) < ((o ++ [y]).length : Int) := by rw [el]; omega
        have r3 : (wrap64 (l[i - 1] + 1) != l[i]) = false := by rw [hw3, hc, bne_self_eq_false]
        refine Ev.step (f := fun k => polliwogref09_Pairs.j1 k b l (o ++ [y]) l[i] l (l.length : Int) (i : Int) false) (fun k => ?_) (Ev.step (fun k => ?_) this)
        · rw [polliwogref09_Pairs.l0, if_pos p1, if_pos p2, if_pos p1, if_neg p3, hwm, if_pos p4, if_pos p5, hrp, hri, r3]
        · rw [polliwogref09_Pairs.j1, if_neg (by decide), hs1, hs2, of1_eq, Option.bind_some, eg2, ew', if_pos r1, if_pos r2, Int.toNat_natCast, sl, hw]
      · have e : pStep b (some l[i - 1]) out l[i] = out ++ [gM b l[i], gM b (l[i] + 1)] := by
          unfold pStep
          rw [if_neg]
          intro h
          injection h with h
          omega
        have r3 : (wrap64 (l[i - 1] + 1) != l[i]) = true := by rw [hw3]; exact bne_iff_ne.2 hc
        rw [e]
        refine Ev.step (fun k => ?_) fresh
        rw [polliwogref09_Pairs.l0, if_pos p1, if_pos p2, if_pos p1, if_neg p3, hwm, if_pos p4, if_pos p5, hrp, hri, r3]
theorem rpairs_ev (b : Int) {c : List (S45)} (hb : 0 ≤ b ∧ b < 16777216) (hc : Norm c) (hl : (listL c).length < 1000000) (hr : ∀ n ∈ listL c, 0 ≤ n ∧ n < 16777216) : Ev (fun k => polliwogref09_Pairs.f k b (listL c)) (pairsOf b c) := by
  have := pairs_l0 b (listL c) hb hl hr (listL c).length 0 [] rfl (Nat.zero_le _) (Nat.zero_le _) (fun h => absurd h (by omega))
  rw [List.drop_zero, if_pos rfl, pairsF_list b hc] at this
  exact this
theorem gsame_l0 (a : List Int) (hl : a.length < 1000000) (hr : ∀ n ∈ a, 0 ≤ n ∧ n < 16777216) : ∀ (m i : Nat), a.length - i = m → i ≤ a.length → Ev (fun k => polliwoglaw09_same.l0 k a a (a.length : Int) (i : Int)) true := by
  intro m
  induction m with
  | zero =>
    intro i hm hi
    obtain rfl : i = a.length := by omega
    refine Ev.step (f := fun _ => some true) (fun k => ?_) (Ev.now _)
    rw [polliwoglaw09_same.l0, if_neg (Int.lt_irrefl _)]
  | succ m ih =>
    intro i hm hi
    have hlt : i < a.length := by omega
    have hri := rdi_at a i hlt
    have hw := w1 (i := i) (by omega)
    have hx := hr a[i] (List.getElem_mem hlt)
    have hwx : wrap64 a[i] = a[i] := widG (by omega) (by omega)
    have p1 : (i : Int) < (a.length : Int) := Int.ofNat_lt.2 hlt
    have p2 : (0 : Int) ≤ (i : Int) := Int.natCast_nonneg _
    refine Ev.step (fun k => ?_) (ih (i + 1) (by omega) (by omega))
    rw [polliwoglaw09_same.l0, if_pos p1, if_pos p2, if_pos p1, if_pos p1, hri, hwx, if_pos rfl, hw]
theorem gsame_ev (a : List Int) (hl : a.length < 1000000) (hr : ∀ n ∈ a, 0 ≤ n ∧ n < 16777216) : Ev (fun k => polliwoglaw09_same.f k a a) true := by
  unfold polliwoglaw09_same.f
  simp only [if_true]
  exact gsame_l0 a hl hr a.length 0 rfl (Nat.zero_le _)
theorem pairs_range (b : Int) (c : List (S45)) : ∀ n ∈ pairsOf b c, 0 ≤ n ∧ n < 16777216 := by
  intro n hn
  obtain ⟨x, _, h⟩ := List.mem_flatMap.1 hn
  simp only [List.mem_cons, List.not_mem_nil, or_false] at h
  rcases h with rfl | rfl
  · exact gM_range _ _
  · exact gM_range _ _
/-- Behind the filter: the law's last part. -/
theorem lists_end (a0 a2 : Int) (few s c : List (S45)) (inn : List Int) (hs : s = ofL few) (hc : c = cutH s) (hfl : few.length ≤ 12) (hS : Small s) (hsl : s.length ≤ 200) (hin : inn = listL c) (hb : ∀ n, Mem n c → 0 ≤ n ∧ n < 100) :
    Ev (fun k => (seq_Of.f a0).bind fun t685 => (span_Of.f k few).bind fun t686 => (gaps_List.f k t685 t686).bind fun t689 => (polliwogref09_Pairs.f k (wrap64 t685) inn).bind fun t692 => (polliwoglaw09_same.f k t689 t692).bind fun t695 => if t695 = true then ((gaps_Count.f t689).bind fun t696 => polliwoglaw09_GapsLists.j1 k a2 inn t685 t689 (t696 != (inn.length : Int))) else polliwoglaw09_GapsLists.j1 k a2 inn t685 t689 true) true := by
  obtain ⟨n1, s1, m1, mid⟩ := cutH_spec hS
  rw [← hc] at n1 s1 m1 mid
  have hlen : (listL c).length ≤ 100 := by
    have := rise_len (listL c) 0 100 (rise_listL n1) (fun n hn => hb n ((mem_listL c n).1 hn))
    omega
  have hcl := norm_len n1
  have hmid : ∀ x ∈ c, 0 ≤ x.f0 ∧ x.f0 < x.f1 ∧ x.f1 ≤ 100 := fun x hx => by
    have h1 := n1.1 x hx
    have h2 := hb x.f0 ⟨x, hx, Int.le_refl _, h1⟩
    have h3 := hb (x.f1 - 1) ⟨x, hx, by omega, by omega⟩
    omega
  rw [seqof_eq]
  simp only [Option.bind_some]
  have hbb : 0 ≤ a0 % 16777216 ∧ a0 % 16777216 < 16777216 := by omega
  generalize a0 % 16777216 = b at *
  have hwb : wrap64 b = b := widG (by omega) (by omega)
  have h1 := of_ev few (by omega)
  rw [← hs] at h1
  refine Ev.bind h1 ?_
  have h2 := glist_ev b s (by omega)
  rw [← hc] at h2
  refine Ev.bind h2 ?_
  rw [hwb, hin]
  refine Ev.bind (rpairs_ev b hbb n1 (by omega) (fun n hn => by have := hb n ((mem_listL c n).1 hn); omega)) ?_
  have hpl := pairs_len b c
  refine Ev.bind (gsame_ev _ (by omega) (pairs_range b c)) ?_
  simp only [if_true]
  have hcnt := count_eq b c (by omega)
  rw [count_mid _ _ (fun x hx => by have := hmid x hx; omega), lenL_eq n1, Int.zero_add] at hcnt
  rw [hcnt]
  simp only [Option.bind_some, bne_self_eq_false]
  have last : ∀ top : Int, 0 ≤ top → top ≤ 1000 → (∀ x ∈ c, x.f1 ≤ top) → Ev (fun k => polliwoglaw09_GapsLists.j2 k a2 (listL c) b (pairsOf b c) top) true := by
    intro top h0 h3 h4
    have hf : 0 ≤ a2 % 256 ∧ a2 % 256 < 256 := by omega
    generalize hfe : a2 % 256 = far at *
    have hwt : wrap64 (top + far) = top + far := widG (by omega) (by omega)
    have e : (gM b (top + far) - b) % 16777216 = top + far := by rw [gM_to0]; omega
    have g := gset_ev b (gM b (top + far)) c (by omega) n1 s1 (fun x hx => by have := hmid x hx; have := h4 x hx; rw [e]; omega) (by omega)
    refine Ev.step (f := fun k => (gaps_Set.f k b (gM b (top + far)) (pairsOf b c)).bind fun bt => if bt.2 = true then ((span_Set_List.f k bt.1).bind fun t703 => (polliwogref03_Same.f k t703 (listL c)).bind fun t706 => some t706) else none) (fun k => ?_) (Ev.bind g ?_)
    · rw [polliwoglaw09_GapsLists.j2, and_i64_255, hfe, hwt, add_eq, Option.bind_some]
    · simp only [if_true]
      refine Ev.bind (list_ev c n1 s1 (by omega)) ?_
      have hsa := same_ev (listL c) (listL c) (by omega)
      rw [decide_eq_true rfl] at hsa
      exact Ev.bind hsa (Ev.now _)
  by_cases hz : listL c = []
  · have hcz : ∀ x ∈ c, x.f1 ≤ 0 := fun x hx => by
      have h5 : x.f0 ∈ listL c := (mem_listL c _).2 ⟨x, hx, Int.le_refl _, n1.1 x hx⟩
      rw [hz] at h5
      cases h5
    refine Ev.step (fun k => ?_) (last 0 (Int.le_refl _) (by decide) hcz)
    rw [polliwoglaw09_GapsLists.j1, if_neg (by decide), if_neg (by rw [hz]; decide)]
  · have hpos : 0 < (listL c).length := List.length_pos_iff.2 hz
    have hq : (listL c).length - 1 < (listL c).length := by omega
    have hwl : wrap64 (((listL c).length : Int) - 1) = (((listL c).length - 1 : Nat) : Int) := by rw [widG (by omega) (by omega)]; omega
    have hrl := rdi_at (listL c) ((listL c).length - 1) hq
    have hl0 := hb _ ((mem_listL c _).1 (List.getElem_mem hq))
    have hw1 : wrap64 ((listL c)[(listL c).length - 1] + 1) = (listL c)[(listL c).length - 1] + 1 := widG (by omega) (by omega)
    have hle : ∀ x ∈ c, x.f1 ≤ (listL c)[(listL c).length - 1] + 1 := fun x hx => by
      have hxx := n1.1 x hx
      have h5 : x.f1 - 1 ∈ listL c := (mem_listL c _).2 ⟨x, hx, by omega, by omega⟩
      obtain ⟨p, hp, he⟩ := List.mem_iff_getElem.1 h5
      rcases Nat.lt_or_ge p ((listL c).length - 1) with h6 | h6
      · have := List.pairwise_iff_getElem.1 (rise_listL n1) p _ hp hq h6
        omega
      · have h7 : p = (listL c).length - 1 := by omega
        subst h7
        omega
    have p1 : (((listL c).length : Nat) : Int) > 0 := by omega
    have p2 : (0 : Int) ≤ (((listL c).length - 1 : Nat) : Int) := Int.natCast_nonneg _
    have p3 : (((listL c).length - 1 : Nat) : Int) < ((listL c).length : Int) := by omega
    refine Ev.step (fun k => ?_) (last ((listL c)[(listL c).length - 1] + 1) (by omega) (by omega) hle)
    rw [polliwoglaw09_GapsLists.j1, if_neg (by decide), if_pos p1, hwl, if_pos p2, if_pos p3, hrl, hw1]
theorem lists_l0 (a0 a2 : Int) (few : List (S45)) (all inn : List Int) (hl : all.length ≤ 200) (he : Ev (fun k => (seq_Of.f a0).bind fun t685 => (span_Of.f k few).bind fun t686 => (gaps_List.f k t685 t686).bind fun t689 => (polliwogref09_Pairs.f k (wrap64 t685) inn).bind fun t692 => (polliwoglaw09_same.f k t689 t692).bind fun t695 => if t695 = true then ((gaps_Count.f t689).bind fun t696 => polliwoglaw09_GapsLists.j1 k a2 inn t685 t689 (t696 != (inn.length : Int))) else polliwoglaw09_GapsLists.j1 k a2 inn t685 t689 true) true) :
    ∀ (m i : Nat) (out : List Int), all.length - i = m → i ≤ all.length → out.length ≤ i → out ++ (all.drop i).filter (fun n => decide (0 ≤ n)) = inn → Ev (fun k => polliwoglaw09_GapsLists.l0 k a0 a2 few out all (all.length : Int) (i : Int)) true := by

  intro m
  induction m with
  | zero =>
    intro i out hm hi ho hf
    obtain rfl : i = all.length := by omega
    rw [List.drop_length, List.filter_nil, List.append_nil] at hf
    subst hf
    refine Ev.step (fun k => ?_) he
    rw [polliwoglaw09_GapsLists.l0, if_neg (Int.lt_irrefl _)]
  | succ m ih =>
    intro i out hm hi ho hf
    have hlt : i < all.length := by omega
    have hri := rdi_at all i hlt
    have hw := w1 (i := i) (by omega)
    have p1 : (i : Int) < (all.length : Int) := Int.ofNat_lt.2 hlt
    have p2 : (0 : Int) ≤ (i : Int) := Int.natCast_nonneg _
    have p3 : out.length < 17592186044416 := by omega
    rw [List.drop_eq_getElem_cons hlt, List.filter_cons] at hf
    by_cases hc : 0 ≤ all[i]
    · rw [if_pos (by simpa using hc)] at hf
      refine Ev.step (fun k => ?_) (ih (i + 1) (out ++ [all[i]]) (by omega) (by omega) (by simp; omega) (by rw [← hf]; simp))
      rw [polliwoglaw09_GapsLists.l0, if_pos p1, if_pos p2, if_pos p1, hri, if_pos hc, if_pos p3, hw]
    · rw [if_neg (by simpa using hc)] at hf
      refine Ev.step (fun k => ?_) (ih (i + 1) out (by omega) (by omega) (by omega) hf)
      rw [polliwoglaw09_GapsLists.l0, if_pos p1, if_pos p2, if_pos p1, hri, if_neg hc, hw]
theorem GapsLists (a0 : Int) (l1 : List (S45)) (a2 : Int) (_ : (Lit.int .i64 a0).wf = true) (_ : ∀ x ∈ l1, Args.good45 x) (_ : (Lit.int .i64 a2).wf = true) : ∃ k, polliwoglaw09_GapsLists.f k a0 l1 a2 = some true := by
  refine Ev.rounds (g := fun k => polliwoglaw09_GapsLists.f k a0 l1 a2) ?_
  unfold polliwoglaw09_GapsLists.f
  refine Ev.bind awake9_ev ?_
  simp only [if_true]
  refine Ev.bind (few_ev l1) ?_
  obtain ⟨n1, s1, m1, b1⟩ := set_few l1
  obtain ⟨r1, _⟩ := few_all l1
  have h0 := few_len l1
  have hl := near_len r1
  obtain ⟨cn, cs, cm, _⟩ := cutH_spec s1
  have hin : (allF [] (fewL l1)).filter (fun n => decide (0 ≤ n)) = listL (cutH (ofL (fewL l1))) := by
    refine rise_ext (List.Pairwise.filter _ r1.1) (rise_listL cn) (fun n => ?_)
    rw [List.mem_filter, decide_eq_true_iff, mem_listL, cm, ← m1]
    constructor
    · rintro ⟨a, b⟩
      have := r1.2 n a
      exact ⟨a, by omega⟩
    · rintro ⟨a, b⟩
      exact ⟨a, b.1⟩
  refine lists_l0 a0 a2 (fewL l1) (allF [] (fewL l1)) _ hl (lists_end a0 a2 (fewL l1) _ _ _ rfl rfl h0 s1 b1 rfl (fun n hn => ?_)) _ 0 [] rfl (Nat.zero_le _) (Nat.le_refl _) ?_
  · obtain ⟨a, b⟩ := (cm n).1 hn
    have := r1.2 n ((m1 n).2 a)
    omega
  · rw [List.drop_zero, List.nil_append]
    exact hin
end Go.Proofs.Ytihobchcmfamaaa.Pure
