/- GapsNamed: the plain law. -/
import Derived.Test.YtihobchcmfamaaaEvOf
import Derived.Test.YtihobchcmfamaaaArgs
import Derived.Test.YtihobchcmfamaaaS23
import Derived.Test.YtihobchcmfamaaaS27
import Derived.Test.YtihobchcmfamaaaS30
import Derived.Test.YtihobchcmfamaaaS33
import Derived.Test.YtihobchcmfamaaaS36
import Derived.Test.YtihobchcmfamaaaS37
namespace Go.Proofs.Ytihobchcmfamaaa.Pure
open Go.RowKit Go.Proofs.Ytihobchcmfamaaa.S Go.Proofs.YtihobchcmfamaaaW.PrintWords Go.Proofs.YtihobchcmfamaaaW.PrintMore Go.Proofs.Ytihobchcmfamaaa.SpanTh Go.Proofs.Ytihobchcmfamaaa.SpanEv Go.Proofs.Ytihobchcmfamaaa.Bits
theorem nums_l0 (l : List Int) (hl : l.length ≤ 20) (hr : ∀ x ∈ l, 0 ≤ x ∧ x < 16777216) : ∀ (m i : Nat) (out : List Int), l.length - i = m → i ≤ l.length → out.length ≤ i → Ev (fun k => polliwoglaw09_nums.l0 k out l (l.length : Int) (i : Int)) (out ++ l.drop i) := by
  intro m
  induction m with
  | zero =>
    intro i out hm hi ho
    obtain rfl : i = l.length := by omega
    refine Ev.step (f := fun _ => some out) (fun k => ?_) (by rw [List.drop_length, List.append_nil]; exact Ev.now _)
    rw [polliwoglaw09_nums.l0, if_neg (Int.lt_irrefl _)]
  | succ m ih =>
    intro i out hm hi ho
    have hlt : i < l.length := by omega
    have hri := rdi_at l i hlt
    have hw := w1 (i := i) (by omega)
    have hx := hr l[i] (List.getElem_mem hlt)
    have p1 : (i : Int) < (l.length : Int) := Int.ofNat_lt.2 hlt
    have p2 : (0 : Int) ≤ (i : Int) := Int.natCast_nonneg _
    have p3 : out.length < 35184372088832 := by omega
    have e : l[i] % 16777216 = l[i] := by omega
    rw [List.drop_eq_getElem_cons hlt, show out ++ l[i] :: l.drop (i + 1) = out ++ [l[i]] ++ l.drop (i + 1) by simp]
    refine Ev.step (fun k => ?_) (ih (i + 1) (out ++ [l[i]]) (by omega) (by omega) (by rw [List.length_append, List.length_singleton]; omega))
    rw [polliwoglaw09_nums.l0, if_pos p1, if_pos p2, if_pos p1, hri, seqof_eq, Option.bind_some, e, if_pos p3, hw]
theorem gsame_l0' (a : List Int) (hl : a.length < 1000000) (hr : ∀ n ∈ a, 0 ≤ n ∧ n < 16777216) : ∀ (m i : Nat), a.length - i = m → i ≤ a.length → Ev (fun k => polliwoglaw09_same.l0 k a a (a.length : Int) (i : Int)) true := by
  intro m
  induction m with
  | zero =>
    intro i hm hi
    obtain rfl : i = a.length := by omega
    refine Ev.step (f := fun _ => some true) (fun k => ?_) (Ev.now _)
    rw [polliwoglaw09_same.l0, if_neg (Int.lt_irrefl _)]
  | succ m ih =>
    intro i hm hi
    have hlt : i < a.length := by omega
    have hri := rdi_at a i hlt
    have hw := w1 (i := i) (by omega)
    have hx := hr a[i] (List.getElem_mem hlt)
    have hwx : wrap64 a[i] = a[i] := widG (by omega) (by omega)
    have p1 : (i : Int) < (a.length : Int) := Int.ofNat_lt.2 hlt
    have p2 : (0 : Int) ≤ (i : Int) := Int.natCast_nonneg _
    refine Ev.step (fun k => ?_) (ih (i + 1) (by omega) (by omega))
    rw [polliwoglaw09_same.l0, if_pos p1, if_pos p2, if_pos p1, if_pos p1, hri, hwx, if_pos rfl, hw]
/-- What the law asks of its own numbers. -/

abbrev nm (s : List Int) (a n : Int) : List Int := gaps_Named.nameL a n.toNat 0 s
abbrev cn (s : Int) (_ n : Int) : Int := wrap64 (s + n)
theorem nameL_len (a : Int) : ∀ (d : Nat) (i : Int) (s : List Int), (gaps_Named.nameL a d i s).length ≤ s.length + d
  | 0, i, s => Nat.le_refl _
  | d + 1, i, s => by
    rw [gaps_Named.nameL]
    split
    · refine Nat.le_trans (nameL_len a d (i + 1) _) ?_
      split
      · omega
      · rw [List.length_append, List.length_singleton]; omega
    · omega
theorem nameL_top (a : Int) : ∀ (d : Nat) (i : Int) (s : List Int), s.length ≤ 65536 → (gaps_Named.nameL a d i s).length ≤ 65536
  | 0, i, s, h => h
  | d + 1, i, s, h => by
    rw [gaps_Named.nameL]
    split
    · refine nameL_top a d (i + 1) _ ?_
      split
      · omega
      · rw [List.length_append, List.length_singleton]; omega
    · omega
theorem nameL_range (a : Int) : ∀ (d : Nat) (i : Int) (s : List Int), (∀ x ∈ s, 0 ≤ x ∧ x < 16777216) → ∀ x ∈ gaps_Named.nameL a d i s, 0 ≤ x ∧ x < 16777216
  | 0, i, s, h => h
  | d + 1, i, s, h => by
    rw [gaps_Named.nameL]
    split
    · refine nameL_range a d (i + 1) _ ?_
      split
      · exact h
      · intro x hx
        rcases List.mem_append.1 hx with hx | hx
        · exact h x hx
        · rw [List.mem_singleton] at hx; subst hx; omega
    · exact h
theorem tov_range (a b : Int) : 0 ≤ gaps_Count.tov a b ∧ gaps_Count.tov a b < 16777216 := by unfold gaps_Count.tov; omega
theorem named_le : ∀ (l : List Int) (s : List Int) (c : Int), (s.length : Int) ≤ c → c + 8388608 * l.length < 4611686018427387904 → ((gaps_Count.pairsL nm l s).length : Int) ≤ gaps_Count.pairsL cn l c
  | [], s, c, h, _ => by rw [gaps_Count.pairsL, gaps_Count.pairsL] <;> first | exact h | (intros; simp_all)
  | [a], s, c, h, _ => by rw [gaps_Count.pairsL, gaps_Count.pairsL] <;> first | exact h | (intros; simp_all)
  | a :: b :: l, s, c, h, hc => by
    rw [gaps_Count.pairsL, gaps_Count.pairsL]
    have ht := tov_range a b
    simp only [List.length_cons] at hc
    by_cases hp : gaps_Count.tov a b ≤ 8388608
    · rw [if_pos hp, if_pos hp]
      have hl := nameL_len (a % 16777216) (gaps_Count.tov a b).toNat 0 s
      have e : cn c (a % 16777216) (gaps_Count.tov a b) = c + gaps_Count.tov a b := widG (by omega) (by omega)
      rw [e]
      exact named_le l _ _ (by show ((gaps_Named.nameL (a % 16777216) (gaps_Count.tov a b).toNat 0 s).length : Int) ≤ _; omega) (by omega)
    · rw [if_neg hp, if_neg hp]
      exact named_le l _ _ h (by omega)
theorem named_range : ∀ (l : List Int) (s : List Int), (∀ x ∈ s, 0 ≤ x ∧ x < 16777216) → ∀ x ∈ gaps_Count.pairsL nm l s, 0 ≤ x ∧ x < 16777216
  | [], s, h => by rw [gaps_Count.pairsL] <;> first | exact h | (intros; simp_all)
  | [a], s, h => by rw [gaps_Count.pairsL] <;> first | exact h | (intros; simp_all)
  | a :: b :: l, s, h => by
    rw [gaps_Count.pairsL]
    split
    · exact named_range l _ (nameL_range _ _ _ _ h)
    · exact named_range l _ h
theorem named_top : ∀ (l : List Int) (s : List Int), s.length ≤ 65536 → (gaps_Count.pairsL nm l s).length ≤ 65536
  | [], s, h => by rw [gaps_Count.pairsL] <;> first | exact h | (intros; simp_all)
  | [a], s, h => by rw [gaps_Count.pairsL] <;> first | exact h | (intros; simp_all)
  | a :: b :: l, s, h => by
    rw [gaps_Count.pairsL]
    split
    · exact named_top l _ (nameL_top _ _ _ _ h)
    · exact named_top l _ h
/-- One turn of the document's search. -/
theorem ref_l2 (x0 : List Int) (x1 x6 x7 x8 y : Int) (v : List Int) (out : List Int) (hl : out.length ≤ 65536) : ∀ (m i : Nat) (b : Bool), out.length - i = m → i ≤ out.length →
    Ev (fun k => if (b || decide (y ∈ out.drop i)) = true then polliwogref09_Named.l1 k x0 x1 out x6 x7 (wrap64 (x8 + 1)) else polliwogref09_Named.l1 k x0 x1 (out ++ [y]) x6 x7 (wrap64 (x8 + 1))) v →
    Ev (fun k => polliwogref09_Named.l2 k x0 x1 out x6 x7 x8 y b (out.length : Int) (i : Int)) v := by
  intro m
  induction m with
  | zero =>
    intro i b hm hi h
    obtain rfl : i = out.length := by omega
    rw [List.drop_length] at h
    refine Ev.step (fun k => ?_) h
    rw [polliwogref09_Named.l2, if_neg (Int.lt_irrefl _), if_pos (show out.length < 17592186044416 by omega)]
    cases b <;> simp
  | succ m ih =>
    intro i b hm hi h
    have hlt : i < out.length := by omega
    have hri := rdi_at out i hlt
    have hw := w1 (i := i) (by omega)
    have p1 : (i : Int) < (out.length : Int) := Int.ofNat_lt.2 hlt
    have p2 : (0 : Int) ≤ (i : Int) := Int.natCast_nonneg _
    rw [List.drop_eq_getElem_cons hlt] at h
    cases b with
    | true =>
      refine Ev.step (fun k => ?_) (ih (i + 1) true (by omega) (by omega) (by simpa using h))
      rw [polliwogref09_Named.l2, if_pos p1, if_pos p2, if_pos p1, if_pos rfl, hw]
    | false =>
      have e : ((y == out[i]) || decide (y ∈ out.drop (i + 1))) = (false || decide (y ∈ out[i] :: out.drop (i + 1))) := by
        rw [Bool.eq_iff_iff, Bool.false_or, Bool.or_eq_true, beq_iff_eq, decide_eq_true_iff, decide_eq_true_iff, List.mem_cons]
      refine Ev.step (fun k => ?_) (ih (i + 1) (y == out[i]) (by omega) (by omega) (by rw [e]; exact h))
      rw [polliwogref09_Named.l2, if_pos p1, if_pos p2, if_pos p1, if_neg (by decide), hri, hw]
theorem ref_l1 (x0 : List Int) (i : Nat) (hi : i < x0.length) (hx : x0.length < 1000) (N : Nat) (hN : N ≤ 8388608) (v : List Int) : ∀ (d q : Nat) (out : List Int), N - q = d → q ≤ N → out.length ≤ 65536 →
    Ev (fun k => polliwogref09_Named.l0 k x0 65536 (gaps_Named.nameL (x0[i] % 16777216) d (q : Int) out) ((i + 2 : Nat) : Int)) v →
    Ev (fun k => polliwogref09_Named.l1 k x0 65536 out (i : Int) (N : Int) (q : Int)) v := by
  have hri := rdi_at x0 i hi
  have hw2 : wrap64 ((i : Int) + 2) = ((i + 2 : Nat) : Int) := widG (by omega) (by omega)
  have p1 : (i : Int) < (x0.length : Int) := Int.ofNat_lt.2 hi
  have p2 : (0 : Int) ≤ (i : Int) := Int.natCast_nonneg _
  intro d
  induction d with
  | zero =>
    intro q out hd hq ho h
    have hf : ¬ (q : Int) < (N : Int) := by omega
    refine Ev.step (f := fun k => polliwogref09_Named.j2 k x0 65536 out (i : Int) (N : Int) (q : Int) false) (fun k => ?_) (Ev.step (fun k => ?_) h)
    · rw [polliwogref09_Named.l1, if_neg hf]
    · rw [polliwogref09_Named.j2, if_neg (by decide), hw2]
      rfl
  | succ d ih =>
    intro q out hd hq ho h
    have hlt : (q : Int) < (N : Int) := by omega
    have a1 : N - (q + 1) = d := by omega
    have a2 : q + 1 ≤ N := by omega
    have e2 : wrap64 (x0[i] % 16777216 + (q : Int)) = x0[i] % 16777216 + (q : Int) := widG (by omega) (by omega)
    have e3 : wrap64 ((q : Int) + 1) = ((q + 1 : Nat) : Int) := widG (by omega) (by omega)
    have a3 : ∀ y : Int, out.length < 65536 → (out ++ [y]).length ≤ 65536 := fun y hy => by rw [List.length_append, List.length_singleton]; omega
    rw [gaps_Named.nameL, show (q : Int) + 1 = ((q + 1 : Nat) : Int) by omega] at h
    by_cases hs : out.length < 65536
    · rw [if_pos hs] at h
      have e1 : decide ((out.length : Int) < 65536) = true := decide_eq_true (by omega)
      refine Ev.step (f := fun k => polliwogref09_Named.j2 k x0 65536 out (i : Int) (N : Int) (q : Int) true) (fun k => ?_) ?_
      · rw [polliwogref09_Named.l1, if_pos hlt, e1]
      · refine Ev.step (f := fun k => polliwogref09_Named.l2 k x0 65536 out (i : Int) (N : Int) (q : Int) ((x0[i] % 16777216 + (q : Int)) % 16777216) false (out.length : Int) ((0 : Nat) : Int)) (fun k => ?_) ?_
        · rw [polliwogref09_Named.j2, if_pos rfl, if_pos p2, if_pos p1, hri, of1_eq, Option.bind_some, e2, of1_eq, Option.bind_some]
          rfl
        · refine ref_l2 x0 65536 (i : Int) (N : Int) (q : Int) _ v out ho out.length 0 false rfl (Nat.zero_le _) ?_
          rw [List.drop_zero, Bool.false_or, e3]
          by_cases hm : (x0[i] % 16777216 + (q : Int)) % 16777216 ∈ out
          · rw [if_pos hm] at h
            simp only [decide_eq_true hm, if_true]
            exact ih (q + 1) out a1 a2 ho h
          · rw [if_neg hm] at h
            simp only [decide_eq_false hm, Bool.false_eq_true, if_false]
            exact ih (q + 1) (out ++ [_]) a1 a2 (a3 _ hs) h
    · rw [if_neg hs] at h
      have e1 : decide ((out.length : Int) < 65536) = false := decide_eq_false (by omega)
      refine Ev.step (f := fun k => polliwogref09_Named.j2 k x0 65536 out (i : Int) (N : Int) (q : Int) false) (fun k => ?_) (Ev.step (fun k => ?_) h)
      · rw [polliwogref09_Named.l1, if_pos hlt, e1]
      · rw [polliwogref09_Named.j2, if_neg (by decide), hw2]
theorem ref_l0 (x0 : List Int) (hx : x0.length < 1000) : ∀ (m i : Nat) (out : List Int), x0.length - i ≤ m → i ≤ x0.length + 1 → out.length ≤ 65536 →
    Ev (fun k => polliwogref09_Named.l0 k x0 65536 out (i : Int)) (gaps_Count.pairsL nm (x0.drop i) out) := by
  intro m
  induction m with
  | zero =>
    intro i out hm hi ho
    rw [gaps_Count.drop1 _ _ _ _ (by omega)]
    refine Ev.step (f := fun _ => some out) (fun k => ?_) (Ev.now _)
    have e1 : wrap64 ((i : Int) + 1) = (i : Int) + 1 := widG (by omega) (by omega)
    rw [polliwogref09_Named.l0, e1, if_neg (by omega)]
  | succ m ih =>
    intro i out hm hi ho
    have e1 : wrap64 ((i : Int) + 1) = (i : Int) + 1 := widG (by omega) (by omega)
    by_cases hlt : i + 1 < x0.length
    · have hri := rdi_at x0 i (by omega)
      have p0 : (i : Int) + 1 < (x0.length : Int) := by omega
      have p1 : (i : Int) < (x0.length : Int) := by omega
      have p2 : (0 : Int) ≤ (i : Int) := Int.natCast_nonneg _
      have p3 : (0 : Int) ≤ (i : Int) + 1 := by omega
      have hw2 : wrap64 ((i : Int) + 2) = ((i + 2 : Nat) : Int) := widG (by omega) (by omega)
      obtain ⟨b, hb⟩ : ∃ b, rd x0 ((i : Int) + 1) = b := ⟨_, rfl⟩
      rw [gaps_Count.drop2 x0 i hlt, gaps_Count.pairsL, hri, hb]
      have ht := tov_range x0[i] b
      by_cases hp : gaps_Count.tov x0[i] b ≤ 8388608
      · rw [if_pos hp]
        obtain ⟨N, hN⟩ := Int.eq_ofNat_of_zero_le ht.1
        have hN' : (b - x0[i]) % 16777216 = (N : Int) := hN
        have q : ¬ ((b - x0[i]) % 16777216 > 8388608) := by rw [hN']; rw [hN] at hp; omega
        refine Ev.step (f := fun k => polliwogref09_Named.l1 k x0 65536 out (i : Int) (N : Int) ((0 : Nat) : Int)) (fun k => ?_) (ref_l1 x0 i (by omega) hx N (by omega) _ N 0 out rfl (Nat.zero_le _) ho ?_)
        · rw [polliwogref09_Named.l0, e1, if_pos p0, if_pos p2, if_pos p1, if_pos p3, hri, hb, to1_eq, Option.bind_some, if_neg q, hN']
          rfl
        · rw [hN]
          exact ih (i + 2) _ (by omega) (by omega) (nameL_top _ _ _ _ ho)
      · rw [if_neg hp]
        have q : (b - x0[i]) % 16777216 > 8388608 := Int.not_le.1 hp
        refine Ev.step (fun k => ?_) (ih (i + 2) out (by omega) (by omega) ho)
        rw [polliwogref09_Named.l0, e1, if_pos p0, if_pos p2, if_pos p1, if_pos p3, hri, hb, to1_eq, Option.bind_some, if_pos q, hw2]
    · rw [gaps_Count.drop1 _ _ _ _ (by omega)]
      refine Ev.step (f := fun _ => some out) (fun k => ?_) (Ev.now _)
      rw [polliwogref09_Named.l0, e1, if_neg (by omega)]
theorem named_end (a0 : Int) (own : List Int) (hl : own.length ≤ 20) (hr : ∀ x ∈ own, 0 ≤ x ∧ x < 16777216) :
    Ev (fun k => (polliwoglaw09_nums.f k own).bind fun t588 => ((gaps_Named.f a0 0 0 0 0 t588 false (⟨#[]⟩ : ByteArray)).bind fun t592 => (if a0 = 11 then ((polliwogref09_Named.f k own 65536).bind fun t595 => ((polliwoglaw09_same.f k t592 t595).bind fun t598 => (if t598 = true then ((gaps_Count.f t588).bind fun t599 => (some (decide (t599 ≥ (t592.length : Int))))) else (none)))) else (if a0 = 12 then ((polliwogref09_Named.f k own 65536).bind fun t600 => ((polliwoglaw09_same.f k t592 t600).bind fun t603 => (if t603 = true then ((gaps_Count.f t588).bind fun t604 => (some (decide (t604 ≥ (t592.length : Int))))) else (none)))) else (some ((t592.length : Int) == 0)))))) true := by
  have hn : Ev (fun k => polliwoglaw09_nums.f k own) own := by
    unfold polliwoglaw09_nums.f
    have := nums_l0 own hl hr own.length 0 [] rfl (Nat.zero_le _) (Nat.le_refl _)
    rwa [List.drop_zero, List.nil_append] at this
  refine Ev.bind hn ?_
  obtain ⟨L, hL⟩ : ∃ L, gaps_Count.pairsL nm own [] = L := ⟨_, rfl⟩
  have hLr : ∀ x ∈ L, 0 ≤ x ∧ x < 16777216 := by rw [← hL]; exact named_range own [] (fun _ h => by cases h)
  have hc := named_le own [] 0 (Int.le_refl _) (by omega)
  rw [hL] at hc
  have hcf : gaps_Count.f own = some (gaps_Count.pairsL cn own 0) := by
    unfold gaps_Count.f
    rw [if_pos (by omega)]
  have hrf : Ev (fun k => polliwogref09_Named.f k own 65536) L := by
    unfold polliwogref09_Named.f
    have := ref_l0 own (by omega) own.length 0 [] (by omega) (by omega) (by decide)
    rw [List.drop_zero, hL] at this
    exact this
  have hLl : L.length ≤ 65536 := by
    rw [← hL]
    exact named_top own [] (by decide)
  have hs : Ev (fun k => polliwoglaw09_same.f k L L) true := by
    unfold polliwoglaw09_same.f
    simp only [if_true]
    exact gsame_l0' L (by omega) hLr L.length 0 rfl (Nat.zero_le _)
  have fin : Ev (fun k => (polliwogref09_Named.f k own 65536).bind fun t595 => ((polliwoglaw09_same.f k L t595).bind fun t598 => (if t598 = true then ((gaps_Count.f own).bind fun t599 => (some (decide (t599 ≥ (L.length : Int))))) else (none)))) true := by
    refine Ev.bind hrf (Ev.bind hs ?_)
    simp only [if_true, hcf, Option.bind_some]
    rw [decide_eq_true hc]
    exact Ev.now _
  unfold gaps_Named.f
  by_cases h1 : a0 = 11
  · have e : (a0 = 11 ∨ a0 = 12) = True := by simp [h1]
    have hq : own.length < 1073741824 := by omega
    simp only [e, if_true, if_pos hq, Option.bind_some, hL, if_pos h1]
    exact fin
  · by_cases h2 : a0 = 12
    · have e : (a0 = 11 ∨ a0 = 12) = True := by simp [h2]
      have hq : own.length < 1073741824 := by omega
      simp only [e, if_true, if_pos hq, Option.bind_some, hL, if_neg h1, if_pos h2]
      exact fin
    · have e : (a0 = 11 ∨ a0 = 12) = False := by simp [h1, h2]
      simp only [e, if_false, Option.bind_some, if_neg h1, if_neg h2]
      exact Ev.now _
theorem named_l0 (a0 : Int) (l : List Int) (hl : l.length ≤ 20) : ∀ (m i : Nat) (own : List Int), l.length - i = m → i ≤ l.length → own.length = i → (∀ x ∈ own, 0 ≤ x ∧ x < 16777216) →
    Ev (fun k => polliwoglaw09_GapsNamed.l0 k a0 own l (l.length : Int) (i : Int)) true := by
  intro m
  induction m with
  | zero =>
    intro i own hm hi ho hr
    obtain rfl : i = l.length := by omega
    refine Ev.step (fun k => ?_) (named_end a0 own (by omega) hr)
    rw [polliwoglaw09_GapsNamed.l0, if_neg (Int.lt_irrefl _)]
  | succ m ih =>
    intro i own hm hi ho hr
    have hlt : i < l.length := by omega
    have hri := rdi_at l i hlt
    have hw := w1 (i := i) (by omega)
    have p1 : (i : Int) < (l.length : Int) := Int.ofNat_lt.2 hlt
    have p2 : (0 : Int) ≤ (i : Int) := Int.natCast_nonneg _
    have p3 : own.length < 17592186044416 := by omega
    have next : ∀ x : Int, Ev (fun k => polliwoglaw09_GapsNamed.l0 k a0 (own ++ [x % 16777216]) l (l.length : Int) ((i + 1 : Nat) : Int)) true := fun x => by
      refine ih (i + 1) _ (by omega) (by omega) (by rw [List.length_append, List.length_singleton, ho]) (fun y hy => ?_)
      rcases List.mem_append.1 hy with hy | hy
      · exact hr y hy
      · rw [List.mem_singleton] at hy
        subst hy
        omega
    by_cases hodd : Int.tmod (i : Int) 2 = 1
    · have hi1 : 1 ≤ i := by
        rcases Nat.eq_zero_or_pos i with h | h
        · subst h; simp at hodd
        · exact h
      have e1 : wrap64 ((i : Int) - 1) = (i : Int) - 1 := widG (by omega) (by omega)
      have p4 : (0 : Int) ≤ (i : Int) - 1 := by omega
      have p5 : (i : Int) - 1 < (own.length : Int) := by omega
      refine Ev.step (fun k => ?_) (next (wrap64 (rd own ((i : Int) - 1) + Go.bits .and .i64 (l[i] % 16777216) 63)))
      rw [polliwoglaw09_GapsNamed.l0, if_pos p1, if_pos p2, if_pos p1, hri, of1_eq, Option.bind_some, if_pos hodd, e1, if_pos p4, if_pos p5, of1_eq, Option.bind_some, if_pos p3, hw]
    · refine Ev.step (fun k => ?_) (next l[i])
      rw [polliwoglaw09_GapsNamed.l0, if_pos p1, if_pos p2, if_pos p1, hri, of1_eq, Option.bind_some, if_neg hodd, if_pos p3, hw]
theorem GapsNamed (a0 : Int) (l1 : List Int) (_ : (Lit.int .i64 a0).wf = true) (_ : ∀ x ∈ l1, (Lit.int .i64 x).wf = true) : ∃ k, polliwoglaw09_GapsNamed.f k a0 (l1.take 20) = some true := by
  refine Ev.rounds (g := fun k => polliwoglaw09_GapsNamed.f k a0 (l1.take 20)) ?_
  unfold polliwoglaw09_GapsNamed.f
  refine Ev.bind awake9_ev ?_
  simp only [if_true]
  exact named_l0 a0 (l1.take 20) (by rw [List.length_take]; omega) _ 0 [] rfl (Nat.zero_le _) rfl (fun x hx => by cases hx)
end Go.Proofs.Ytihobchcmfamaaa.Pure
