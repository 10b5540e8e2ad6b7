/- GapsSets: the plain law. -/
import Derived.Test.YtihobchcmfamaaaEvOf
import Derived.Test.YtihobchcmfamaaaArgs
import Derived.Test.YtihobchcmfamaaaS0
import Derived.Test.YtihobchcmfamaaaS4
import Derived.Test.YtihobchcmfamaaaS7
import Derived.Test.YtihobchcmfamaaaS16
import Derived.Test.YtihobchcmfamaaaS17
import Derived.Test.YtihobchcmfamaaaS28
import Derived.Test.YtihobchcmfamaaaS30
import Derived.Test.YtihobchcmfamaaaS34
import Derived.Test.YtihobchcmfamaaaS39
import Derived.Test.YtihobchcmfamaaaS40
namespace Go.Proofs.Ytihobchcmfamaaa.Pure
open Go.RowKit Go.Proofs.Ytihobchcmfamaaa.S Go.Proofs.YtihobchcmfamaaaW.PrintWords Go.Proofs.YtihobchcmfamaaaW.PrintMore Go.Proofs.Ytihobchcmfamaaa.SpanTh Go.Proofs.Ytihobchcmfamaaa.SpanEv Go.Proofs.Ytihobchcmfamaaa.Bits
/-- What both make of distances from a base: spans, or none. -/
def scan (E : Int) : Int → Bool → List (S45) → List Int → Option (List (S45))
  | _, _, acc, [] => some acc
  | last, odd, acc, d :: ds => if d ≤ last ∨ d > E then none else scan E d (!odd) (if odd then acc ++ [⟨last, d⟩] else acc) ds
def gres (x : Option (List (S45))) : List (S45) × Bool := match x with | none => ([], false) | some o => (ofL o, true)
def rres (x : Option (List (S45))) : List Int × Bool := match x with | none => ([], false) | some o => (listL o, true)
theorem endsL_snoc (a : List (S45)) (x : S45) : endsL (a ++ [x]) = endsL a ++ [x.f0, x.f1] := by
  unfold endsL
  rw [List.flatMap_append]
  rfl
theorem listL_snoc (a : List (S45)) (x : S45) : listL (a ++ [x]) = listL a ++ runS x := by
  unfold listL
  rw [List.flatMap_append]
  simp
theorem scan_spec (E : Int) (hE : E ≤ 8388608) : ∀ (ds : List Int) (last : Int) (odd : Bool) (acc o : List (S45)), (∀ d ∈ ds, 0 ≤ d ∧ (d ≤ 300 ∨ d > 8388608)) → Norm acc → (∀ x ∈ acc, 0 ≤ x.f0 ∧ x.f1 ≤ 300) → (odd = true → 0 ≤ last ∧ last ≤ 300 ∧ ∀ x ∈ acc, x.f1 < last) → (odd = false → ∀ x ∈ acc, x.f1 ≤ last) → (ds.length + (if odd then 1 else 0)) % 2 = 0 →
    scan E last odd acc ds = some o → Norm o ∧ (∀ x ∈ o, 0 ≤ x.f0 ∧ x.f1 ≤ 300) ∧ endsL o = endsL acc ++ (if odd then [last] else []) ++ ds := by
  intro ds
  induction ds with
  | nil =>
    intro last odd acc o _ hn hb ho he hp h
    cases odd with
    | true => simp at hp
    | false =>
      simp only [scan, Option.some.injEq] at h
      subst h
      exact ⟨hn, hb, by simp⟩
  | cons d ds ih =>
    intro last odd acc o hd hn hb ho he hp h
    rw [scan] at h
    by_cases hc : d ≤ last ∨ d > E
    · rw [if_pos hc] at h
      cases h
    · rw [if_neg hc] at h
      have hd0 := hd d List.mem_cons_self
      have hds : ∀ d ∈ ds, 0 ≤ d ∧ (d ≤ 300 ∨ d > 8388608) := fun x hx => hd x (List.mem_cons_of_mem _ hx)
      cases odd with
      | true =>
        obtain ⟨l0, l1, l2⟩ := ho rfl
        simp only [if_true, Bool.not_true] at h
        obtain ⟨a, b, c⟩ := ih d false (acc ++ [⟨last, d⟩]) o hds (norm_snoc.2 ⟨hn, by simp only; omega, l2⟩) (fun x hx => by
          rcases List.mem_append.1 hx with hx | hx
          · exact hb x hx
          · rw [List.mem_singleton] at hx
            subst hx
            simp only
            omega) (fun h => by cases h) (fun _ x hx => by
          rcases List.mem_append.1 hx with hx | hx
          · have := l2 x hx; omega
          · rw [List.mem_singleton] at hx
            subst hx
            exact Int.le_refl _) (by simp only [List.length_cons, if_true] at hp; simp only [Bool.false_eq_true, if_false]; omega) h
        refine ⟨a, b, ?_⟩
        rw [c, endsL_snoc]
        simp
      | false =>
        simp only [Bool.false_eq_true, if_false, Bool.not_false] at h
        have l2 := he rfl
        obtain ⟨a, b, c⟩ := ih d true acc o hds hn hb (fun _ => ⟨by omega, by omega, fun x hx => by have := l2 x hx; omega⟩) (fun h => by cases h) (by simp only [List.length_cons, Bool.false_eq_true, if_false] at hp; simp only [if_true]; omega) h
        refine ⟨a, b, ?_⟩
        rw [c]
        simp
theorem odd_i (i : Nat) : (Int.tmod (i : Int) 2 = 1) ↔ decide (i % 2 = 1) = true := by
  rw [Int.tmod_eq_emod_of_nonneg (Int.natCast_nonneg _), decide_eq_true_iff]
  omega
theorem odd_next (i : Nat) : decide ((i + 1) % 2 = 1) = !decide (i % 2 = 1) := by
  by_cases h : i % 2 = 1
  · rw [decide_eq_true h, decide_eq_false (by omega)]; rfl
  · rw [decide_eq_false h, decide_eq_true (by omega)]; rfl
def dist (b x : Int) : Int := (x - b) % 16777216
theorem gset_l0 (b E : Int) (l : List Int) (hl : l.length ≤ 20) : ∀ (m i : Nat) (last : Int) (out : List (S45)), l.length - i = m → i ≤ l.length → out.length ≤ i →
    Ev (fun k => gaps_Set.l0 k b E last out l (l.length : Int) (i : Int)) (gres (scan E last (decide (i % 2 = 1)) out ((l.drop i).map (dist b)))) := by
  intro m
  induction m with
  | zero =>
    intro i last out hm hi ho
    obtain rfl : i = l.length := by omega
    rw [List.drop_length, List.map_nil, scan]
    refine Ev.step (f := fun k => (span_Of.f k out).bind fun t => some (t, true)) (fun k => ?_) (Ev.bind (of_ev out (by omega)) (Ev.now _))
    rw [gaps_Set.l0, if_neg (Int.lt_irrefl _)]
  | succ m ih =>
    intro i last out hm hi ho
    have hlt : i < l.length := by omega
    have hri := rdi_at l i hlt
    have hw := w1 (i := i) (by omega)
    have p1 : (i : Int) < (l.length : Int) := Int.ofNat_lt.2 hlt
    have p2 : (0 : Int) ≤ (i : Int) := Int.natCast_nonneg _
    have p4 : out.length < 8796093022208 := by omega
    rw [List.drop_eq_getElem_cons hlt, List.map_cons, scan]
    have he : (l[i] - b) % 16777216 = dist b l[i] := rfl
    have fail : Ev (fun k => gaps_Set.j2 k b E last out (i : Int) (dist b l[i]) l (l.length : Int) (i : Int) true) ([], false) := Ev.step (fun k => by rw [gaps_Set.j2, if_pos rfl]) (Ev.now _)
    by_cases h1 : dist b l[i] ≤ last
    · rw [if_pos (Or.inl h1)]
      refine Ev.step (fun k => ?_) fail
      rw [gaps_Set.l0, if_pos p1, if_pos p2, if_pos p1, hri, to_eq, Option.bind_some, he, if_pos h1]
    · by_cases h2 : dist b l[i] > E
      · rw [if_pos (Or.inr h2)]
        refine Ev.step (fun k => ?_) fail
        rw [gaps_Set.l0, if_pos p1, if_pos p2, if_pos p1, hri, to_eq, Option.bind_some, he, if_neg h1, decide_eq_true h2]
      · rw [if_neg (by rintro (h | h) <;> contradiction)]
        refine Ev.step (f := fun k => gaps_Set.j2 k b E last out (i : Int) (dist b l[i]) l (l.length : Int) (i : Int) false) (fun k => ?_) ?_
        · rw [gaps_Set.l0, if_pos p1, if_pos p2, if_pos p1, hri, to_eq, Option.bind_some, he, if_neg h1, decide_eq_false h2]
        · have hn := ih (i + 1) (dist b l[i]) (if decide (i % 2 = 1) = true then out ++ [⟨last, dist b l[i]⟩] else out) (by omega) (by omega) (by
            by_cases hq : decide (i % 2 = 1) = true
            · rw [if_pos hq, List.length_append, List.length_singleton]; omega
            · rw [if_neg hq]; omega)
          rw [odd_next] at hn
          refine Ev.step (fun k => ?_) hn
          rw [gaps_Set.j2, if_neg (by decide)]
          by_cases hp : decide (i % 2 = 1) = true
          · rw [if_pos ((odd_i i).2 hp), if_pos p4, if_pos hp, hw]
          · rw [if_neg (fun h => hp ((odd_i i).1 h)), if_neg hp, hw]
theorem rset_l1 (b E at_ : Int) (l : List Int) (i : Nat) (v : List Int × Bool) (hi : i < 1000) (ha : at_ ≤ 16777216) (hodd : Int.tmod (i : Int) 2 = 1) : ∀ (m : Nat) (n : Int) (out : List Int), (at_ - n).toNat = m → -1 ≤ n → out.length + m < 1000000000 →
    Ev (fun k => polliwogref09_Set.l0 k b E (out ++ run n m) at_ l (l.length : Int) ((i + 1 : Nat) : Int)) v → Ev (fun k => polliwogref09_Set.l1 k b E out (i : Int) at_ n l (l.length : Int) (i : Int)) v := by
  have hw := w1 (i := i) (by omega)
  intro m
  induction m with
  | zero =>
    intro n out hm hn hb he
    refine Ev.step (fun k => ?_) he
    rw [polliwogref09_Set.l1, if_pos hodd, if_neg (by omega), run, List.append_nil, hw]
  | succ m ih =>
    intro n out hm hn hb he
    have hwn : wrap64 (n + 1) = n + 1 := widG (by omega) (by omega)
    have p1 : out.length < 17592186044416 := by omega
    refine Ev.step (fun k => ?_) (ih (n + 1) (out ++ [n]) (by omega) (by omega) (by simp; omega) (by rw [List.append_assoc]; exact he))
    rw [polliwogref09_Set.l1, if_pos hodd, if_pos (by omega), if_pos p1, hwn]
theorem rset_l0 (b E : Int) (l : List Int) (hl : l.length ≤ 20) : ∀ (m i : Nat) (last : Int) (out : List (S45)), l.length - i = m → i ≤ l.length → -1 ≤ last → (listL out).length ≤ 16777217 * i →
    Ev (fun k => polliwogref09_Set.l0 k b E (listL out) last l (l.length : Int) (i : Int)) (rres (scan E last (decide (i % 2 = 1)) out ((l.drop i).map (dist b)))) := by
  intro m
  induction m with
  | zero =>
    intro i last out hm hi hla ho
    obtain rfl : i = l.length := by omega
    rw [List.drop_length, List.map_nil, scan]
    refine Ev.step (f := fun k => some (listL out, true)) (fun k => ?_) (Ev.now _)
    rw [polliwogref09_Set.l0, if_neg (Int.lt_irrefl _)]
  | succ m ih =>
    intro i last out hm hi hla ho
    have hlt : i < l.length := by omega
    have hri := rdi_at l i hlt
    have hw := w1 (i := i) (by omega)
    have p1 : (i : Int) < (l.length : Int) := Int.ofNat_lt.2 hlt
    have p2 : (0 : Int) ≤ (i : Int) := Int.natCast_nonneg _
    rw [List.drop_eq_getElem_cons hlt, List.map_cons, scan]
    have he : (l[i] - b) % 16777216 = dist b l[i] := rfl
    have hdr : 0 ≤ dist b l[i] ∧ dist b l[i] < 16777216 := by unfold dist; omega
    have fail : Ev (fun k => polliwogref09_Set.j2 k b E (listL out) last (i : Int) (dist b l[i]) l (l.length : Int) (i : Int) true) ([], false) := Ev.step (fun k => by rw [polliwogref09_Set.j2, if_pos rfl]) (Ev.now _)
    by_cases h1 : dist b l[i] ≤ last
    · rw [if_pos (Or.inl h1)]
      refine Ev.step (fun k => ?_) fail
      rw [polliwogref09_Set.l0, if_pos p1, if_pos p2, if_pos p1, hri, to1_eq, Option.bind_some, he, if_pos h1]
    · by_cases h2 : dist b l[i] > E
      · rw [if_pos (Or.inr h2)]
        refine Ev.step (fun k => ?_) fail
        rw [polliwogref09_Set.l0, if_pos p1, if_pos p2, if_pos p1, hri, to1_eq, Option.bind_some, he, if_neg h1, decide_eq_true h2]
      · rw [if_neg (by rintro (h | h) <;> contradiction)]
        refine Ev.step (f := fun k => polliwogref09_Set.j2 k b E (listL out) last (i : Int) (dist b l[i]) l (l.length : Int) (i : Int) false) (fun k => ?_) (Ev.step (f := fun k => polliwogref09_Set.l1 k b E (listL out) (i : Int) (dist b l[i]) last l (l.length : Int) (i : Int)) (fun k => ?_) ?_)
        · rw [polliwogref09_Set.l0, if_pos p1, if_pos p2, if_pos p1, hri, to1_eq, Option.bind_some, he, if_neg h1, decide_eq_false h2]
        · rw [polliwogref09_Set.j2, if_neg (by decide)]
        · have e1 : listL (out ++ [⟨last, dist b l[i]⟩]) = listL out ++ run last (dist b l[i] - last).toNat := listL_snoc _ _
          have hll : (listL out ++ run last (dist b l[i] - last).toNat).length = (listL out).length + (dist b l[i] - last).toNat := by rw [List.length_append, len_run]
          have hn := ih (i + 1) (dist b l[i]) (if decide (i % 2 = 1) = true then out ++ [⟨last, dist b l[i]⟩] else out) (by omega) (by omega) (by omega) (by
            by_cases hq : decide (i % 2 = 1) = true
            · rw [if_pos hq, e1, hll]; omega
            · rw [if_neg hq]; omega)
          rw [odd_next] at hn
          by_cases hp : decide (i % 2 = 1) = true
          · have ho2 := (odd_i i).2 hp
            rw [if_pos hp, e1] at hn
            rw [if_pos hp]
            exact rset_l1 b E (dist b l[i]) l i _ (by omega) (by omega) ho2 _ last (listL out) rfl hla (by omega) hn
          · have ho2 : ¬ Int.tmod (i : Int) 2 = 1 := fun h => hp ((odd_i i).1 h)
            rw [if_neg hp] at hn
            rw [if_neg hp]
            refine Ev.step (fun k => ?_) hn
            rw [polliwogref09_Set.l1, if_neg ho2, hw]
def scan0 (b t : Int) (l : List Int) : Option (List (S45)) := if (l.length : Int) % 2 = 0 ∧ dist b t ≤ 8388608 then scan (dist b t) (-1) false [] (l.map (dist b)) else none
theorem gset0_ev (b t : Int) (l : List Int) (hl : l.length ≤ 20) : Ev (fun k => gaps_Set.f k b t l) (gres (scan0 b t l)) := by
  unfold gaps_Set.f scan0
  rw [to_eq, show (t - b) % 16777216 = dist b t from rfl]
  simp only [Option.bind_some]
  have fail : Ev (fun k => gaps_Set.j0 k b l (dist b t) true) ([], false) := Ev.step (fun k => by rw [gaps_Set.j0, if_pos rfl]) (Ev.now _)
  by_cases h1 : (l.length : Int) % 2 = 0
  · by_cases h2 : dist b t ≤ 8388608
    · rw [if_pos ⟨h1, h2⟩]
      have hd : decide (dist b t > 8388608) = false := by rw [decide_eq_false_iff_not]; omega
      simp only [if_pos h1, hd]
      have := gset_l0 b (dist b t) l hl l.length 0 (-1) [] rfl (Nat.zero_le _) (Nat.le_refl _)
      rw [List.drop_zero] at this
      refine Ev.step (fun k => ?_) this
      rw [gaps_Set.j0, if_neg (by decide)]
      rfl
    · rw [if_neg (fun h => h2 h.2)]
      have hd : decide (dist b t > 8388608) = true := by rw [decide_eq_true_iff]; omega
      simp only [if_pos h1, hd]
      exact fail
  · rw [if_neg (fun h => h1 h.1)]
    simp only [if_neg h1]
    exact fail
theorem rset0_ev (b t : Int) (l : List Int) (hl : l.length ≤ 20) : Ev (fun k => polliwogref09_Set.f k b t l) (rres (scan0 b t l)) := by
  unfold polliwogref09_Set.f scan0
  rw [to1_eq, show (t - b) % 16777216 = dist b t from rfl]
  simp only [Option.bind_some]
  have fail : Ev (fun k => polliwogref09_Set.j0 k b l (dist b t) true) ([], false) := Ev.step (fun k => by rw [polliwogref09_Set.j0, if_pos rfl]) (Ev.now _)
  by_cases h1 : (l.length : Int) % 2 = 0
  · have h1' : ¬ (l.length : Int) % 2 = 1 := by omega
    by_cases h2 : dist b t ≤ 8388608
    · rw [if_pos ⟨h1, h2⟩]
      have hd : decide (dist b t > 8388608) = false := by rw [decide_eq_false_iff_not]; omega
      simp only [if_neg h1', hd]
      have := rset_l0 b (dist b t) l hl l.length 0 (-1) [] rfl (Nat.zero_le _) (Int.le_refl _) (Nat.zero_le _)
      rw [List.drop_zero] at this
      refine Ev.step (fun k => ?_) this
      rw [polliwogref09_Set.j0, if_neg (by decide)]
      rfl
    · rw [if_neg (fun h => h2 h.2)]
      have hd : decide (dist b t > 8388608) = true := by rw [decide_eq_true_iff]; omega
      simp only [if_neg h1', hd]
      exact fail
  · have h1' : (l.length : Int) % 2 = 1 := by omega
    rw [if_neg (fun h => h1 h.1)]
    simp only [if_pos h1']
    exact fail
theorem nums_l0 (l : List Int) (hl : l.length ≤ 20) (hr : ∀ x ∈ l, 0 ≤ x ∧ x < 16777216) : ∀ (m i : Nat) (out : List Int), l.length - i = m → i ≤ l.length → out.length ≤ i → Ev (fun k => polliwoglaw09_nums.l0 k out l (l.length : Int) (i : Int)) (out ++ l.drop i) := by
  intro m
  induction m with
  | zero =>
    intro i out hm hi ho
    obtain rfl : i = l.length := by omega
    refine Ev.step (f := fun _ => some out) (fun k => ?_) (by rw [List.drop_length, List.append_nil]; exact Ev.now _)
    rw [polliwoglaw09_nums.l0, if_neg (Int.lt_irrefl _)]
  | succ m ih =>
    intro i out hm hi ho
    have hlt : i < l.length := by omega
    have hri := rdi_at l i hlt
    have hw := w1 (i := i) (by omega)
    have hx := hr l[i] (List.getElem_mem hlt)
    have p1 : (i : Int) < (l.length : Int) := Int.ofNat_lt.2 hlt
    have p2 : (0 : Int) ≤ (i : Int) := Int.natCast_nonneg _
    have p3 : out.length < 35184372088832 := by omega
    have e : l[i] % 16777216 = l[i] := by omega
    rw [List.drop_eq_getElem_cons hlt, show out ++ l[i] :: l.drop (i + 1) = out ++ [l[i]] ++ l.drop (i + 1) by simp]
    refine Ev.step (fun k => ?_) (ih (i + 1) (out ++ [l[i]]) (by omega) (by omega) (by rw [List.length_append, List.length_singleton]; omega))
    rw [polliwoglaw09_nums.l0, if_pos p1, if_pos p2, if_pos p1, hri, seqof_eq, Option.bind_some, e, if_pos p3, hw]
theorem gsame_l0' (a : List Int) (hl : a.length < 1000000) (hr : ∀ n ∈ a, 0 ≤ n ∧ n < 16777216) : ∀ (m i : Nat), a.length - i = m → i ≤ a.length → Ev (fun k => polliwoglaw09_same.l0 k a a (a.length : Int) (i : Int)) true := by
  intro m
  induction m with
  | zero =>
    intro i hm hi
    obtain rfl : i = a.length := by omega
    refine Ev.step (f := fun _ => some true) (fun k => ?_) (Ev.now _)
    rw [polliwoglaw09_same.l0, if_neg (Int.lt_irrefl _)]
  | succ m ih =>
    intro i hm hi
    have hlt : i < a.length := by omega
    have hri := rdi_at a i hlt
    have hw := w1 (i := i) (by omega)
    have hx := hr a[i] (List.getElem_mem hlt)
    have hwx : wrap64 a[i] = a[i] := widG (by omega) (by omega)
    have p1 : (i : Int) < (a.length : Int) := Int.ofNat_lt.2 hlt
    have p2 : (0 : Int) ≤ (i : Int) := Int.natCast_nonneg _
    refine Ev.step (fun k => ?_) (ih (i + 1) (by omega) (by omega))
    rw [polliwoglaw09_same.l0, if_pos p1, if_pos p2, if_pos p1, if_pos p1, hri, hwx, if_pos rfl, hw]
/-- What the law asks of its own numbers. -/
def Own (b : Int) (own : List Int) : Prop := ∀ x ∈ own, 0 ≤ x ∧ x < 16777216 ∧ (dist b x ≤ 300 ∨ dist b x > 8388608)
theorem sets_end (b t : Int) (own : List Int) (hb : 0 ≤ b ∧ b < 16777216) (ht : 0 ≤ t ∧ t < 16777216) (hl : own.length ≤ 20) (ho : Own b own) :
    Ev (fun k => (polliwoglaw09_nums.f k own).bind fun t732 => (gaps_Set.f k b t t732).bind fun bt735 => (polliwogref09_Set.f k (wrap64 b) (wrap64 t) own).bind fun bt739 => if (bt735.2 != bt739.2) = true then none else ((span_Set_List.f k bt735.1).bind fun t743 => (polliwogref03_Same.f k t743 bt739.1).bind fun t746 => if t746 = true then (if bt735.2 = true then ((gaps_List.f k b bt735.1).bind fun t747 => (polliwoglaw09_same.f k t747 own).bind fun t750 => some t750) else some true) else none)) true := by
  have hr : ∀ x ∈ own, 0 ≤ x ∧ x < 16777216 := fun x hx => ⟨(ho x hx).1, (ho x hx).2.1⟩
  have hn : Ev (fun k => polliwoglaw09_nums.f k own) own := by
    have := nums_l0 own hl hr own.length 0 [] rfl (Nat.zero_le _) (Nat.le_refl _)
    rwa [List.drop_zero, List.nil_append] at this
  have e1 : wrap64 b = b := widG (by omega) (by omega)
  have e2 : wrap64 t = t := widG (by omega) (by omega)
  refine Ev.bind hn ?_
  refine Ev.bind (gset0_ev b t own hl) ?_
  rw [e1, e2]
  refine Ev.bind (rset0_ev b t own hl) ?_
  by_cases hc : (own.length : Int) % 2 = 0 ∧ dist b t ≤ 8388608
  · unfold scan0
    rw [if_pos hc]
    cases hs : scan (dist b t) (-1) false [] (own.map (dist b)) with
    | none =>
      have h1 := list_ev [] norm_nil (fun _ h => by cases h) (by decide)
      have h2 := same_ev (listL []) [] (by decide)
      rw [decide_eq_true (show listL [] = [] from rfl)] at h2
      simp only [gres, rres, bne_self_eq_false, Bool.false_eq_true, if_false]
      refine Ev.bind h1 ?_
      refine Ev.bind h2 ?_
      simp only [if_true]
      exact Ev.now _
    | some o =>
      obtain ⟨a, bb, c⟩ := scan_spec (dist b t) hc.2 (own.map (dist b)) (-1) false [] o (fun d hd => by
        obtain ⟨x, hx, rfl⟩ := List.mem_map.1 hd
        exact ⟨by unfold dist; omega, (ho x hx).2.2⟩) norm_nil (fun _ h => by cases h) (fun h => by cases h) (fun _ _ h => by cases h) (by rw [List.length_map]; simp only [Bool.false_eq_true, if_false]; omega) hs
      have ce : endsL o = own.map (dist b) := by simpa [endsL] using c
      have hS : Small o := fun x hx => by
        have h1 := a.1 x hx
        have h2 := bb x hx
        unfold mostL
        omega
      have hmem : ∀ n, Mem n o → 0 ≤ n ∧ n < 300 := fun n ⟨x, hx, h3, h4⟩ => by have := bb x hx; omega
      have hlen := rise_len (listL o) 0 300 (rise_listL a) (fun n hn => hmem n ((mem_listL o n).1 hn))
      have hol := norm_len a
      obtain ⟨ca, cb, cc, _⟩ := cutH_spec hS
      have hcut : cutH o = o := norm_ext ca a (fun n => by
        rw [cc]
        constructor
        · exact And.left
        · intro h
          have := hmem n h
          exact ⟨h, by omega⟩)
      have hpair : pairsOf b o = own := by
        rw [pairs_ends, ce, List.map_map]
        conv => rhs; rw [← List.map_id own]
        refine List.map_congr_left (fun x hx => ?_)
        have := hr x hx
        show gM b (dist b x) = x
        unfold gM dist
        omega
      have h1 := list_ev o a hS (by omega)
      have h2 := same_ev (listL o) (listL o) (by omega)
      rw [decide_eq_true rfl] at h2
      have h3 := glist_ev b o (by omega)
      rw [hcut, hpair] at h3
      have h4 : Ev (fun k => polliwoglaw09_same.f k own own) true := by
        unfold polliwoglaw09_same.f
        simp only [if_true]
        exact gsame_l0' own (by omega) hr own.length 0 rfl (Nat.zero_le _)
      simp only [gres, rres, bne_self_eq_false, Bool.false_eq_true, if_false, ofL_norm a hS]
      refine Ev.bind h1 ?_
      refine Ev.bind h2 ?_
      simp only [if_true]
      exact Ev.bind h3 (Ev.bind h4 (Ev.now _))
  · unfold scan0
    rw [if_neg hc]
    have h1 := list_ev [] norm_nil (fun _ h => by cases h) (by decide)
    have h2 := same_ev (listL []) [] (by decide)
    rw [decide_eq_true (show listL [] = [] from rfl)] at h2
    simp only [gres, rres, bne_self_eq_false, Bool.false_eq_true, if_false]
    refine Ev.bind h1 ?_
    refine Ev.bind h2 ?_
    simp only [if_true]
    exact Ev.now _
theorem sets_l0 (b t : Int) (hb : 0 ≤ b ∧ b < 16777216) (ht : 0 ≤ t ∧ t < 16777216) (l : List Int) (hl : l.length ≤ 20) : ∀ (m i : Nat) (own : List Int), l.length - i = m → i ≤ l.length → own.length = i → Own b own →
    Ev (fun k => polliwoglaw09_GapsSets.l0 k b t own l (l.length : Int) (i : Int)) true := by
  intro m
  induction m with
  | zero =>
    intro i own hm hi ho hown
    obtain rfl : i = l.length := by omega
    refine Ev.step (fun k => ?_) (sets_end b t own hb ht (by omega) hown)
    rw [polliwoglaw09_GapsSets.l0, if_neg (Int.lt_irrefl _)]
  | succ m ih =>
    intro i own hm hi ho hown
    have hlt : i < l.length := by omega
    have hri := rdi_at l i hlt
    have hw := w1 (i := i) (by omega)
    have p1 : (i : Int) < (l.length : Int) := Int.ofNat_lt.2 hlt
    have p2 : (0 : Int) ≤ (i : Int) := Int.natCast_nonneg _
    have p3 : own.length < 17592186044416 := by omega
    have e1 : wrap64 b = b := widG (by omega) (by omega)
    have next : ∀ x : Int, -300 ≤ x → x ≤ 300 → Ev (fun k => polliwoglaw09_GapsSets.l0 k b t (own ++ [(b + x) % 16777216]) l (l.length : Int) ((i + 1 : Nat) : Int)) true := fun x h0 h1 => by
      refine ih (i + 1) _ (by omega) (by omega) (by rw [List.length_append, List.length_singleton, ho]) (fun y hy => ?_)
      rcases List.mem_append.1 hy with hy | hy
      · exact hown y hy
      · rw [List.mem_singleton] at hy
        subst hy
        unfold dist
        omega
    by_cases h0 : l[i] ≥ -300
    · by_cases h1 : l[i] ≤ 300
      · have e2 : wrap64 (b + l[i]) = b + l[i] := widG (by omega) (by omega)
        refine Ev.step (fun k => ?_) (next l[i] h0 h1)
        rw [polliwoglaw09_GapsSets.l0, if_pos p1, if_pos p2, if_pos p1, hri, if_pos h0, if_pos h1, e1, e2, of1_eq, Option.bind_some, if_pos p3, hw]
      · have hq : 0 ≤ l[i] % 64 ∧ l[i] % 64 < 64 := by omega
        have e2 : wrap64 (4 * (l[i] % 64)) = 4 * (l[i] % 64) := widG (by omega) (by omega)
        have e3 : wrap64 (b + 4 * (l[i] % 64)) = b + 4 * (l[i] % 64) := widG (by omega) (by omega)
        refine Ev.step (fun k => ?_) (next (4 * (l[i] % 64)) (by omega) (by omega))
        rw [polliwoglaw09_GapsSets.l0, if_pos p1, if_pos p2, if_pos p1, hri, if_pos h0, if_neg h1, e1, and_i64_63, e2, e3, of1_eq, Option.bind_some, if_pos p3, hw]
    · have hq : 0 ≤ l[i] % 64 ∧ l[i] % 64 < 64 := by omega
      have e2 : wrap64 (4 * (l[i] % 64)) = 4 * (l[i] % 64) := widG (by omega) (by omega)
      have e3 : wrap64 (b + 4 * (l[i] % 64)) = b + 4 * (l[i] % 64) := widG (by omega) (by omega)
      refine Ev.step (fun k => ?_) (next (4 * (l[i] % 64)) (by omega) (by omega))
      rw [polliwoglaw09_GapsSets.l0, if_pos p1, if_pos p2, if_pos p1, hri, if_neg h0, e1, and_i64_63, e2, e3, of1_eq, Option.bind_some, if_pos p3, hw]
theorem GapsSets (a0 a1 : Int) (l2 : List Int) (_ : (Lit.int .i64 a0).wf = true) (_ : (Lit.int .i64 a1).wf = true) (_ : ∀ x ∈ l2, (Lit.int .i64 x).wf = true) : ∃ k, polliwoglaw09_GapsSets.f k a0 a1 (l2.take 20) = some true := by
  refine Ev.rounds (g := fun k => polliwoglaw09_GapsSets.f k a0 a1 (l2.take 20)) ?_
  unfold polliwoglaw09_GapsSets.f
  refine Ev.bind awake9_ev ?_
  simp only [if_true, seqof_eq, Option.bind_some]
  exact sets_l0 (a0 % 16777216) (a1 % 16777216) (by omega) (by omega) (l2.take 20) (by rw [List.length_take]; omega) _ 0 [] rfl (Nat.zero_le _) rfl (fun x hx => by cases hx)
end Go.Proofs.Ytihobchcmfamaaa.Pure
