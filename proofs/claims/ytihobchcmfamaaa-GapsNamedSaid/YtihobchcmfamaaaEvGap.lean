/- The pairs of a set, counted from a base on, round about; and what layer 9's functions come to. -/
import Derived.Test.YtihobchcmfamaaaEvSpan
import Derived.Test.YtihobchcmfamaaaLibs
import Derived.Test.YtihobchcmfamaaaS0
import Derived.Test.YtihobchcmfamaaaS6
import Derived.Test.YtihobchcmfamaaaS21
import Derived.Test.YtihobchcmfamaaaS22
import Derived.Test.YtihobchcmfamaaaS23
import Derived.Test.YtihobchcmfamaaaS24
import Derived.Test.YtihobchcmfamaaaS25
namespace Go.Proofs.Ytihobchcmfamaaa.SpanTh
open Go.Proofs.Ytihobchcmfamaaa.S
def gM (b n : Int) : Int := (b + n) % 16777216
def pairsOf (b : Int) (s : List S45) : List Int := s.flatMap fun x => [gM b x.f0, gM b x.f1]
theorem pairs_ends (b : Int) (s : List S45) : pairsOf b s = (endsL s).map (gM b) := by
  unfold pairsOf endsL
  rw [List.map_flatMap]
  rfl
theorem pairs_len (b : Int) (s : List S45) : (pairsOf b s).length = 2 * s.length := by
  rw [pairs_ends, List.length_map]
  induction s with
  | nil => rfl
  | cons x s ih =>
    unfold endsL at *
    rw [List.flatMap_cons, List.length_append, ih]
    simp
    omega
theorem pairs_at (b : Int) : ∀ (s : List (S45)) (i : Nat) (h : i < s.length), (pairsOf b s)[2 * i]? = some (gM b s[i].f0) ∧ (pairsOf b s)[2 * i + 1]? = some (gM b s[i].f1)
  | [], i, h => absurd h (by simp)
  | x :: s, 0, h => ⟨rfl, rfl⟩
  | x :: s, i + 1, h => by
    have := pairs_at b s i (by simpa using h)
    unfold pairsOf at *
    rw [List.flatMap_cons, show 2 * (i + 1) = 2 * i + 1 + 1 by omega]
    simpa using this
theorem gM_range (b n : Int) : 0 ≤ gM b n ∧ gM b n < 16777216 := by unfold gM; omega
theorem gM_to (b x y : Int) : (gM b y - gM b x) % 16777216 = (y - x) % 16777216 := by unfold gM; omega
theorem gM_to0 (b y : Int) : (gM b y - b) % 16777216 = y % 16777216 := by unfold gM; omega
theorem gM_add (b x n : Int) : gM (gM b x) n = gM b (x + n) := by unfold gM; omega
theorem gM_move (b x n : Int) : gM (gM b x) n = gM (gM b n) x := by unfold gM; omega
def half : Int := 8388608
def countF (acc : Int) (x : S45) : Int := if (x.f1 - x.f0) % 16777216 ≤ 8388608 then acc + (x.f1 - x.f0) % 16777216 else acc
/-- Pairs of a rising list: what the document's function makes. -/
def pStep (b : Int) (prev : Option Int) (out : List Int) (x : Int) : List Int :=
  if prev = some (x - 1) then out.dropLast ++ [gM b (x + 1)] else out ++ [gM b x, gM b (x + 1)]
def pairsF (b : Int) : Option Int → List Int → List Int → List Int
  | _, out, [] => out
  | prev, out, x :: l => pairsF b (some x) (pStep b prev out x) l
theorem pStep_map (b : Int) (prev : Option Int) (out : List Int) (x : Int) : pStep b prev (out.map (gM b)) x = (spStep prev out x).map (gM b) := by
  unfold pStep spStep
  split <;> simp
theorem pairsF_map (b : Int) : ∀ (l out : List Int) (prev : Option Int), pairsF b prev (out.map (gM b)) l = (spansF prev out l).map (gM b)
  | [], _, _ => rfl
  | x :: l, out, prev => by rw [pairsF, spansF, pStep_map, pairsF_map]
theorem pairsF_list (b : Int) {c : List S45} (hc : Norm c) : pairsF b none [] (listL c) = pairsOf b c := by
  have h := pairsF_map b (listL c) [] none
  rw [List.map_nil] at h
  rw [h, spans_list c none [] hc (fun _ _ _ h => by cases h), pairs_ends]
  rfl
/-- Within the half that counts. -/
def Mid (c : List S45) : Prop := ∀ x ∈ c, 0 ≤ x.f0 ∧ x.f0 < x.f1 ∧ x.f1 ≤ 8388609
theorem norm_mid {c : List S45} (h : Norm c) (hm : ∀ n, Mem n c → 0 ≤ n ∧ n < 8388609) : Mid c := by
  intro x hx
  have h0 := h.1 x hx
  have h1 := hm x.f0 ⟨x, hx, Int.le_refl _, h0⟩
  have h2 := hm (x.f1 - 1) ⟨x, hx, by omega, by omega⟩
  omega
end Go.Proofs.Ytihobchcmfamaaa.SpanTh
namespace Go.Proofs.Ytihobchcmfamaaa.SpanEv
open Go.RowKit Go.Proofs.Ytihobchcmfamaaa.S Go.Proofs.YtihobchcmfamaaaW.PrintWords Go.Proofs.YtihobchcmfamaaaW.PrintMore Go.Proofs.Ytihobchcmfamaaa.SpanTh Go.Proofs.Ytihobchcmfamaaa.Bits
theorem widG {x : Int} (h0 : -9223372036854775808 ≤ x) (h1 : x ≤ 9223372036854775807) : wrap64 x = x := by unfold wrap64; omega
theorem low_eq (a : Int) : seq_Num_Low.f a = some (a % 16777216) := by
  unfold seq_Num_Low.f
  rw [and_u32_mask]
theorem seqof_eq (a : Int) : seq_Of.f a = some (a % 16777216) := by
  unfold seq_Of.f
  rw [and_u32_mask]
  congr 1
  omega
theorem add_eq (a i : Int) : seq_Num_Add.f a i = some (gM a i) := by
  unfold seq_Num_Add.f
  rw [low_eq, Option.bind_some, and_i64_mask, seqof_eq, Option.bind_some]
  congr 1
  have e1 : wrap64 (a % 16777216) = a % 16777216 := widG (by omega) (by omega)
  rw [e1, widG (by omega) (by omega)]
  unfold gM
  omega
theorem to_eq (a b : Int) : seq_Num_To.f a b = some ((b - a) % 16777216) := by
  unfold seq_Num_To.f
  rw [and_u32_mask, widG (by omega) (by omega)]
  congr 1
  omega
def cutH (s : List (S45)) : List (S45) := ofL (meets s [⟨0, 8388609⟩])
theorem whole_norm : Norm [(⟨0, 8388609⟩ : S45)] ∧ Small [(⟨0, 8388609⟩ : S45)] := by
  refine ⟨⟨fun x hx => ?_, by simp⟩, fun x hx => ?_⟩
  · rw [List.mem_singleton] at hx; subst hx; decide
  · rw [List.mem_singleton] at hx; subst hx; decide
theorem cutH_spec {s : List (S45)} (hs : Small s) : Norm (cutH s) ∧ Small (cutH s) ∧ (∀ n, Mem n (cutH s) ↔ Mem n s ∧ 0 ≤ n ∧ n < 8388609) ∧ Mid (cutH s) := by
  obtain ⟨a, b, c⟩ := both_spec hs whole_norm.2
  have c' : ∀ n, Mem n (cutH s) ↔ Mem n s ∧ 0 ≤ n ∧ n < 8388609 := fun n => by rw [show cutH s = ofL (meets s [⟨0, 8388609⟩]) from rfl, c, mem_cons]; simp [mem_nil]
  exact ⟨a, b, c', norm_mid a (fun n hn => ((c' n).1 hn).2)⟩
theorem glist_l0 (b : Int) (c : List (S45)) (hl : c.length < 1099511627776) : ∀ (m i : Nat) (out : List Int), c.length - i = m → i ≤ c.length → out.length = 2 * i →
    Ev (fun k => gaps_List.l0 k b out c (c.length : Int) (i : Int)) (out ++ pairsOf b (c.drop i)) := by
  intro m
  induction m with
  | zero =>
    intro i out hm hi ho
    obtain rfl : i = c.length := by omega
    refine Ev.step (f := fun _ => some out) (fun k => ?_) (by rw [List.drop_length, show pairsOf b [] = [] from rfl, List.append_nil]; exact Ev.now _)
    rw [gaps_List.l0, if_neg (by omega)]
  | succ m ih =>
    intro i out hm hi ho
    have hlt : i < c.length := by omega
    have hr := rd_at c i hlt
    have hw := w1 (i := i) (by omega)
    have e : pairsOf b (c.drop i) = [gM b c[i].f0, gM b c[i].f1] ++ pairsOf b (c.drop (i + 1)) := by rw [List.drop_eq_getElem_cons hlt]; rfl
    rw [e, ← List.append_assoc]
    refine Ev.step (fun k => ?_) (ih (i + 1) (out ++ [gM b c[i].f0, gM b c[i].f1]) (by omega) (by omega) (by simp; omega))
    rw [gaps_List.l0, if_pos (by omega), if_pos (by omega), if_pos (by omega), hr, add_eq, Option.bind_some, add_eq, Option.bind_some, Option.bind_some, if_pos (by simp; omega), hw]
theorem cutH_len {s : List (S45)} (hs : s.length < 1000000) : (cutH s).length ≤ s.length := by
  have fl : ∀ (l o : List (S45)), (l.foldl push o).length ≤ o.length + l.length := by
    intro l
    induction l with
    | nil => intro o; simp
    | cons x l ih =>
      intro o
      rw [List.foldl_cons, List.length_cons]
      have h1 := ih (push o x)
      have h2 : (push o x).length ≤ o.length + 1 := by
        rcases List.eq_nil_or_concat o with rfl | ⟨o, y, rfl⟩
        · rw [push_nil]; simp
        · rw [List.concat_eq_append, push_snoc]
          split <;> simp
      omega
  unfold cutH ofL
  have h1 := fl ((keptL (meets s [⟨0, 8388609⟩])).mergeSort leL) []
  have h2 : (keptL (meets s [⟨0, 8388609⟩])).length ≤ s.length := by
    unfold keptL
    refine Nat.le_trans (List.length_filter_le _ _) ?_
    rw [List.length_map]
    unfold meets
    induction s with
    | nil => exact Nat.le_refl _
    | cons x s ih =>
      rw [List.flatMap_cons, List.length_append, List.length_map, List.length_singleton, List.length_cons]
      have := ih (by simp at hs; omega) (fl _ _)
      omega
  rw [List.length_mergeSort] at h1
  simp only [List.length_nil] at h1
  omega
/-- gaps.List: the pairs of what lies within the half. -/
theorem glist_ev (b : Int) (s : List (S45)) (hs : s.length < 1000000) : Ev (fun k => gaps_List.f k b s) (pairsOf b (cutH s)) := by
  unfold gaps_List.f
  have h1 := of_ev [(⟨0, 8388609⟩ : S45)] (by simp)
  rw [ofL_norm whole_norm.1 whole_norm.2] at h1
  refine Ev.bind h1 ?_
  refine Ev.bind (both_ev s [⟨0, 8388609⟩] (by omega) (by simp) (by simp; omega)) ?_
  have h2 := cutH_len hs
  have := glist_l0 b (cutH s) (by omega) (cutH s).length 0 [] rfl (Nat.zero_le _) (by simp)
  rwa [List.drop_zero, List.nil_append] at this
theorem count_fold (b : Int) : ∀ (c : List (S45)) (acc : Int), 0 ≤ acc → acc + 16777216 * c.length < 4611686018427387904 → gaps_Count.pairsL (fun s _ n => wrap64 (s + n)) (pairsOf b c) acc = c.foldl countF acc
  | [], acc, _, _ => rfl
  | x :: c, acc, h0, h1 => by
    rw [List.length_cons] at h1
    have e : pairsOf b (x :: c) = gM b x.f0 :: gM b x.f1 :: pairsOf b c := rfl
    rw [e, gaps_Count.pairsL, List.foldl_cons]
    unfold gaps_Count.tov countF
    rw [gM_to]
    split
    · rw [widG (by omega) (by omega)]
      exact count_fold b c _ (by omega) (by omega)
    · exact count_fold b c acc h0 (by omega)
theorem count_eq (b : Int) (c : List (S45)) (hl : c.length < 1000000) : gaps_Count.f (pairsOf b c) = some (c.foldl countF 0) := by
  unfold gaps_Count.f
  rw [if_pos (by rw [pairs_len]; omega), count_fold b c 0 (Int.le_refl _) (by omega)]
theorem count_mid : ∀ (c : List (S45)) (acc : Int), (∀ x ∈ c, x.f0 < x.f1 ∧ x.f1 - x.f0 ≤ 8388608) → c.foldl countF acc = acc + lenL c
  | [], acc, _ => by simp [lenL]
  | x :: c, acc, h => by
    have hx := h x List.mem_cons_self
    rw [List.foldl_cons, count_mid c _ (fun y hy => h y (List.mem_cons_of_mem _ hy))]
    unfold countF lenL
    rw [if_pos (by omega), List.map_cons, List.sum_cons]
    omega
theorem awake9_ev : Ev (fun k => polliwoglaw09_awake.f k) true := by
  have hn : Norm [(⟨0, 2⟩ : S45), ⟨5, 6⟩] := ⟨fun x hx => by
    simp only [List.mem_cons, List.not_mem_nil, or_false] at hx
    rcases hx with rfl | rfl <;> decide, by simp⟩
  have hs : Small [(⟨0, 2⟩ : S45), ⟨5, 6⟩] := fun x hx => by
    simp only [List.mem_cons, List.not_mem_nil, or_false] at hx
    rcases hx with rfl | rfl <;> decide
  have h1 := of_ev [(⟨0, 2⟩ : S45), ⟨5, 6⟩] (by decide)
  rw [ofL_norm hn hs] at h1
  have h2 := glist_ev 16777215 [(⟨0, 2⟩ : S45), ⟨5, 6⟩] (by decide)
  obtain ⟨a, _, c, _⟩ := cutH_spec hs
  have e : cutH [(⟨0, 2⟩ : S45), ⟨5, 6⟩] = [⟨0, 2⟩, ⟨5, 6⟩] := norm_ext a hn (fun n => by
    rw [c]
    simp only [mem_cons, mem_nil, or_false]
    omega)
  rw [e, show pairsOf 16777215 [(⟨0, 2⟩ : S45), ⟨5, 6⟩] = [16777215, 1, 4, 5] by decide] at h2
  unfold polliwoglaw09_awake.f
  refine Ev.bind h1 ?_
  refine Ev.bind h2 ?_
  have h3 : gaps_Count.f [16777215, 1, 4, 5] = some 3 := by
    have h4 := count_eq 16777215 [(⟨0, 2⟩ : S45), ⟨5, 6⟩] (by decide)
    rw [show pairsOf 16777215 [(⟨0, 2⟩ : S45), ⟨5, 6⟩] = [16777215, 1, 4, 5] by decide] at h4
    exact h4
  refine Ev.congr (f := fun _ => some true) (fun k => ?_) (Ev.now _)
  simp [rd, h3]
end Go.Proofs.Ytihobchcmfamaaa.SpanEv
namespace Go.Proofs.Ytihobchcmfamaaa.SpanEv
open Go.RowKit Go.Proofs.Ytihobchcmfamaaa.S Go.Proofs.YtihobchcmfamaaaW.PrintWords Go.Proofs.YtihobchcmfamaaaW.PrintMore Go.Proofs.Ytihobchcmfamaaa.SpanTh Go.Proofs.Ytihobchcmfamaaa.Bits
theorem rdg_some {l : List Int} {i : Nat} {x : Int} (h : l[i]? = some x) : rd l (i : Int) = x := by
  unfold rd
  rw [Int.toNat_natCast]
  simp [h]
theorem tmod_even (j : Nat) : ¬ Int.tmod ((2 * j : Nat) : Int) 2 = 1 := by
  rw [Int.tmod_eq_emod_of_nonneg (Int.natCast_nonneg _)]
  omega
theorem tmod_odd (j : Nat) : Int.tmod ((2 * j + 1 : Nat) : Int) 2 = 1 := by
  rw [Int.tmod_eq_emod_of_nonneg (Int.natCast_nonneg _)]
  omega
/-- One turn of the loop at an even place. -/
theorem set_even (b E last : Int) (l : List Int) (j : Nat) (x : Int) (hj : 2 * j < l.length) (hl : l.length < 1099511627776) (hx : l[2 * j]? = some (gM b x)) (h0 : 0 ≤ x) (h1 : x < 16777216) (h2 : last < x) (h3 : x ≤ E) (out : List (S45)) (v : List (S45) × Bool)
    (h : Ev (fun k => gaps_Set.l0 k b E x out l (l.length : Int) ((2 * j + 1 : Nat) : Int)) v) : Ev (fun k => gaps_Set.l0 k b E last out l (l.length : Int) ((2 * j : Nat) : Int)) v := by
  have hw : wrap64 (((2 * j : Nat) : Int) + 1) = ((2 * j + 1 : Nat) : Int) := w1 (by omega)
  have e : (gM b x - b) % 16777216 = x := by rw [gM_to0]; omega
  have p1 : ((2 * j : Nat) : Int) < (l.length : Int) := Int.ofNat_lt.2 hj
  have p2 : (0 : Int) ≤ ((2 * j : Nat) : Int) := Int.natCast_nonneg _
  have p3 : decide (x > E) = false := by rw [decide_eq_false_iff_not]; omega
  refine Ev.step (f := fun k => gaps_Set.j2 k b E last out ((2 * j : Nat) : Int) x l (l.length : Int) ((2 * j : Nat) : Int) false) (fun k => ?_) (Ev.step (fun k => ?_) h)
  · rw [gaps_Set.l0, if_pos p1, if_pos p2, if_pos p1, rdg_some hx, to_eq, Option.bind_some, e, if_neg (by omega), p3]
  · rw [gaps_Set.j2, if_neg (by decide), if_neg (tmod_even j), hw]
theorem set_odd (b E last : Int) (l : List Int) (j : Nat) (x : Int) (hj : 2 * j + 1 < l.length) (hl : l.length < 1099511627776) (hx : l[2 * j + 1]? = some (gM b x)) (h0 : 0 ≤ x) (h1 : x < 16777216) (h2 : last < x) (h3 : x ≤ E) (out : List (S45)) (ho : out.length < 1099511627776) (v : List (S45) × Bool)
    (h : Ev (fun k => gaps_Set.l0 k b E x (out ++ [⟨last, x⟩]) l (l.length : Int) ((2 * (j + 1) : Nat) : Int)) v) : Ev (fun k => gaps_Set.l0 k b E last out l (l.length : Int) ((2 * j + 1 : Nat) : Int)) v := by
  have hw : wrap64 (((2 * j + 1 : Nat) : Int) + 1) = ((2 * (j + 1) : Nat) : Int) := w1 (by omega)
  have e : (gM b x - b) % 16777216 = x := by rw [gM_to0]; omega
  have p1 : ((2 * j + 1 : Nat) : Int) < (l.length : Int) := Int.ofNat_lt.2 hj
  have p2 : (0 : Int) ≤ ((2 * j + 1 : Nat) : Int) := Int.natCast_nonneg _
  have p3 : decide (x > E) = false := by rw [decide_eq_false_iff_not]; omega
  have p4 : out.length < 8796093022208 := by omega
  refine Ev.step (f := fun k => gaps_Set.j2 k b E last out ((2 * j + 1 : Nat) : Int) x l (l.length : Int) ((2 * j + 1 : Nat) : Int) false) (fun k => ?_) (Ev.step (fun k => ?_) h)
  · rw [gaps_Set.l0, if_pos p1, if_pos p2, if_pos p1, rdg_some hx, to_eq, Option.bind_some, e, if_neg (by omega), p3]
  · rw [gaps_Set.j2, if_neg (by decide), if_pos (tmod_odd j), if_pos p4, hw]
theorem set_l0 (b E : Int) (c : List (S45)) (hl : c.length < 1000000) (hN : Norm c) (hM : ∀ x ∈ c, 0 ≤ x.f0 ∧ x.f0 < x.f1 ∧ x.f1 ≤ E) (hE : E ≤ 8388608) : ∀ (m j : Nat) (last : Int) (out : List (S45)), c.length - j = m → j ≤ c.length → out.length = j → (∀ x ∈ c.drop j, last < x.f0) →
    Ev (fun k => gaps_Set.l0 k b E last out (pairsOf b c) ((pairsOf b c).length : Int) ((2 * j : Nat) : Int)) (ofL (out ++ c.drop j), true) := by
  have hlen := pairs_len b c
  intro m
  induction m with
  | zero =>
    intro j last out hm hj ho hx
    obtain rfl : j = c.length := by omega
    rw [List.drop_length, List.append_nil]
    refine Ev.step (f := fun k => (span_Of.f k out).bind fun t => some (t, true)) (fun k => ?_) (Ev.bind (of_ev out (by omega)) (Ev.now _))
    have p1 : ¬ ((2 * c.length : Nat) : Int) < ((pairsOf b c).length : Int) := by omega
    rw [gaps_Set.l0, if_neg p1]
  | succ m ih =>
    intro j last out hm hj ho hx
    have hlt : j < c.length := by omega
    obtain ⟨a0, a1⟩ := pairs_at b c j hlt
    have hc := hM c[j] (List.getElem_mem hlt)
    have hlast : last < c[j].f0 := hx c[j] (by rw [List.drop_eq_getElem_cons hlt]; exact List.mem_cons_self)
    rw [List.drop_eq_getElem_cons hlt, show out ++ c[j] :: c.drop (j + 1) = out ++ [c[j]] ++ c.drop (j + 1) by simp]
    refine set_even b E last _ j c[j].f0 (by omega) (by omega) a0 (by omega) (by omega) hlast (by omega) out _ ?_
    refine set_odd b E c[j].f0 _ j c[j].f1 (by omega) (by omega) a1 (by omega) (by omega) (by omega) (by omega) out (by omega) _ ?_
    exact ih (j + 1) c[j].f1 (out ++ [c[j]]) (by omega) (by omega) (by simp; omega) (fun x hx => by
      obtain ⟨p, hp, rfl⟩ := List.mem_iff_getElem.1 hx
      rw [List.getElem_drop]
      rw [List.length_drop] at hp
      exact List.pairwise_iff_getElem.1 hN.2 j (j + 1 + p) hlt (by omega) (by omega))
/-- gaps.Set over a set's own pairs gives the set. -/
theorem gset_ev (b top : Int) (c : List (S45)) (hl : c.length < 1000000) (hN : Norm c) (hS : Small c) (hM : ∀ x ∈ c, 0 ≤ x.f0 ∧ x.f0 < x.f1 ∧ x.f1 ≤ (top - b) % 16777216) (hE : (top - b) % 16777216 ≤ 8388608) : Ev (fun k => gaps_Set.f k b top (pairsOf b c)) (c, true) := by
  unfold gaps_Set.f
  rw [to_eq]
  simp only [Option.bind_some]
  have p1 : ((pairsOf b c).length : Int) % 2 = 0 := by rw [pairs_len]; omega
  have p2 : decide ((top - b) % 16777216 > 8388608) = false := by rw [decide_eq_false_iff_not]; omega
  simp only [if_pos p1, p2]
  have h := set_l0 b _ c hl hN hM hE c.length 0 (-1) [] rfl (Nat.zero_le _) rfl (fun x hx => by have := hM x (List.mem_of_mem_drop hx); omega)
  rw [List.drop_zero, List.nil_append, ofL_norm hN hS] at h
  refine Ev.step (fun k => ?_) h
  rw [gaps_Set.j0, if_neg (by decide)]
  rfl
/-- And none, where the last of a single pair lies beyond the top. -/
theorem gset_far (b top n : Int) (h0 : 0 ≤ (top - b) % 16777216) (h1 : (top - b) % 16777216 < n) (hn : n ≤ 8388608) : Ev (fun k => gaps_Set.f k b top (pairsOf b [⟨0, n⟩])) ([], false) := by
  unfold gaps_Set.f
  rw [to_eq]
  simp only [Option.bind_some]
  have p1 : ((pairsOf b [(⟨0, n⟩ : S45)]).length : Int) % 2 = 0 := by rw [pairs_len, List.length_singleton]; decide
  have p2 : decide ((top - b) % 16777216 > 8388608) = false := by rw [decide_eq_false_iff_not]; omega
  simp only [if_pos p1, p2]
  have hq : (pairsOf b [(⟨0, n⟩ : S45)]).length = 2 := pairs_len _ _
  have a01 := pairs_at b [(⟨0, n⟩ : S45)] 0 (by simp)
  have a0 : (pairsOf b [(⟨0, n⟩ : S45)])[2 * 0]? = some (gM b 0) := a01.1
  have a1 : (pairsOf b [(⟨0, n⟩ : S45)])[2 * 0 + 1]? = some (gM b n) := a01.2
  refine Ev.step (f := fun k => gaps_Set.l0 k b ((top - b) % 16777216) (-1) [] (pairsOf b [⟨0, n⟩]) ((pairsOf b [(⟨0, n⟩ : S45)]).length : Int) ((2 * 0 : Nat) : Int)) (fun k => ?_) (set_even b _ (-1) _ 0 0 (by omega) (by omega) a0 (by omega) (by omega) (by omega) h0 [] _ ?_)
  · rw [gaps_Set.j0, if_neg (by decide)]
    rfl
  · have e : (gM b n - b) % 16777216 = n := by rw [gM_to0]; omega
    have q1 : ((2 * 0 + 1 : Nat) : Int) < ((pairsOf b [(⟨0, n⟩ : S45)]).length : Int) := by rw [hq]; decide
    have q2 : (0 : Int) ≤ ((2 * 0 + 1 : Nat) : Int) := Int.natCast_nonneg _
    have q3 : decide (n > (top - b) % 16777216) = true := by rw [decide_eq_true_iff]; omega
    refine Ev.step (f := fun k => gaps_Set.j2 k b ((top - b) % 16777216) 0 [] ((2 * 0 + 1 : Nat) : Int) n (pairsOf b [⟨0, n⟩]) ((pairsOf b [(⟨0, n⟩ : S45)]).length : Int) ((2 * 0 + 1 : Nat) : Int) true) (fun k => ?_) (Ev.step (f := fun _ => some ([], false)) (fun k => ?_) (Ev.now _))
    · rw [gaps_Set.l0, if_pos q1, if_pos q2, if_pos q1, rdg_some a1, to_eq, Option.bind_some]
      rw [e, if_neg (by omega), q3]
    · rw [gaps_Set.j2, if_pos rfl]
end Go.Proofs.Ytihobchcmfamaaa.SpanEv
