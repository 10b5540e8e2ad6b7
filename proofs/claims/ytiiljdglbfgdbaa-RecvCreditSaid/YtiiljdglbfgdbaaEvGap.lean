/- The pairs of a set, counted from a base on, round about; and what layer 9's functions come to. -/
import Derived.Test.YtiiljdglbfgdbaaEvDrop
import Derived.Test.YtiiljdglbfgdbaaLibs
import Derived.Test.YtiiljdglbfgdbaaS0
import Derived.Test.YtiiljdglbfgdbaaS1
import Derived.Test.YtiiljdglbfgdbaaS7
namespace Go.Proofs.Ytiiljdglbfgdbaa.SpanTh
open Go.Proofs.Ytiiljdglbfgdbaa.S
def gM (b n : Int) : Int := (b + n) % 16777216
def pairsOf (b : Int) (s : List S105) : List Int := s.flatMap fun x => [gM b x.f0, gM b x.f1]
theorem gM_range (b n : Int) : 0 ≤ gM b n ∧ gM b n < 16777216 := by unfold gM; omega
theorem gM_to (b x y : Int) : (gM b y - gM b x) % 16777216 = (y - x) % 16777216 := by unfold gM; omega
theorem gM_to0 (b y : Int) : (gM b y - b) % 16777216 = y % 16777216 := by unfold gM; omega
theorem gM_add (b x n : Int) : gM (gM b x) n = gM b (x + n) := by unfold gM; omega
theorem gM_move (b x n : Int) : gM (gM b x) n = gM (gM b n) x := by unfold gM; omega
def half : Int := 8388608
/-- Within the half that counts. -/
def Mid (c : List S105) : Prop := ∀ x ∈ c, 0 ≤ x.f0 ∧ x.f0 < x.f1 ∧ x.f1 ≤ 8388609
theorem norm_mid {c : List S105} (h : Norm c) (hm : ∀ n, Mem n c → 0 ≤ n ∧ n < 8388609) : Mid c := by
  intro x hx
  have h0 := h.1 x hx
  have h1 := hm x.f0 ⟨x, hx, Int.le_refl _, h0⟩
  have h2 := hm (x.f1 - 1) ⟨x, hx, by omega, by omega⟩
  omega
end Go.Proofs.Ytiiljdglbfgdbaa.SpanTh
namespace Go.Proofs.Ytiiljdglbfgdbaa.SpanEv
open Go.RowKit Go.Proofs.Ytiiljdglbfgdbaa.S Go.Proofs.YtiiljdglbfgdbaaW.PrintWords Go.Proofs.YtiiljdglbfgdbaaW.PrintMore Go.Proofs.Ytiiljdglbfgdbaa.SpanTh Go.Proofs.Ytiiljdglbfgdbaa.Bits
theorem widG {x : Int} (h0 : -9223372036854775808 ≤ x) (h1 : x ≤ 9223372036854775807) : wrap64 x = x := by unfold wrap64; omega
theorem low_eq (a : Int) : seq_Num_Low.f a = some (a % 16777216) := by
  unfold seq_Num_Low.f
  rw [and_u32_mask]
theorem seqof_eq (a : Int) : seq_Of.f a = some (a % 16777216) := by
  unfold seq_Of.f
  rw [and_u32_mask]
  congr 1
  omega
theorem add_eq (a i : Int) : seq_Num_Add.f a i = some (gM a i) := by
  unfold seq_Num_Add.f
  rw [low_eq, Option.bind_some, and_i64_mask, seqof_eq, Option.bind_some]
  congr 1
  have e1 : wrap64 (a % 16777216) = a % 16777216 := widG (by omega) (by omega)
  rw [e1, widG (by omega) (by omega)]
  unfold gM
  omega
theorem to_eq (a b : Int) : seq_Num_To.f a b = some ((b - a) % 16777216) := by
  unfold seq_Num_To.f
  rw [and_u32_mask, widG (by omega) (by omega)]
  congr 1
  omega
def cutH (s : List (S105)) : List (S105) := ofL (meets s [⟨0, 8388609⟩])
theorem whole_norm : Norm [(⟨0, 8388609⟩ : S105)] ∧ Small [(⟨0, 8388609⟩ : S105)] := by
  refine ⟨⟨fun x hx => ?_, by simp⟩, fun x hx => ?_⟩
  · rw [List.mem_singleton] at hx; subst hx; decide
  · rw [List.mem_singleton] at hx; subst hx; decide
theorem cutH_spec {s : List (S105)} (hs : Small s) : Norm (cutH s) ∧ Small (cutH s) ∧ (∀ n, Mem n (cutH s) ↔ Mem n s ∧ 0 ≤ n ∧ n < 8388609) ∧ Mid (cutH s) := by
  obtain ⟨a, b, c⟩ := both_spec hs whole_norm.2
  have c' : ∀ n, Mem n (cutH s) ↔ Mem n s ∧ 0 ≤ n ∧ n < 8388609 := fun n => by rw [show cutH s = ofL (meets s [⟨0, 8388609⟩]) from rfl, c, mem_cons]; simp [mem_nil]
  exact ⟨a, b, c', norm_mid a (fun n hn => ((c' n).1 hn).2)⟩
theorem glist_l0 (b : Int) (c : List (S105)) (hl : c.length < 1099511627776) : ∀ (m i : Nat) (out : List Int), c.length - i = m → i ≤ c.length → out.length = 2 * i →
    Ev (fun k => gaps_List.l0 k b out c (c.length : Int) (i : Int)) (out ++ pairsOf b (c.drop i)) := by
  intro m
  induction m with
  | zero =>
    intro i out hm hi ho
    obtain rfl : i = c.length := by omega
    refine Ev.step (f := fun _ => some out) (fun k => ?_) (by rw [List.drop_length, show pairsOf b [] = [] from rfl, List.append_nil]; exact Ev.now _)
    rw [gaps_List.l0, if_neg (by omega)]
  | succ m ih =>
    intro i out hm hi ho
    have hlt : i < c.length := by omega
    have hr := rd_at c i hlt
    have hw := w1 (i := i) (by omega)
    have e : pairsOf b (c.drop i) = [gM b c[i].f0, gM b c[i].f1] ++ pairsOf b (c.drop (i + 1)) := by rw [List.drop_eq_getElem_cons hlt]; rfl
    rw [e, ← List.append_assoc]
    refine Ev.step (fun k => ?_) (ih (i + 1) (out ++ [gM b c[i].f0, gM b c[i].f1]) (by omega) (by omega) (by simp; omega))
    rw [gaps_List.l0, if_pos (by omega), if_pos (by omega), if_pos (by omega), hr, add_eq, Option.bind_some, add_eq, Option.bind_some, Option.bind_some, if_pos (by simp; omega), hw]
theorem cutH_len {s : List (S105)} (hs : s.length < 1000000) : (cutH s).length ≤ s.length := by
  have fl : ∀ (l o : List (S105)), (l.foldl push o).length ≤ o.length + l.length := by
    intro l
    induction l with
    | nil => intro o; simp
    | cons x l ih =>
      intro o
      rw [List.foldl_cons, List.length_cons]
      have h1 := ih (push o x)
      have h2 : (push o x).length ≤ o.length + 1 := by
        rcases List.eq_nil_or_concat o with rfl | ⟨o, y, rfl⟩
        · rw [push_nil]; simp
        · rw [List.concat_eq_append, push_snoc]
          split <;> simp
      omega
  unfold cutH ofL
  have h1 := fl ((keptL (meets s [⟨0, 8388609⟩])).mergeSort leL) []
  have h2 : (keptL (meets s [⟨0, 8388609⟩])).length ≤ s.length := by
    unfold keptL
    refine Nat.le_trans (List.length_filter_le _ _) ?_
    rw [List.length_map]
    unfold meets
    induction s with
    | nil => exact Nat.le_refl _
    | cons x s ih =>
      rw [List.flatMap_cons, List.length_append, List.length_map, List.length_singleton, List.length_cons]
      have := ih (by simp at hs; omega) (fl _ _)
      omega
  rw [List.length_mergeSort] at h1
  simp only [List.length_nil] at h1
  omega
/-- gaps.List: the pairs of what lies within the half. -/
theorem glist_ev (b : Int) (s : List (S105)) (hs : s.length < 1000000) : Ev (fun k => gaps_List.f k b s) (pairsOf b (cutH s)) := by
  unfold gaps_List.f
  have h1 := of_ev [(⟨0, 8388609⟩ : S105)] (by simp)
  rw [ofL_norm whole_norm.1 whole_norm.2] at h1
  refine Ev.bind h1 ?_
  refine Ev.bind (both_ev s [⟨0, 8388609⟩] (by omega) (by simp) (by simp; omega)) ?_
  have h2 := cutH_len hs
  have := glist_l0 b (cutH s) (by omega) (cutH s).length 0 [] rfl (Nat.zero_le _) (by simp)
  rwa [List.drop_zero, List.nil_append] at this
end Go.Proofs.Ytiiljdglbfgdbaa.SpanEv
namespace Go.Proofs.Ytiiljdglbfgdbaa.SpanEv
open Go.RowKit Go.Proofs.Ytiiljdglbfgdbaa.S Go.Proofs.YtiiljdglbfgdbaaW.PrintWords Go.Proofs.YtiiljdglbfgdbaaW.PrintMore Go.Proofs.Ytiiljdglbfgdbaa.SpanTh Go.Proofs.Ytiiljdglbfgdbaa.Bits
end Go.Proofs.Ytiiljdglbfgdbaa.SpanEv
