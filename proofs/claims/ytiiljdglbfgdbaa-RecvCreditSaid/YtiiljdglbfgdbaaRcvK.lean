/- The law's awake. -/
import Derived.Test.YtiiljdglbfgdbaaRcvJ
import Derived.Test.YtiiljdglbfgdbaaS0
set_option linter.unusedVariables false
set_option linter.unusedSimpArgs false
namespace Go.Proofs.Ytiiljdglbfgdbaa.Rcv
open Go Go.RowKit Go.Proofs.YtiiljdglbfgdbaaW.PrintWords Go.Proofs.YtiiljdglbfgdbaaW.PrintLast Go.Proofs.YtiiljdglbfgdbaaW.PrintMore Go.Proofs.Ytiiljdglbfgdbaa Go.Proofs.Ytiiljdglbfgdbaa.Sl Go.Proofs.Ytiiljdglbfgdbaa.S Go.Proofs.Ytiiljdglbfgdbaa.SpanTh Go.Proofs.Ytiiljdglbfgdbaa.SpanEv
def y0 : RS := ⟨0, 0, 8, 8, [], [], []⟩
def y1 : RS := ⟨0, 2, 8, 8, [(1, ⟨#[98]⟩)], [], [⟨0, 1⟩]⟩
def y2 : RS := ⟨0, 2, 8, 8, [(1, ⟨#[98]⟩)], [], []⟩
def y3 : RS := ⟨2, 2, 8, 8, [], [⟨#[97]⟩, ⟨#[98]⟩], []⟩
theorem y0_eq : newF 0 8 = y0 := by kernel_rfl
theorem y1_eq : dataF y0 1 ⟨#[98]⟩ = (y1, []) := by kernel_rfl
theorem y2_eq : renewF { y1 with gaps := [] } = y2 := by kernel_rfl
theorem y3_eq : dataF y2 0 ⟨#[97]⟩ = (y3, [⟨#[97]⟩, ⟨#[98]⟩]) := by kernel_rfl
theorem ok1 : (dataG { y0 with buf := bput y0.buf (lowN 1) ⟨#[98]⟩ } (lowN 1)).Ok := by
  have e : dataG { y0 with buf := bput y0.buf (lowN 1) ⟨#[98]⟩ } (lowN 1) = y1 := by kernel_rfl
  rw [e]
  constructor <;> simp [y1]
theorem ok3 : (dataG { y2 with buf := bput y2.buf (lowN 0) ⟨#[97]⟩ } (lowN 0)).Ok := by
  have e : dataG { y2 with buf := bput y2.buf (lowN 0) ⟨#[97]⟩ } (lowN 0) = ⟨0, 2, 8, 8, [(1, ⟨#[98]⟩), (0, ⟨#[97]⟩)], [], []⟩ := by kernel_rfl
  rw [e]
  constructor <;> simp
theorem oky1 : y1.Ok := by constructor <;> simp [y1]
theorem one_norm : Norm [(⟨0, 1⟩ : S105)] ∧ Small [(⟨0, 1⟩ : S105)] := by
  refine ⟨⟨fun y hy => ?_, List.pairwise_singleton _ _⟩, fun y hy => ?_⟩
  · rw [List.mem_singleton] at hy; subst hy; decide
  · rw [List.mem_singleton] at hy; subst hy; simp [mostL]
theorem still1 (t : List S105) (h : StillR y1 ⟨0, 1⟩ t) : t = [⟨0, 1⟩] := by
  refine norm_ext h.1 one_norm.1 (fun n => ?_)
  rw [h.2.2, mem_one]
  show (1 : Int) ≤ 2 ∧ (0 ≤ n ∧ n < 2) ∧ (∀ p ∈ [((1 : Int), (⟨#[98]⟩ : ByteArray))], toN 0 p.1 ≠ n) ∧ (1 - 1 : Int) ≤ n ∧ n < 1 ↔ (0 : Int) ≤ n ∧ n < 1
  constructor
  · rintro ⟨_, _, _, a, b⟩
    exact ⟨a, b⟩
  · rintro ⟨a, b⟩
    refine ⟨by decide, ⟨a, by omega⟩, fun p hp e => ?_, a, b⟩
    rw [List.mem_singleton] at hp
    subst hp
    have : (1 : Int) = n := e
    omega
theorem cut1 : pairsOf 0 (cutH [(⟨0, 1⟩ : S105)]) = [0, 1] := by
  have h := cutH_spec one_norm.2
  have e : cutH [(⟨0, 1⟩ : S105)] = [⟨0, 1⟩] := by
    refine norm_ext h.1 one_norm.1 (fun n => ?_)
    rw [h.2.2.1, mem_one]
    show (0 ≤ n ∧ n < 1) ∧ 0 ≤ n ∧ n < 8388609 ↔ 0 ≤ n ∧ n < 1
    omega
  rw [e]
  rfl
theorem gap1 {w0 W : World} {l : List As} {b : Nat} (HS : SL w0 W (RecvA b y1 :: l)) :
    Calls Try.prog 15 #[.pointer (some ⟨b, 0, none⟩)] W fun e w' => ∃ v, e = .returned (.tuple #[v, .int .u32 0, .int .u32 8, .bool true]) ∧ SL w0 w' (Row (Kd.int .u32) 27 v [0, 1] :: RecvA b y2 :: l) := by
  refine (gap_c oky1 (by decide) HS).mono ?_
  rintro e w' (⟨_, h, _⟩ | ⟨pre, g, post, v, s0, t, h1, _, h2, h3, h4⟩)
  · exact absurd (still1 _ (h ⟨0, 1⟩ (.head _))) (by simp)
  · have : pre = [] ∧ g = ⟨0, 1⟩ ∧ post = [] := by
      cases pre with
      | nil => simpa [y1] using h1.symm
      | cons a p => simp [y1] at h1
    obtain ⟨rfl, rfl, rfl⟩ := this
    have h5 := still1 _ h2
    simp only [List.cons.injEq] at h5
    obtain ⟨rfl, rfl⟩ := h5
    refine ⟨v, h3, ?_⟩
    have h6 : SL w0 w' (Row (Kd.int .u32) 27 v (pairsOf 0 (cutH [(⟨0, 1⟩ : S105)])) :: RecvA b (renewF { y1 with gaps := [] }) :: l) := h4
    rw [cut1, y2_eq] at h6
    exact h6
end Go.Proofs.Ytiiljdglbfgdbaa.Rcv
