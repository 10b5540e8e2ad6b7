/- What a receiver and the document's have to do with one another: plain theory. -/
import Derived.Test.YtiiljdglbfgdbaaRcvT
import Derived.Test.YtiiljdglbfgdbaaS0
import Derived.Test.YtiiljdglbfgdbaaS12
import Derived.Test.YtiiljdglbfgdbaaS13
import Derived.Test.YtiiljdglbfgdbaaS14
set_option linter.unusedVariables false
set_option linter.unusedSimpArgs false
/-! What a receiver and the document's have to do with one another: plain theory. -/
namespace Go.Proofs.Ytiiljdglbfgdbaa.Rcv
open Go Go.RowKit Go.Proofs.YtiiljdglbfgdbaaW.PrintWords Go.Proofs.Ytiiljdglbfgdbaa Go.Proofs.Ytiiljdglbfgdbaa.Sl Go.Proofs.Ytiiljdglbfgdbaa.S Go.Proofs.Ytiiljdglbfgdbaa.SpanTh Go.Proofs.Ytiiljdglbfgdbaa.SpanEv
def mapI (p : It) : Int × ByteArray := (lowN p.f0, p.f1)
structure Sim (s : Int) (k : Nat) (x : RS) (y : RR) : Prop where
  r : x.r = lowN y.R
  h : x.h = lowN y.H
  mr : x.mr = lowN y.MR
  win : x.win = y.W
  w : 1 ≤ y.W ∧ y.W ≤ 64
  s0 : 0 ≤ s ∧ s < 16777216
  rs : s ≤ y.R
  rh : y.R ≤ y.H
  hm : y.H ≤ y.MR
  cred : y.MR + y.inb.length ≤ y.R + y.W
  top : y.MR ≤ s + 64 + 64 * k
  buf : x.buf = y.buf.map mapI
  bin : ∀ p ∈ y.buf, y.R < p.f0 ∧ p.f0 < y.H
  bnd : (y.buf.map (·.f0)).Nodup
  inb : x.inb = y.inb
  gap : ∃ gs : List (Int × Int), y.gaps = gs.map (fun g => [g.1, g.2]) ∧ x.gaps = gs.map (fun g => ⟨lowN g.1, lowN g.2⟩) ∧ ∀ g ∈ gs, s ≤ g.1 ∧ g.1 < g.2 ∧ g.2 ≤ y.H
  gl : y.gaps.length ≤ 8
theorem low_inj {a b : Int} (h : lowN a = lowN b) (h1 : a - b < 16777216) (h2 : b - a < 16777216) : a = b := by unfold lowN at h; omega
theorem to_low (a b : Int) : toN (lowN a) (lowN b) = toN a b := by unfold toN lowN; omega
theorem to_fwd {a b : Int} (h : a ≤ b) (h2 : b < a + 16777216) : toN a b = b - a := by unfold toN; omega
theorem low_range (a : Int) : 0 ≤ lowN a ∧ lowN a < 16777216 := by unfold lowN; omega
theorem nodup_len : ∀ (n : Nat) (R : Int) (l : List Int), l.Nodup → (∀ a ∈ l, R < a ∧ a ≤ R + n) → l.length ≤ n
  | 0, R, l, _, h => by
    cases l with
    | nil => exact Nat.le_refl _
    | cons a l => have := h a (.head _); omega
  | n + 1, R, l, hn, h => by
    have h1 := nodup_len n R (l.erase (R + ((n + 1 : Nat) : Int))) (hn.erase _) (fun a ha => by
      have h2 := (List.Nodup.mem_erase_iff hn).1 ha
      have h3 := h a h2.2
      exact ⟨h3.1, by have := h2.1; omega⟩)
    rw [List.length_erase] at h1
    split at h1 <;> omega
theorem Sim.bufl {s : Int} {k : Nat} {x : RS} {y : RR} (h : Sim s k x y) : (y.buf.length : Int) ≤ y.H - y.R ∧ y.H - y.R ≤ y.W - y.inb.length := by
  have h1 := nodup_len (y.H - y.R).toNat y.R (y.buf.map (·.f0)) h.bnd (fun a ha => by
    obtain ⟨p, hp, rfl⟩ := List.mem_map.1 ha
    have := h.bin p hp
    omega)
  rw [List.length_map] at h1
  have h2 := h.rh
  have h3 := h.hm
  have h4 := h.cred
  omega
theorem Sim.ok {s : Int} {k : Nat} {x : RS} {y : RR} (h : Sim s k x y) : x.Ok := by
  have h1 := h.bufl
  have h2 := h.w
  have h3 := h.cred
  have h4 := h.rh
  refine ⟨by rw [h.r]; exact low_range _, by rw [h.h]; exact low_range _, by rw [h.mr]; exact low_range _, by rw [h.win]; exact h2, by rw [h.buf, List.length_map]; omega, by rw [h.inb]; omega, ?_⟩
  obtain ⟨gs, g1, g2, _⟩ := h.gap
  have := h.gl
  rw [g1, List.length_map] at this
  rw [g2, List.length_map]
  exact this
theorem Sim.okR {s : Int} {k : Nat} {x : RS} {y : RR} (h : Sim s k x y) (hk : k ≤ 1000) : y.Ok := by
  have h1 := h.bufl
  have h2 := h.w
  have h3 := h.cred
  have h4 := h.rh
  have h5 := h.hm
  have h6 := h.top
  have h7 := h.s0
  have h8 := h.rs
  exact ⟨by omega, by omega, by omega, h2, by omega, by omega, h.gl⟩
theorem Sim.span {s : Int} {k : Nat} {x : RS} {y : RR} (h : Sim s k x y) : y.MR ≤ y.R + 64 := by
  have := h.cred; have := h.w; omega
theorem Sim.more {s : Int} {k k2 : Nat} {x : RS} {y : RR} (h : Sim s k x y) (hk : k ≤ k2) : Sim s k2 x y :=
  ⟨h.r, h.h, h.mr, h.win, h.w, h.s0, h.rs, h.rh, h.hm, h.cred, by have := h.top; omega, h.buf, h.bin, h.bnd, h.inb, h.gap, h.gl⟩
theorem Sim.glen {s : Int} {k : Nat} {x : RS} {y : RR} (h : Sim s k x y) : x.gaps.length = y.gaps.length := by
  obtain ⟨gs, g1, g2, _⟩ := h.gap
  rw [g1, g2, List.length_map, List.length_map]
/-- New. -/
theorem Sim.new (start window : Int) : Sim (lowN start) 0 (newF (lowN start) window) ⟨lowN start, lowN start, lowN start + max 1 (min window 64), max 1 (min window 64), [], [], []⟩ := by
  have h0 := low_range start
  have e : lowN (lowN start) = lowN start := by unfold lowN; omega
  refine ⟨rfl, rfl, ?_, rfl, by show 1 ≤ max 1 (min window 64) ∧ max 1 (min window 64) ≤ 64; omega, h0, Int.le_refl _, Int.le_refl _, by show lowN start ≤ lowN start + max 1 (min window 64); omega, by simp, by show lowN start + max 1 (min window 64) ≤ _; omega, rfl, (fun _ h => by cases h), List.Pairwise.nil, rfl, ⟨[], rfl, rfl, (fun _ h => by cases h)⟩, Nat.zero_le _⟩
  show addN (lowN (lowN start)) _ = lowN _
  unfold addN
  rw [e]
  rfl
/-! ### The kept ones -/
theorem blook_map (R : Int) : ∀ (b : List It) (n : Int), (∀ p ∈ b, p.f0 - n < 16777216 ∧ n - p.f0 < 16777216) → (blook (b.map mapI) (lowN n)) = (b.find? fun p => p.f0 == n).map (·.f1)
  | [], n, _ => rfl
  | p :: b, n, h => by
    have ih := blook_map R b n (fun q hq => h q (.tail _ hq))
    unfold blook at ih ⊢
    rw [List.map_cons, List.find?_cons, List.find?_cons]
    have hp := h p (.head _)
    by_cases e : p.f0 = n
    · rw [show ((mapI p).1 == lowN n) = true by unfold mapI; rw [e]; exact beq_iff_eq.2 rfl, show (p.f0 == n) = true from beq_iff_eq.2 e]
      rfl
    · rw [show ((mapI p).1 == lowN n) = false from beq_eq_false_iff_ne.2 (fun e2 => e (low_inj e2 hp.1 hp.2)), show (p.f0 == n) = false from beq_eq_false_iff_ne.2 e]
      exact ih
theorem bdel_map : ∀ (b : List It) (n : Int), (∀ p ∈ b, p.f0 - n < 16777216 ∧ n - p.f0 < 16777216) → bdel (b.map mapI) (lowN n) = (b.filter fun p => !(p.f0 == n)).map mapI
  | [], n, _ => rfl
  | p :: b, n, h => by
    have ih := bdel_map b n (fun q hq => h q (.tail _ hq))
    unfold bdel at ih ⊢
    rw [List.map_cons, List.filter_cons, List.filter_cons]
    have hp := h p (.head _)
    by_cases e : p.f0 = n
    · rw [show ((mapI p).1 == lowN n) = true by unfold mapI; rw [e]; exact beq_iff_eq.2 rfl, show (p.f0 == n) = true from beq_iff_eq.2 e]
      exact ih
    · rw [show ((mapI p).1 == lowN n) = false from beq_eq_false_iff_ne.2 (fun e2 => e (low_inj e2 hp.1 hp.2)), show (p.f0 == n) = false from beq_eq_false_iff_ne.2 e]
      simp only [Bool.not_false, if_true, List.map_cons]
      rw [ih]
theorem has_map : ∀ (b : List It) (n : Int), hasR b n = ((b.find? fun p => p.f0 == n).map (·.f1)).isSome
  | [], n => rfl
  | p :: b, n => by
    have ih := has_map b n
    unfold hasR at ih ⊢
    rw [List.any_cons, List.find?_cons]
    cases hq : (p.f0 == n) with
    | true => rfl
    | false => simpa using ih
theorem scan_find (R : Int) : ∀ (b acc : List It), (b.map (·.f0)).Nodup → scanR R b none acc = ((b.find? fun p => p.f0 == R).map (·.f1), acc ++ b.filter fun p => !(p.f0 == R))
  | [], acc, _ => by simp [scanR]
  | p :: b, acc, hn => by
    rw [List.map_cons, List.nodup_cons] at hn
    unfold scanR
    rw [List.find?_cons, List.filter_cons]
    by_cases e : p.f0 = R
    · rw [if_pos ⟨rfl, e⟩, scanR_some, show (p.f0 == R) = true from beq_iff_eq.2 e]
      have hf : (b.filter fun p => !(p.f0 == R)) = b := by
        rw [List.filter_eq_self]
        intro q hq
        have : q.f0 ≠ R := fun e2 => hn.1 (List.mem_map.2 ⟨q, hq, by rw [e2, e]⟩)
        simp [this]
      simp [hf]
    · rw [if_neg (fun h => e h.2), scan_find R b (acc ++ [p]) hn.2, show (p.f0 == R) = false from beq_eq_false_iff_ne.2 e]
      simp
theorem run_sim (H : Int) : ∀ (k : Nat) (R : Int) (b : List It) (o : List ByteArray), b.length < k → R ≤ H → H ≤ R + 1000000 → (∀ p ∈ b, R ≤ p.f0 ∧ p.f0 < H) → (b.map (·.f0)).Nodup →
    runF k (b.map mapI) (lowN R) o = ((runR k R b o).2.1.map mapI, lowN (runR k R b o).1, (runR k R b o).2.2) ∧
    R ≤ (runR k R b o).1 ∧ (runR k R b o).1 ≤ H ∧ (((runR k R b o).2.2.length : Int) = o.length + ((runR k R b o).1 - R)) ∧ (∀ p ∈ (runR k R b o).2.1, (runR k R b o).1 < p.f0 ∧ p.f0 < H) ∧ ((runR k R b o).2.1.map (·.f0)).Nodup
  | 0, R, b, o, h, _, _, _, _ => absurd h (Nat.not_lt_zero _)
  | k + 1, R, b, o, hk, hRH, hH, hb, hn => by
    have hw : ∀ p ∈ b, p.f0 - R < 16777216 ∧ R - p.f0 < 16777216 := fun p hp => by have := hb p hp; omega
    have hs := scan_find R b [] hn
    have hl := blook_map R b R hw
    have hd := bdel_map b R hw
    rw [List.nil_append] at hs
    cases hf : (b.find? fun p => p.f0 == R) with
    | none =>
      rw [hf] at hs hl
      have hno : ∀ p ∈ b, p.f0 ≠ R := fun p hp e => by
        have := List.find?_eq_none.1 hf p hp
        simp [e] at this
      have hfl : (b.filter fun p => !(p.f0 == R)) = b := by
        rw [List.filter_eq_self]
        intro q hq
        simp [hno q hq]
      rw [hfl] at hs
      rw [runF_none hl, runR, hs]
      exact ⟨rfl, Int.le_refl _, hRH, by simp, fun p hp => by have h1 := hb p hp; have h2 := hno p hp; show R < p.f0 ∧ p.f0 < H; omega, hn⟩
    | some q =>
      rw [hf] at hs hl
      have hqm := List.mem_of_find?_eq_some hf
      have hqR : q.f0 = R := by simpa using List.find?_some hf
      have hq := hb q hqm
      rw [runF_some hl, hd, runR, hs]
      simp only [Option.map_some]
      have e1 : addN (lowN R) 1 = lowN (R + 1) := by unfold addN lowN; omega
      rw [e1]
      have hlen : (b.filter fun p => !(p.f0 == R)).length < b.length := List.length_filter_lt_length_iff_exists.2 ⟨q, hqm, by simp [hqR]⟩
      obtain ⟨j1, j2, j3, j4, j5, j6⟩ := run_sim H k (R + 1) (b.filter fun p => !(p.f0 == R)) (o ++ [q.f1]) (by omega) (by omega) (by omega) (fun p hp => by
        obtain ⟨h1, h2⟩ := List.mem_filter.1 hp
        have h3 := hb p h1
        have h4 : p.f0 ≠ R := by simpa using h2
        omega) ((List.filter_sublist.map _).nodup hn)
      refine ⟨j1, by omega, j3, ?_, j5, j6⟩
      rw [j4, List.length_append, List.length_singleton]
      push_cast
      omega
/-- A message. -/
theorem data_sim {s : Int} {k : Nat} {x : RS} {y : RR} (h : Sim s k x y) (n0 : Int) (hn0 : 0 ≤ n0 ∧ n0 < 16777216) (m : ByteArray) : Sim s k (dataF x n0 m).1 (dataR y n0 m).1 ∧ (dataF x n0 m).2 = (dataR y n0 m).2 ∧ (dataG { x with buf := bput x.buf (lowN n0) m } (lowN n0)).Ok := by
  have hr := h.rh
  have hm := h.hm
  have hsp := h.span
  have hb := h.bufl
  have hw := h.w
  have hc := h.cred
  obtain ⟨n, hn⟩ : ∃ n, y.R + toN y.R n0 = n := ⟨_, rfl⟩
  have hnl : lowN n0 = lowN n := by rw [← hn]; unfold lowN toN; omega
  have hnr : y.R ≤ n ∧ n < y.R + 16777216 := by rw [← hn]; unfold toN; omega
  have t1 : toN x.r (lowN n0) = n - y.R := by rw [h.r, hnl, to_low, to_fwd hnr.1 hnr.2]
  have t2 : toN x.r x.mr = y.MR - y.R := by rw [h.r, h.mr, to_low, to_fwd (by omega) (by omega)]
  have t3 : toN x.r x.h = y.H - y.R := by rw [h.r, h.h, to_low, to_fwd (by omega) (by omega)]
  have hok : (dataG { x with buf := bput x.buf (lowN n0) m } (lowN n0)).Ok := by
    have h1 := h.ok
    have h2 := bput_len x.buf (lowN n0) m
    have h3 : x.buf.length ≤ 64 := by rw [h.buf, List.length_map]; omega
    unfold dataG
    split
    · exact ⟨h1.r, h1.h, h1.mr, h1.win, by show (bput x.buf (lowN n0) m).length ≤ 1000000; omega, h1.inb, h1.gaps⟩
    · refine ⟨h1.r, by show 0 ≤ addN _ _ ∧ addN _ _ < _; unfold addN; omega, h1.mr, h1.win, by show (bput x.buf (lowN n0) m).length ≤ 1000000; omega, h1.inb, ?_⟩
      have := h1.gaps
      simp only
      split
      · rename_i hq
        have := hq.2
        rw [List.length_append, List.length_singleton]
        omega
      · exact h1.gaps
  by_cases hrej : n ≥ y.MR ∨ hasR y.buf n = true
  · have e2 : dataR y n0 m = (y, []) := by unfold dataR; rw [hn, if_pos hrej]
    have e1 : dataF x n0 m = (x, []) := by
      unfold dataF
      rw [if_pos]
      by_cases hge : n ≥ y.MR
      · right
        rw [t1, t2]
        omega
      · left
        rw [h.buf, hnl, blook_map 0 y.buf n (fun p hp => by have := h.bin p hp; omega), ← has_map]
        exact hrej.resolve_left hge
    rw [e1, e2]
    exact ⟨h, rfl, hok⟩
  · have hlt : n < y.MR := by
      apply Int.not_le.1
      exact fun e => hrej (Or.inl e)
    have hno : hasR y.buf n = false := by
      cases hq : hasR y.buf n with
      | true => exact absurd (Or.inr hq) hrej
      | false => rfl
    have hbl : blook x.buf (lowN n) = none := by
      rw [h.buf, blook_map 0 y.buf n (fun p hp => by have := h.bin p hp; omega)]
      rw [has_map] at hno
      cases hq : ((y.buf.find? fun p => p.f0 == n).map (·.f1)) with
      | none => rfl
      | some v => rw [hq] at hno; cases hno
    have hnb : ∀ p ∈ y.buf, p.f0 ≠ n := fun p hp e => by
      unfold hasR at hno
      rw [List.any_eq_false] at hno
      exact hno p hp (by simp [e])
    have e2 : dataR y n0 m = pullR (keepR y n m) := by unfold dataR; rw [hn, if_neg hrej]
    have e1 : dataF x n0 m = deliverF (dataG { x with buf := bput x.buf (lowN n) m } (lowN n)) := by
      unfold dataF
      rw [hnl] at t1 ⊢
      rw [if_neg]
      rw [hbl, t1, t2]
      rintro (q | q)
      · cases q
      · exact q (by omega)
    have hput : bput x.buf (lowN n) m = (y.buf ++ [(⟨n, m⟩ : It)]).map mapI := by
      unfold bput
      have hq : (x.buf.any fun p => p.1 == lowN n) = false := by
        unfold blook at hbl
        rw [Option.map_eq_none_iff, List.find?_eq_none] at hbl
        rw [List.any_eq_false]
        exact hbl
      rw [hq, if_neg (by simp), List.map_append, h.buf]
      rfl
    -- behind the keeping
    obtain ⟨gs, g1, g2, g3⟩ := h.gap
    have hgl := h.gl
    have hK : ∃ gs : List (Int × Int), (keepR y n m).gaps = gs.map (fun g => [g.1, g.2]) ∧ (dataG { x with buf := bput x.buf (lowN n) m } (lowN n)).gaps = gs.map (fun g => ⟨lowN g.1, lowN g.2⟩) ∧ (∀ g ∈ gs, s ≤ g.1 ∧ g.1 < g.2 ∧ g.2 ≤ (keepR y n m).H) ∧ (keepR y n m).gaps.length ≤ 8 := by
      rw [hnl] at t1
      unfold dataG keepR
      simp only
      rw [t1, t3]
      by_cases hin : n < y.H
      · rw [if_neg (show ¬ (n > y.H ∧ y.gaps.length < 8) from fun e => by have := e.1; omega), if_pos (show n - y.R < y.H - y.R by omega)]
        exact ⟨gs, g1, g2, fun g hg => by have := g3 g hg; show s ≤ g.1 ∧ g.1 < g.2 ∧ g.2 ≤ max y.H (n + 1); omega, hgl⟩
      · rw [if_neg (show ¬ n - y.R < y.H - y.R by omega)]
        simp only
        have hne : (lowN n ≠ x.h ∧ x.gaps.length < 8) ↔ (n > y.H ∧ y.gaps.length < 8) := by
          rw [h.glen, h.h]
          constructor
          · rintro ⟨q1, q2⟩
            exact ⟨by have : n ≠ y.H := fun e => q1 (by rw [e]); omega, q2⟩
          · rintro ⟨q1, q2⟩
            exact ⟨fun e => by have := low_inj e (by omega) (by omega); omega, q2⟩
        by_cases hq : n > y.H ∧ y.gaps.length < 8
        · rw [if_pos hq, if_pos (hne.2 hq)]
          refine ⟨gs ++ [(y.H, n)], by rw [g1]; simp, by rw [g2, h.h]; simp, fun g hg => ?_, by rw [List.length_append, List.length_singleton]; omega⟩
          show s ≤ g.1 ∧ g.1 < g.2 ∧ g.2 ≤ max y.H (n + 1)
          rcases List.mem_append.1 hg with hg | hg
          · have := g3 g hg; omega
          · rw [List.mem_singleton] at hg
            subst hg
            have := h.rs
            simp only
            omega
        · rw [if_neg hq, if_neg (fun e => hq (hne.1 e))]
          exact ⟨gs, g1, g2, fun g hg => by have := g3 g hg; show s ≤ g.1 ∧ g.1 < g.2 ∧ g.2 ≤ max y.H (n + 1); omega, hgl⟩
    have hGr : (dataG { x with buf := bput x.buf (lowN n) m } (lowN n)).r = lowN y.R ∧ (dataG { x with buf := bput x.buf (lowN n) m } (lowN n)).mr = lowN y.MR ∧ (dataG { x with buf := bput x.buf (lowN n) m } (lowN n)).win = y.W ∧ (dataG { x with buf := bput x.buf (lowN n) m } (lowN n)).buf = (y.buf ++ [(⟨n, m⟩ : It)]).map mapI ∧ (dataG { x with buf := bput x.buf (lowN n) m } (lowN n)).inb = y.inb ∧ (dataG { x with buf := bput x.buf (lowN n) m } (lowN n)).h = lowN (max y.H (n + 1)) := by
      rw [hnl] at t1
      unfold dataG
      simp only
      rw [t1, t3]
      split
      · exact ⟨h.r, h.mr, h.win, hput, h.inb, by rw [Int.max_eq_left (by omega)]; exact h.h⟩
      · exact ⟨h.r, h.mr, h.win, hput, h.inb, by rw [Int.max_eq_right (by omega)]; show addN (lowN n) 1 = _; unfold addN lowN; omega⟩
    generalize dataG { x with buf := bput x.buf (lowN n) m } (lowN n) = z at hK hGr e1
    obtain ⟨z1, z2, z3, z4, z5, z6⟩ := hGr
    obtain ⟨gs2, k1, k2, k3, k4⟩ := hK
    have hrun := run_sim (max y.H (n + 1)) ((y.buf ++ [(⟨n, m⟩ : It)]).length + 1) y.R (y.buf ++ [(⟨n, m⟩ : It)]) [] (Nat.lt_succ_self _) (by omega) (by omega) (fun p hp => by
      rcases List.mem_append.1 hp with hp | hp
      · have := h.bin p hp; omega
      · rw [List.mem_singleton] at hp
        subst hp
        simp only
        omega) (by
      rw [List.map_append, List.nodup_append]
      refine ⟨h.bnd, List.pairwise_singleton _ _, ?_⟩
      intro a ha b hb2
      obtain ⟨p, hp, rfl⟩ := List.mem_map.1 ha
      simp only [List.map_cons, List.map_nil, List.mem_singleton] at hb2
      rw [hb2]
      exact hnb p hp)
    have hf : (keepR y n m).buf = y.buf ++ [(⟨n, m⟩ : It)] := rfl
    have hfR : (keepR y n m).R = y.R := rfl
    rw [e1, e2]
    unfold deliverF pullR
    rw [hf, hfR, z4, z1]
    simp only [List.length_map]
    obtain ⟨q1, q2, q3, q4, q5, q6⟩ := hrun
    rw [q1]
    generalize runR ((y.buf ++ [(⟨n, m⟩ : It)]).length + 1) y.R (y.buf ++ [(⟨n, m⟩ : It)]) [] = t at q1 q2 q3 q4 q5 q6
    simp only [List.length_nil] at q4
    have hrs := h.rs
    refine ⟨⟨rfl, z6, z2, z3, hw, h.s0, by show s ≤ t.1; omega, q3, by show max y.H (n + 1) ≤ y.MR; omega, ?_, h.top, rfl, q5, q6, by show z.inb ++ t.2.2 = y.inb ++ t.2.2; rw [z5], ⟨gs2, k1, k2, k3⟩, k4⟩, rfl, hok⟩
    show y.MR + ((y.inb ++ t.2.2).length : Int) ≤ t.1 + y.W
    rw [List.length_append]
    push_cast
    omega
/-- A poll. -/
theorem poll_sim {s : Int} {k : Nat} {x : RS} {y : RR} (h : Sim s k x y) (n0 : Int) (hn0 : 0 ≤ n0 ∧ n0 < 16777216) : Sim s k (pollF x n0).1 (pollR y n0).1 ∧ (((pollF x n0).2 = 0 ∧ (pollR y n0).2 = true) ∨ ((pollF x n0).2 = 11 ∧ (pollR y n0).2 = false)) := by
  have hr := h.rh
  have hm := h.hm
  have hsp := h.span
  obtain ⟨n, hn⟩ : ∃ n, y.R + toN y.R n0 = n := ⟨_, rfl⟩
  have hnl : n0 = lowN n := by rw [← hn]; unfold lowN toN; omega
  have hnr : y.R ≤ n ∧ n < y.R + 16777216 := by rw [← hn]; unfold toN; omega
  have t1 : toN x.r n0 = n - y.R := by rw [h.r, hnl, to_low, to_fwd hnr.1 hnr.2]
  have t2 : toN x.r x.mr = y.MR - y.R := by rw [h.r, h.mr, to_low, to_fwd (by omega) (by omega)]
  have t3 : toN x.r x.h = y.H - y.R := by rw [h.r, h.h, to_low, to_fwd (by omega) (by omega)]
  unfold pollF pollR
  rw [t1, t2, t3, hn]
  by_cases hc : n < y.H ∨ n > y.MR
  · rw [if_pos hc, if_pos (by omega)]
    exact ⟨h, Or.inr ⟨rfl, rfl⟩⟩
  · rw [if_neg hc, if_neg (by omega)]
    refine ⟨⟨h.r, by show lowN n0 = lowN n; rw [hnl]; unfold lowN; omega, h.mr, h.win, h.w, h.s0, h.rs, by show y.R ≤ n; omega, by show n ≤ y.MR; omega, h.cred, h.top, h.buf, fun p hp => by have := h.bin p hp; show y.R < p.f0 ∧ p.f0 < n; omega, h.bnd, h.inb, ?_, h.gl⟩, Or.inl ⟨rfl, rfl⟩⟩
    obtain ⟨gs, g1, g2, g3⟩ := h.gap
    exact ⟨gs, g1, g2, fun g hg => by have := g3 g hg; show s ≤ g.1 ∧ g.1 < g.2 ∧ g.2 ≤ n; omega⟩
/-- The credit. -/
theorem renew_sim {s : Int} {k : Nat} {x : RS} {y : RR} (h : Sim s k x y) : Sim s (k + 1) (renewF x) (renewR y) := by
  have hr := h.rh
  have hm := h.hm
  have hsp := h.span
  have hc := h.cred
  have hw := h.w
  have ht := h.top
  have hil : x.inb.length = y.inb.length := by rw [h.inb]
  have e1 : (renewF x).mr = lowN (max y.MR (y.R + y.W - y.inb.length)) := by
    show maxN x.r x.mr (addN x.r (x.win - x.inb.length)) = _
    have a1 : addN x.r (x.win - x.inb.length) = lowN (y.R + y.W - y.inb.length) := by rw [h.r, h.win, hil]; unfold addN lowN; omega
    have t2 : toN x.r x.mr = y.MR - y.R := by rw [h.r, h.mr, to_low, to_fwd (by omega) (by omega)]
    have t3 : toN x.r (addN x.r (x.win - x.inb.length)) = y.W - y.inb.length := by rw [a1, h.r, to_low, to_fwd (by omega) (by omega)]; omega
    unfold maxN
    rw [t2, t3, a1, h.mr]
    have hll : ∀ a, lowN (lowN a) = lowN a := fun a => by unfold lowN; omega
    by_cases hq : y.MR - y.R ≥ y.W - y.inb.length
    · rw [if_pos hq, hll, Int.max_eq_left (by omega)]
    · rw [if_neg hq, hll, Int.max_eq_right (by omega)]
  exact ⟨h.r, h.h, e1, h.win, h.w, h.s0, h.rs, h.rh, by show y.H ≤ max y.MR (y.R + y.W - y.inb.length); omega, by show max y.MR (y.R + y.W - y.inb.length) + (y.inb.length : Int) ≤ y.R + y.W; omega, by show max y.MR (y.R + y.W - y.inb.length) ≤ _; push_cast; omega, h.buf, h.bin, h.bnd, h.inb, h.gap, h.gl⟩
/-- What is taken. -/
theorem take_sim {s : Int} {k : Nat} {x : RS} {y : RR} (h : Sim s k x y) (n : Int) : Sim s k (takeF x n).1 { y with inb := y.inb.drop (max 0 (min n y.inb.length)).toNat } ∧ (takeF x n).2 = y.inb.take (max 0 (min n y.inb.length)).toNat := by
  unfold takeF
  rw [h.inb]
  refine ⟨⟨h.r, h.h, h.mr, h.win, h.w, h.s0, h.rs, h.rh, h.hm, ?_, h.top, h.buf, h.bin, h.bnd, rfl, h.gap, h.gl⟩, rfl⟩
  have := h.cred
  show y.MR + ((y.inb.drop _).length : Int) ≤ y.R + y.W
  rw [List.length_drop]
  omega
end Go.Proofs.Ytiiljdglbfgdbaa.Rcv
/-! Gap and the named numbers, of a receiver and the document's: plain theory. -/
namespace Go.Proofs.Ytiiljdglbfgdbaa.Rcv
open Go Go.RowKit Go.Proofs.YtiiljdglbfgdbaaW.PrintWords Go.Proofs.Ytiiljdglbfgdbaa Go.Proofs.Ytiiljdglbfgdbaa.Sl Go.Proofs.Ytiiljdglbfgdbaa.S Go.Proofs.Ytiiljdglbfgdbaa.SpanTh Go.Proofs.Ytiiljdglbfgdbaa.SpanEv
abbrev Spn := S105
theorem norm1x {i j : Int} (h : i < j) : Norm [(⟨i, j⟩ : S105)] := by
  refine ⟨fun y hy => ?_, List.pairwise_singleton _ _⟩
  rw [List.mem_singleton] at hy
  subst hy
  exact h
theorem cutHx {i j : Int} (h : i < j) (h0 : 0 ≤ i) (h1 : j ≤ 64) : cutH [(⟨i, j⟩ : S105)] = [⟨i, j⟩] := by
  have hs : Small [(⟨i, j⟩ : S105)] := fun y hy => by
    rw [List.mem_singleton] at hy
    subst hy
    simp only [mostL]
    omega
  have hc := cutH_spec hs
  refine norm_ext hc.1 (norm1x h) (fun n => ?_)
  rw [hc.2.2.1, mem_one]
  show (i ≤ n ∧ n < j) ∧ 0 ≤ n ∧ n < 8388609 ↔ i ≤ n ∧ n < j
  omega
/-- The missing ones up to so many. -/
def missN (y : RR) (N : Nat) : List Int := ((List.range N).map fun i : Nat => y.R + (i : Int)).filter fun n => !hasR y.buf n
theorem missN_succ (y : RR) (N : Nat) : missN y (N + 1) = missN y N ++ (if hasR y.buf (y.R + N) = true then [] else [y.R + N]) := by
  unfold missN
  rw [List.range_succ, List.map_append, List.filter_append]
  congr 1
  simp only [List.map_cons, List.map_nil, List.filter_cons, List.filter_nil]
  cases hasR y.buf (y.R + N) <;> rfl
theorem foldN_succ (y : RR) (g0 g1 : Int) (N : Nat) : gapFold g0 g1 (missN y (N + 1)) (-1, -1) = if hasR y.buf (y.R + N) = true then gapFold g0 g1 (missN y N) (-1, -1) else gapStep g0 g1 (gapFold g0 g1 (missN y N) (-1, -1)) (y.R + N) := by
  rw [missN_succ]
  unfold gapFold
  rw [List.foldl_append]
  split <;> rfl
theorem has_mem (b : List It) (n : Int) : hasR b n = true ↔ ∃ p ∈ b, p.f0 = n := by
  unfold hasR
  rw [List.any_eq_true]
  exact ⟨fun ⟨p, h1, h2⟩ => ⟨p, h1, by simpa using h2⟩, fun ⟨p, h1, h2⟩ => ⟨p, h1, by simpa using h2⟩⟩
theorem fold_none {y : RR} {g0 g1 : Int} (h : ∀ i : Nat, (i : Int) < y.H - y.R → hasR y.buf (y.R + i) = true ∨ ¬ (g0 ≤ y.R + i ∧ y.R + i < g1)) : ∀ N : Nat, (N : Int) ≤ y.H - y.R → gapFold g0 g1 (missN y N) (-1, -1) = (-1, -1)
  | 0, _ => rfl
  | N + 1, hN => by
    rw [foldN_succ, fold_none h N (by omega)]
    split
    · rfl
    · rename_i hq
      have := (h N (by omega)).resolve_left hq
      unfold gapStep
      rw [if_neg (fun e => this ⟨e.1.1, e.1.2⟩)]
theorem fold_some {y : RR} {g0 g1 a b : Int} (hR : 0 ≤ y.R) (ha : 0 ≤ a) (hab : a < b) (hlow : ∀ i : Nat, (i : Int) < a → hasR y.buf (y.R + i) = true ∨ ¬ (g0 ≤ y.R + i ∧ y.R + i < g1)) (hin : ∀ i : Nat, a ≤ (i : Int) → (i : Int) < b → hasR y.buf (y.R + i) = false ∧ g0 ≤ y.R + i ∧ y.R + i < g1) (hout : ∀ i : Nat, (i : Int) = b → (i : Int) < y.H - y.R → hasR y.buf (y.R + i) = true ∨ ¬ (g0 ≤ y.R + i ∧ y.R + i < g1)) :
    ∀ N : Nat, (N : Int) ≤ y.H - y.R → gapFold g0 g1 (missN y N) (-1, -1) = if (N : Int) ≤ a then (-1, -1) else (y.R + a, y.R + min (N : Int) b)
  | 0, _ => by rw [if_pos (by simpa using ha)]; rfl
  | N + 1, hN => by
    have ih := fold_some hR ha hab hlow hin hout N (by omega)
    have c1 : ((N : Nat) : Int) ≤ a → (if ((N : Nat) : Int) ≤ a then ((-1, -1) : Int × Int) else (y.R + a, y.R + min (N : Int) b)) = (-1, -1) := fun e => if_pos e
    have c2 : ¬ ((N : Nat) : Int) ≤ a → (if ((N : Nat) : Int) ≤ a then ((-1, -1) : Int × Int) else (y.R + a, y.R + min (N : Int) b)) = (y.R + a, y.R + min (N : Int) b) := fun e => if_neg e
    have d1 : (((N + 1 : Nat)) : Int) ≤ a → (if (((N + 1 : Nat)) : Int) ≤ a then ((-1, -1) : Int × Int) else (y.R + a, y.R + min (((N + 1 : Nat)) : Int) b)) = (-1, -1) := fun e => if_pos e
    have d2 : ¬ (((N + 1 : Nat)) : Int) ≤ a → (if (((N + 1 : Nat)) : Int) ≤ a then ((-1, -1) : Int × Int) else (y.R + a, y.R + min (((N + 1 : Nat)) : Int) b)) = (y.R + a, y.R + min (((N + 1 : Nat)) : Int) b) := fun e => if_neg e
    rw [foldN_succ, ih]
    by_cases h1 : (N : Int) < a
    · rw [c1 (by omega), d1 (by push_cast; omega)]
      split
      · rfl
      · rename_i hq
        have := (hlow N h1).resolve_left hq
        unfold gapStep
        rw [if_neg (fun e => this ⟨e.1.1, e.1.2⟩)]
    · by_cases h2 : (N : Int) = a
      · have h3 := hin N (by omega) (by omega)
        rw [c1 (by omega), d2 (by push_cast; omega), h3.1, if_neg (by simp)]
        unfold gapStep
        rw [if_pos ⟨⟨h3.2.1, h3.2.2⟩, Or.inl (by decide)⟩, if_pos (by decide)]
        simp only [Prod.mk.injEq]
        push_cast
        omega
      · rw [c2 (by omega), d2 (by push_cast; omega)]
        by_cases h4 : (N : Int) < b
        · have h3 := hin N (by omega) h4
          rw [h3.1, if_neg (by simp)]
          unfold gapStep
          simp only
          rw [if_pos ⟨⟨h3.2.1, h3.2.2⟩, Or.inr (by omega)⟩, if_neg (by omega)]
          simp only [Prod.mk.injEq, true_and]
          push_cast
          omega
        · have e : min (((N + 1 : Nat) : Int)) b = min (N : Int) b := by push_cast; omega
          rw [e]
          split
          · rfl
          · rename_i hq
            unfold gapStep
            simp only
            rw [if_neg]
            rintro ⟨q1, q2⟩
            rcases q2 with q2 | q2
            · omega
            · have hb : (N : Int) = b := by omega
              exact (hout N hb (by omega)).elim hq (fun q => q ⟨q1.1, q1.2⟩)
/-- What is still missing of a gap. -/
theorem still_mem {s : Int} {k : Nat} {x : RS} {y : RR} (h : Sim s k x y) (hk : k ≤ 1000) {g0 g1 : Int} (hg : s ≤ g0 ∧ g0 < g1 ∧ g1 ≤ y.H) {t : List Spn} (ht : StillR x ⟨lowN g0, lowN g1⟩ t) (i : Int) : Mem i t ↔ (0 ≤ i ∧ i < y.H - y.R) ∧ hasR y.buf (y.R + i) = false ∧ g0 ≤ y.R + i ∧ y.R + i < g1 := by
  have hr := h.rh
  have hm := h.hm
  have hsp := h.span
  have htop := h.top
  have hs0 := h.s0
  have hrs := h.rs
  have hsp2 := h.w
  have t3 : toN x.r x.h = y.H - y.R := by rw [h.r, h.h, to_low, to_fwd (by omega) (by omega)]
  have t4 : toN (lowN g0) (lowN g1) = g1 - g0 := by rw [to_low, to_fwd (by omega) (by omega)]
  have hp : (∀ p ∈ x.buf, toN x.r p.1 ≠ i) ↔ ((0 ≤ i ∧ i < y.H - y.R) → hasR y.buf (y.R + i) = false) ∨ ¬ (0 ≤ i ∧ i < y.H - y.R) := by
    by_cases hi : 0 ≤ i ∧ i < y.H - y.R
    · rw [h.buf]
      constructor
      · intro q
        left
        intro _
        cases hq : hasR y.buf (y.R + i) with
        | false => rfl
        | true =>
          obtain ⟨p, p1, p2⟩ := (has_mem _ _).1 hq
          have := q (mapI p) (List.mem_map.2 ⟨p, p1, rfl⟩)
          exact absurd (by show toN x.r (lowN p.f0) = i; rw [h.r, to_low, p2, to_fwd (by omega) (by omega)]; omega) this
      · rintro (q | q)
        · intro p hp e
          obtain ⟨p2, p1, rfl⟩ := List.mem_map.1 hp
          have hb := h.bin p2 p1
          have e2 : toN x.r (lowN p2.f0) = i := e
          rw [h.r, to_low, to_fwd (by omega) (by omega)] at e2
          have := (has_mem y.buf (y.R + i)).2 ⟨p2, p1, by omega⟩
          rw [q hi] at this
          cases this
        · exact absurd hi q
    · refine ⟨fun _ => Or.inr hi, fun _ p hp e => hi ?_⟩
      rw [h.buf] at hp
      obtain ⟨p2, p1, rfl⟩ := List.mem_map.1 hp
      have hb := h.bin p2 p1
      have e2 : toN x.r (lowN p2.f0) = i := e
      rw [h.r, to_low, to_fwd (by omega) (by omega)] at e2
      omega
  rw [ht.2.2 i]
  simp only
  rw [t3, t4, hp]
  by_cases hg1 : y.R ≤ g1
  · have t5 : toN x.r (lowN g1) = g1 - y.R := by rw [h.r, to_low, to_fwd (by omega) (by omega)]
    rw [t5]
    constructor
    · rintro ⟨q1, q2, q3, q4, q5⟩
      refine ⟨q2, ?_, by omega, by omega⟩
      rcases q3 with q3 | q3
      · exact q3 q2
      · exact absurd q2 q3
    · rintro ⟨q2, q3, q4, q5⟩
      exact ⟨by omega, q2, Or.inl (fun _ => q3), by omega, by omega⟩
  · have t5 : toN x.r (lowN g1) = 16777216 - (y.R - g1) := by rw [h.r, to_low]; unfold toN; omega
    rw [t5]
    constructor
    · rintro ⟨q1, _⟩
      omega
    · rintro ⟨q2, q3, q4, q5⟩
      omega
theorem fold_nil {s : Int} {k : Nat} {x : RS} {y : RR} (h : Sim s k x y) (hk : k ≤ 1000) {g0 g1 : Int} (hg : s ≤ g0 ∧ g0 < g1 ∧ g1 ≤ y.H) (ht : StillR x ⟨lowN g0, lowN g1⟩ []) : gapFold g0 g1 (missR y) (-1, -1) = (-1, -1) := by
  refine fold_none (fun i hi => ?_) (y.H - y.R).toNat (by have := h.rh; omega)
  by_cases hb : hasR y.buf (y.R + i) = true
  · exact Or.inl hb
  · right
    intro e
    have := (still_mem h hk hg ht i).2 ⟨⟨Int.natCast_nonneg _, hi⟩, by simpa using hb, e.1, e.2⟩
    obtain ⟨x, hx, _⟩ := this
    cases hx
theorem fold_cons {s : Int} {k : Nat} {x : RS} {y : RR} (h : Sim s k x y) (hk : k ≤ 1000) {g0 g1 : Int} (hg : s ≤ g0 ∧ g0 < g1 ∧ g1 ≤ y.H) {s0 : Spn} {t : List Spn} (ht : StillR x ⟨lowN g0, lowN g1⟩ (s0 :: t)) :
    (0 ≤ s0.f0 ∧ s0.f0 < s0.f1 ∧ s0.f1 ≤ y.H - y.R) ∧ gapFold g0 g1 (missR y) (-1, -1) = (y.R + s0.f0, y.R + s0.f1) := by
  have hN := ht.1
  have h01 := hN.1 s0 (.head _)
  have hm := still_mem h hk hg ht
  have hmem : ∀ i, s0.f0 ≤ i → i < s0.f1 → Mem i (s0 :: t) := fun i h1 h2 => ⟨s0, .head _, h1, h2⟩
  have hlater : ∀ z ∈ t, s0.f1 < z.f0 := (List.pairwise_cons.1 hN.2).1
  have hnot : ∀ i, i < s0.f0 ∨ i = s0.f1 → ¬ Mem i (s0 :: t) := fun i hi hM => by
    obtain ⟨z, hz, z1, z2⟩ := hM
    rcases List.mem_cons.1 hz with rfl | hz
    · omega
    · have := hlater z hz
      omega
  have a0 := (hm s0.f0).1 (hmem _ (Int.le_refl _) h01)
  have a1 := (hm (s0.f1 - 1)).1 (hmem _ (by omega) (by omega))
  have hrs := h.rs
  have hs0 := h.s0
  refine ⟨⟨a0.1.1, h01, by omega⟩, ?_⟩
  have key := fold_some (y := y) (g0 := g0) (g1 := g1) (a := s0.f0) (b := s0.f1) (by omega) a0.1.1 h01 (fun i hi => ?_) (fun i h1 h2 => ?_) (fun i h1 h2 => ?_) (y.H - y.R).toNat (by omega)
  · rw [if_neg (by omega)] at key
    show gapFold g0 g1 (missN y (y.H - y.R).toNat) (-1, -1) = _
    rw [key]
    simp only [Prod.mk.injEq, true_and]
    omega
  · by_cases hb : hasR y.buf (y.R + i) = true
    · exact Or.inl hb
    · right
      intro e
      exact hnot i (Or.inl hi) ((hm i).2 ⟨⟨Int.natCast_nonneg _, by omega⟩, by simpa using hb, e.1, e.2⟩)
  · exact ((hm i).1 (hmem i h1 h2)).2
  · by_cases hb : hasR y.buf (y.R + i) = true
    · exact Or.inl hb
    · right
      intro e
      exact hnot i (Or.inr h1) ((hm i).2 ⟨⟨Int.natCast_nonneg _, h2⟩, by simpa using hb, e.1, e.2⟩)
theorem gapGo_skip (y : RR) : ∀ (pre : List (List Int)) (rest : List (List Int)), (∀ g ∈ pre, gapFold (g.getD 0 0) (g.getD 1 0) (missR y) (-1, -1) = (-1, -1)) → gapGo y (pre ++ rest) = gapGo y rest
  | [], rest, _ => rfl
  | g :: pre, rest, h => by
    rw [List.cons_append, gapGo, h g (.head _), if_neg (by decide)]
    exact gapGo_skip y pre rest (fun g hg => h g (.tail _ hg))
theorem Sim.cut {s : Int} {k : Nat} {x : RS} {y : RR} (h : Sim s k x y) {gs : List (Int × Int)} (hg : ∀ g ∈ gs, s ≤ g.1 ∧ g.1 < g.2 ∧ g.2 ≤ y.H) (hl : gs.length ≤ 8) : Sim s k { x with gaps := gs.map (fun g => ⟨lowN g.1, lowN g.2⟩) } { y with gaps := gs.map (fun g => [g.1, g.2]) } :=
  ⟨h.r, h.h, h.mr, h.win, h.w, h.s0, h.rs, h.rh, h.hm, h.cred, h.top, h.buf, h.bin, h.bnd, h.inb, ⟨gs, rfl, rfl, hg⟩, by show (gs.map _).length ≤ 8; rw [List.length_map]; exact hl⟩
theorem gap_none {s : Int} {k : Nat} {x : RS} {y : RR} (h : Sim s k x y) (hk : k ≤ 1000) (hn : ∀ g ∈ x.gaps, StillR x g []) : gapR y = ({ y with gaps := [] }, 0, 0, false) ∧ Sim s k { x with gaps := [] } { y with gaps := [] } := by
  obtain ⟨gs, g1, g2, g3⟩ := h.gap
  refine ⟨?_, h.cut (gs := []) (fun _ h => by cases h) (Nat.zero_le _)⟩
  unfold gapR
  rw [g1]
  have := gapGo_skip y (gs.map fun g => [g.1, g.2]) [] (fun g hg => by
    obtain ⟨q, hq, rfl⟩ := List.mem_map.1 hg
    exact fold_nil h hk (g3 q hq) (hn ⟨lowN q.1, lowN q.2⟩ (by rw [g2]; exact List.mem_map.2 ⟨q, hq, rfl⟩)))
  rw [List.append_nil] at this
  rw [this]
  rfl
theorem gap_some {s : Int} {k : Nat} {x : RS} {y : RR} (h : Sim s k x y) (hk : k ≤ 1000) {pre post : List Gp} {g : Gp} {s0 : Spn} {t : List Spn} (he : x.gaps = pre ++ g :: post) (hp : ∀ g ∈ pre, StillR x g []) (hS : StillR x g (s0 :: t)) :
    ∃ y', gapR y = (renewR y', y.R + s0.f0, y.R + s0.f1, true) ∧ (0 ≤ s0.f0 ∧ s0.f0 < s0.f1 ∧ s0.f1 ≤ y.H - y.R) ∧ y'.R = y.R ∧ Sim s k { x with gaps := post } y' := by
  obtain ⟨gs, g1, g2, g3⟩ := h.gap
  rw [g2] at he
  obtain ⟨gs1, gs2, e1, e2, e3⟩ := List.map_eq_append_iff.1 he
  cases gs2 with
  | nil => cases e3
  | cons q gs2 =>
    rw [List.map_cons] at e3
    injection e3 with e4 e5
    subst e1
    subst e2
    have hq := g3 q (List.mem_append_right _ (.head _))
    rw [← e4] at hS
    obtain ⟨h1, h2⟩ := fold_cons h hk hq hS
    refine ⟨{ y with gaps := gs2.map (fun g => [g.1, g.2]) }, ?_, h1, rfl, ?_⟩
    · unfold gapR
      rw [g1, List.map_append, gapGo_skip y (gs1.map fun g => [g.1, g.2]) _ (fun g hg => by
        obtain ⟨q, hq, rfl⟩ := List.mem_map.1 hg
        exact fold_nil h hk (g3 q (List.mem_append_left _ hq)) (hp ⟨lowN q.1, lowN q.2⟩ (List.mem_map.2 ⟨q, hq, rfl⟩)))]
      rw [List.map_cons, gapGo]
      show (if (gapFold q.1 q.2 (missR y) (-1, -1)).1 ≥ 0 then _ else _) = _
      rw [show gapFold ([q.1, q.2].getD 0 0) ([q.1, q.2].getD 1 0) (missR y) (-1, -1) = (y.R + s0.f0, y.R + s0.f1) from h2, h2, if_pos (by have := h.rs; have := h.s0; show y.R + s0.f0 ≥ 0; omega)]
    · rw [← e5]
      have hl := h.gl
      rw [g1, List.length_map, List.length_append, List.length_cons] at hl
      exact h.cut (gs := gs2) (fun g hg => g3 g (List.mem_append_right _ (.tail _ hg))) (by omega)
/-- The list that is told. -/
theorem told_pairs {y : RR} {s0 : Spn} (hh : y.H - y.R ≤ 64) (h : 0 ≤ s0.f0 ∧ s0.f0 < s0.f1 ∧ s0.f1 ≤ y.H - y.R) : pairsOf (lowN y.R) (cutH [s0]) = [lowN (y.R + s0.f0), lowN (y.R + s0.f1)] := by
  rw [show s0 = (⟨s0.f0, s0.f1⟩ : Spn) from rfl, cutHx h.2.1 h.1 (by omega)]
  show [gM (lowN y.R) s0.f0, gM (lowN y.R) s0.f1] = _
  unfold gM lowN
  rw [show (y.R % 16777216 + s0.f0) % 16777216 = (y.R + s0.f0) % 16777216 by omega, show (y.R % 16777216 + s0.f1) % 16777216 = (y.R + s0.f1) % 16777216 by omega]
end Go.Proofs.Ytiiljdglbfgdbaa.Rcv
/-! The numbers that a status names: plain theory. -/
namespace Go.Proofs.Ytiiljdglbfgdbaa.Rcv
open Go Go.RowKit Go.Proofs.YtiiljdglbfgdbaaW.PrintWords Go.Proofs.Ytiiljdglbfgdbaa Go.Proofs.Ytiiljdglbfgdbaa.Sl Go.Proofs.Ytiiljdglbfgdbaa.S Go.Proofs.Ytiiljdglbfgdbaa.SpanTh Go.Proofs.Ytiiljdglbfgdbaa.SpanEv
theorem nameL_run (R c : Int) : ∀ (d : Nat) (i : Int) (acc : List Int), 0 ≤ c + i → c + i + d ≤ 1000 → acc.length ≤ 1000 → (∀ v ∈ acc, ∃ j : Int, 0 ≤ j ∧ j < c + i ∧ v = lowN (R + j)) → (acc.length : Int) ≤ c + i →
    gaps_Named.nameL (lowN (R + c)) d i acc = acc ++ (run (c + i) d).map (fun j => lowN (R + j))
  | 0, i, acc, _, _, _, _, _ => by simp [gaps_Named.nameL, run]
  | d + 1, i, acc, h0, h1, h2, h3, h4 => by
    have e : (lowN (R + c) + i) % 16777216 = lowN (R + (c + i)) := by unfold lowN; omega
    have hn : ¬ lowN (R + (c + i)) ∈ acc := fun hm => by
      obtain ⟨j, j1, j2, j3⟩ := h3 _ hm
      have := low_inj j3 (by omega) (by omega)
      omega
    rw [gaps_Named.nameL, if_pos (by omega), e, if_neg hn, run, List.map_cons]
    rw [nameL_run R c d (i + 1) (acc ++ [lowN (R + (c + i))]) (by omega) (by omega) (by rw [List.length_append, List.length_singleton]; omega) (fun v hv => by
      rcases List.mem_append.1 hv with hv | hv
      · obtain ⟨j, j1, j2, j3⟩ := h3 v hv
        exact ⟨j, j1, by omega, j3⟩
      · rw [List.mem_singleton] at hv
        exact ⟨c + i, h0, by omega, hv⟩) (by rw [List.length_append, List.length_singleton]; push_cast; omega)]
    rw [show c + (i + 1) = c + i + 1 by omega]
    simp
theorem pairs_run (R : Int) : ∀ (t : List Spn) (acc : List Int) (b : Int), 0 ≤ b → (∀ z ∈ t, b ≤ z.f0 ∧ z.f0 < z.f1 ∧ z.f1 ≤ 64) → t.Pairwise (fun x y => x.f1 < y.f0) → (acc.length : Int) ≤ b → b ≤ 64 → (∀ v ∈ acc, ∃ j : Int, 0 ≤ j ∧ j < b ∧ v = lowN (R + j)) →
    gaps_pairs.pairsL (fun s a n => gaps_Named.nameL a n.toNat 0 s) (pairsOf (lowN R) t) acc = acc ++ (listL t).map (fun j => lowN (R + j))
  | [], acc, b, _, _, _, _, _, _ => by simp [pairsOf, listL, gaps_pairs.pairsL]
  | z :: t, acc, b, h0, h1, h2, h3, hb, h4 => by
    obtain ⟨p1, p2⟩ := List.pairwise_cons.1 h2
    have hz := h1 z (.head _)
    have e0 : pairsOf (lowN R) (z :: t) = gM (lowN R) z.f0 :: gM (lowN R) z.f1 :: pairsOf (lowN R) t := by unfold pairsOf; rw [List.flatMap_cons]; rfl
    have e1 : gaps_pairs.tov (gM (lowN R) z.f0) (gM (lowN R) z.f1) = z.f1 - z.f0 := by unfold gaps_pairs.tov gM lowN; omega
    have e2 : gM (lowN R) z.f0 % 16777216 = lowN (R + z.f0) := by unfold gM lowN; omega
    have el : listL (z :: t) = runS z ++ listL t := by unfold listL; rw [List.flatMap_cons]
    rw [e0, gaps_pairs.pairsL, e1, if_pos (by omega), e2]
    have hr := nameL_run R z.f0 (z.f1 - z.f0).toNat 0 acc (by omega) (by omega) (by omega) (fun v hv => by
      obtain ⟨j, j1, j2, j3⟩ := h4 v hv
      exact ⟨j, j1, by omega, j3⟩) (by omega)
    rw [hr, Int.add_zero]
    have hlen : ((run z.f0 (z.f1 - z.f0).toNat).map (fun j => lowN (R + j))).length = (z.f1 - z.f0).toNat := by rw [List.length_map, len_run]
    have := pairs_run R t (acc ++ (run z.f0 (z.f1 - z.f0).toNat).map (fun j => lowN (R + j))) z.f1 (by omega) (fun q hq => by have h5 := p1 q hq; have h6 := h1 q (.tail _ hq); omega) p2 (by rw [List.length_append, hlen]; push_cast; omega) hz.2.2 (fun v hv => by
      rcases List.mem_append.1 hv with hv | hv
      · obtain ⟨j, j1, j2, j3⟩ := h4 v hv
        exact ⟨j, j1, by omega, j3⟩
      · obtain ⟨j, j1, j2⟩ := List.mem_map.1 hv
        have := (mem_run j _ _).1 j1
        exact ⟨j, by omega, by omega, j2.symm⟩)
    rw [this, el, List.map_append, List.append_assoc]
    rfl
theorem miss_rise (y : RR) : Rise (missR y) := by
  unfold missR Rise
  refine List.Pairwise.filter _ ?_
  rw [List.pairwise_map]
  exact List.Pairwise.imp (fun {a b} h => by omega) List.pairwise_lt_range
theorem miss_mem (y : RR) (n : Int) : n ∈ missR y ↔ (y.R ≤ n ∧ n < y.H) ∧ hasR y.buf n = false := by
  unfold missR
  rw [List.mem_filter, List.mem_map]
  constructor
  · rintro ⟨⟨i, h1, rfl⟩, h2⟩
    have := List.mem_range.1 h1
    exact ⟨by omega, by simpa using h2⟩
  · rintro ⟨h1, h2⟩
    exact ⟨⟨(n - y.R).toNat, List.mem_range.2 (by omega), by omega⟩, by simpa using h2⟩
theorem miss_spans {s : Int} {k : Nat} {x : RS} {y : RR} (h : Sim s k x y) {t : List Spn} (ht : Miss x t) : cutH t = t ∧ (∀ z ∈ t, 0 ≤ z.f0 ∧ z.f0 < z.f1 ∧ z.f1 ≤ 64) ∧ missR y = (listL t).map (fun j => y.R + j) := by
  have hr := h.rh
  have hm := h.hm
  have hsp := h.span
  have t3 : toN x.r x.h = y.H - y.R := by rw [h.r, h.h, to_low, to_fwd (by omega) (by omega)]
  have hmem : ∀ i, Mem i t ↔ (0 ≤ i ∧ i < y.H - y.R) ∧ hasR y.buf (y.R + i) = false := fun i => by
    rw [ht.2.2 i, t3]
    constructor
    · rintro ⟨q1, q2⟩
      refine ⟨q1, ?_⟩
      cases hq : hasR y.buf (y.R + i) with
      | false => rfl
      | true =>
        obtain ⟨p, p1, p2⟩ := (has_mem _ _).1 hq
        refine absurd ?_ (q2 (mapI p) (by rw [h.buf]; exact List.mem_map.2 ⟨p, p1, rfl⟩))
        show toN x.r (lowN p.f0) = i
        rw [h.r, to_low, p2, to_fwd (by omega) (by omega)]
        omega
    · rintro ⟨q1, q2⟩
      refine ⟨q1, fun p hp e => ?_⟩
      rw [h.buf] at hp
      obtain ⟨p2, p1, rfl⟩ := List.mem_map.1 hp
      have hb := h.bin p2 p1
      have e2 : toN x.r (lowN p2.f0) = i := e
      rw [h.r, to_low, to_fwd (by omega) (by omega)] at e2
      have := (has_mem y.buf (y.R + i)).2 ⟨p2, p1, by omega⟩
      rw [q2] at this
      cases this
  have hz : ∀ z ∈ t, 0 ≤ z.f0 ∧ z.f0 < z.f1 ∧ z.f1 ≤ 64 := fun z hz => by
    have h1 := ht.1.1 z hz
    have h2 := (hmem z.f0).1 ⟨z, hz, Int.le_refl _, h1⟩
    have h3 := (hmem (z.f1 - 1)).1 ⟨z, hz, by omega, by omega⟩
    omega
  refine ⟨?_, hz, ?_⟩
  · have hc := cutH_spec ht.2.1
    refine norm_ext hc.1 ht.1 (fun n => ?_)
    rw [hc.2.2.1]
    refine ⟨fun q => q.1, fun q => ⟨q, ?_⟩⟩
    obtain ⟨z, z1, z2, z3⟩ := q
    have := hz z z1
    omega
  · refine rise_ext (miss_rise y) ?_ (fun n => ?_)
    · unfold Rise
      rw [List.pairwise_map]
      exact List.Pairwise.imp (fun {a b} h => by omega) (rise_listL ht.1)
    · rw [miss_mem, List.mem_map]
      constructor
      · rintro ⟨q1, q2⟩
        exact ⟨n - y.R, (mem_listL t _).2 ((hmem _).2 ⟨by omega, by rw [show y.R + (n - y.R) = n by omega]; exact q2⟩), by omega⟩
      · rintro ⟨j, j1, rfl⟩
        have := (hmem j).1 ((mem_listL t j).1 j1)
        exact ⟨by omega, this.2⟩
theorem rd_map_low (L : List Int) (i : Nat) (hi : i < L.length) : rd (L.map lowN) (i : Int) = lowN (rd L (i : Int)) := by
  unfold rd
  rw [Int.toNat_natCast, List.getD_eq_getElem?_getD, List.getD_eq_getElem?_getD, List.getElem?_map, List.getElem?_eq_getElem hi]
  rfl
theorem named_l0 (L : List Int) (hL : ∀ n ∈ L, 0 ≤ n ∧ n ≤ 1000000000) (hl : L.length ≤ 1000000) : ∀ (k i : Nat), i ≤ L.length → L.length < k + i → polliwoglaw12_named.l0 k (L.map lowN) L (L.length : Int) (i : Int) = some true
  | 0, i, h1, h2 => absurd h2 (by omega)
  | k + 1, i, h1, h2 => by
    unfold polliwoglaw12_named.l0
    by_cases hi : i < L.length
    · have hm : rd L (i : Int) ∈ L := by
        unfold rd
        rw [Int.toNat_natCast, List.getD_eq_getElem?_getD, List.getElem?_eq_getElem hi]
        exact List.getElem_mem hi
      have hr := low_range (rd L (i : Int))
      have hv := hL _ hm
      rw [if_pos (by omega), if_pos (by omega), if_pos (by omega), if_pos (by rw [List.length_map]; omega), rd_map_low L i hi, of12_f _ _ (by omega) (by omega)]
      simp only [Option.bind_some, BEq.rfl, if_true]
      rw [show wrap64 ((i : Int) + 1) = ((i + 1 : Nat) : Int) by unfold wrap64; omega]
      exact named_l0 L hL hl k (i + 1) (by omega) (by omega)
    · rw [if_neg (by omega)]
theorem named_f {s : Int} {k : Nat} {x : RS} {y : RR} (h : Sim s k x y) (hk : k ≤ 1000) {t : List Spn} (ht : Miss x t) : polliwoglaw12_named.f 100 (pairsOf x.r (cutH t)) (missR y) = some true := by
  obtain ⟨h1, h2, h3⟩ := miss_spans h ht
  have hok := h.okR hk
  rw [h1, h.r]
  have hp := pairs_run y.R t [] 0 (by decide) (fun z hz => h2 z hz) ht.1.2 (by simp) (by decide) (fun v hv => by cases hv)
  rw [List.nil_append] at hp
  have hlen : (listL t).length ≤ 64 := by
    have := rise_len (listL t) 0 64 (rise_listL ht.1) (fun n hn => by
      obtain ⟨z, z1, z2, z3⟩ := (mem_listL t n).1 hn
      have := h2 z z1
      omega)
    omega
  have hpl : (pairsOf (lowN y.R) t).length < 1073741824 := by
    have h5 : ∀ t : List Spn, (∀ z ∈ t, z.f0 < z.f1) → (pairsOf (lowN y.R) t).length ≤ 2 * (listL t).length := by
      intro t
      induction t with
      | nil => intro _; exact Nat.le_refl _
      | cons z t ih =>
        intro hz
        have h6 := ih (fun q hq => hz q (.tail _ hq))
        have h7 := hz z (.head _)
        have el : listL (z :: t) = runS z ++ listL t := by unfold listL; rw [List.flatMap_cons]
        have ep : pairsOf (lowN y.R) (z :: t) = gM (lowN y.R) z.f0 :: gM (lowN y.R) z.f1 :: pairsOf (lowN y.R) t := by unfold pairsOf; rw [List.flatMap_cons]; rfl
        rw [el, ep, List.length_append]
        have : (runS z).length = (z.f1 - z.f0).toNat := len_run _ _
        simp only [List.length_cons]
        omega
    have := h5 t (fun z hz => (h2 z hz).2.1)
    omega
  unfold polliwoglaw12_named.f gaps_Named.f
  rw [if_pos (Or.inl rfl), if_pos hpl, hp]
  simp only [Option.bind_some]
  have e : (listL t).map (fun j => lowN (y.R + j)) = (missR y).map lowN := by rw [h3, List.map_map]; rfl
  rw [e, if_pos (by rw [List.length_map])]
  refine named_l0 (missR y) (fun n hn => ?_) (by rw [h3, List.length_map]; omega) 100 0 (Nat.zero_le _) (by rw [h3, List.length_map]; omega)
  have := (miss_mem y n).1 hn
  have := hok.R
  have := hok.H
  omega
end Go.Proofs.Ytiiljdglbfgdbaa.Rcv
