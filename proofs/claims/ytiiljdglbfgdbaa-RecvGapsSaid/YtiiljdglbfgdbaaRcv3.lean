/- RecvCredit: the receiver's states there. -/
import Derived.Test.YtiiljdglbfgdbaaRcv2
import Derived.Test.YtiiljdglbfgdbaaS0
set_option linter.unusedVariables false
set_option linter.unusedSimpArgs false
/-! RecvCredit: the receiver's states there. -/
namespace Go.Proofs.Ytiiljdglbfgdbaa.Rcv
open Go Go.RowKit Go.Proofs.YtiiljdglbfgdbaaW.PrintWords Go.Proofs.YtiiljdglbfgdbaaW.PrintLast Go.Proofs.YtiiljdglbfgdbaaW.PrintMore Go.Proofs.Ytiiljdglbfgdbaa Go.Proofs.Ytiiljdglbfgdbaa.Sl Go.Proofs.Ytiiljdglbfgdbaa.S Go.Proofs.Ytiiljdglbfgdbaa.SpanTh Go.Proofs.Ytiiljdglbfgdbaa.SpanEv
def st (s wn nx : Int) (inb : List ByteArray) (mr : Int) : RS := ⟨addN s nx, addN s nx, mr, wn, [], inb, []⟩
structure Gd (s wn nx : Int) (inb : List ByteArray) (mr : Int) : Prop where
  win : 1 ≤ wn ∧ wn ≤ 64
  top : 0 ≤ mr ∧ mr < 16777216
  room : toN (addN s nx) mr + inb.length ≤ wn
theorem addN_range (s n : Int) : 0 ≤ addN s n ∧ addN s n < 16777216 := by unfold addN; omega
theorem toN_range (s n : Int) : 0 ≤ toN s n ∧ toN s n < 16777216 := by unfold toN; omega
theorem Gd.ok {s wn nx mr : Int} {inb : List ByteArray} (h : Gd s wn nx inb mr) : (st s wn nx inb mr).Ok := by
  have h1 := h.room
  have h2 := (toN_range (addN s nx) mr).1
  have h3 := h.win.2
  exact ⟨addN_range _ _, addN_range _ _, h.top, h.win, Nat.zero_le _, by show inb.length ≤ 1000000; omega, Nat.zero_le _⟩
theorem newS {w0 W : World} {l : List As} (HS : SL w0 W l) (a0 a1 : Int) : Calls Try.prog 11 #[.int .u32 (lowN a0), .int .i64 a1] W fun e w' => ∃ b mr, e = .returned (.pointer (some ⟨b, 0, none⟩)) ∧ Gd (lowN a0) (max 1 (min a1 64)) 0 [] mr ∧ SL w0 w' (RecvA b (st (lowN a0) (max 1 (min a1 64)) 0 [] mr) :: l) := by
  have e2 : 1 ≤ max 1 (min a1 64) ∧ max 1 (min a1 64) ≤ 64 := by omega
  refine (new_c HS (lowN a0) a1).mono ?_
  rintro e w' ⟨b, rfl, hs⟩
  have e3 : newF (lowN a0) a1 = st (lowN a0) (max 1 (min a1 64)) 0 [] (addN (lowN a0) (max 1 (min a1 64))) := by
    unfold newF st
    have e4 : lowN (lowN a0) = addN (lowN a0) 0 := by unfold lowN addN; omega
    have e5 : addN (lowN (lowN a0)) (max 1 (min a1 64)) = addN (lowN a0) (max 1 (min a1 64)) := by unfold lowN addN; omega
    rw [e5, e4]
  rw [e3] at hs
  exact ⟨b, _, rfl, ⟨e2, addN_range _ _, by simp only [List.length_nil, toN, addN]; omega⟩, hs⟩
theorem statS {w0 W : World} {l : List As} {b : Nat} {s wn nx mr : Int} {inb : List ByteArray} (h : Gd s wn nx inb mr) (HS : SL w0 W (RecvA b (st s wn nx inb mr) :: l)) :
    Calls Try.prog 22 #[.pointer (some ⟨b, 0, none⟩)] W fun e w' => ∃ v mr', e = .returned (.tuple #[v, .int .u32 (addN s nx), .int .u32 mr']) ∧ toN (addN s nx) mr' = wn - inb.length ∧ Gd s wn nx inb mr' ∧ SL w0 w' (RecvA b (st s wn nx inb mr') :: l) := by
  refine (stat_c h.ok (by show toN (addN s nx) (addN s nx) ≤ 64; unfold toN; omega) HS).mono ?_
  rintro e w' ⟨v, t, rfl, _, hs⟩
  have h1 := h.room
  have h2 := h.win
  have h3 := h.top
  have hm : (renewF (st s wn nx inb mr)).mr = maxN (addN s nx) mr (addN (addN s nx) (wn - inb.length)) := rfl
  have hr : toN (addN s nx) (maxN (addN s nx) mr (addN (addN s nx) (wn - inb.length))) = wn - inb.length := by
    unfold maxN
    have := (toN_range (addN s nx) mr).1
    split <;> (simp only [toN, addN, lowN] at *; omega)
  refine ⟨v, _, rfl, by rw [hm]; exact hr, ⟨h2, ?_, ?_⟩, SL.tail hs⟩
  · rw [hm]; unfold maxN; split <;> (unfold lowN; omega)
  · rw [hm, hr]; omega
theorem dataF1 {s wn nx mr : Int} {inb : List ByteArray} (m : ByteArray) (h : 0 < toN (addN s nx) mr) :
    dataG { st s wn nx inb mr with buf := bput (st s wn nx inb mr).buf (lowN (addN s nx)) m } (lowN (addN s nx)) = ⟨addN s nx, addN s (nx + 1), mr, wn, [(addN s nx, m)], inb, []⟩ ∧
    dataF (st s wn nx inb mr) (addN s nx) m = (st s wn (nx + 1) (inb ++ [m]) mr, [m]) := by
  have e0 : lowN (addN s nx) = addN s nx := by unfold lowN addN; omega
  have e1 : toN (addN s nx) (addN s nx) = 0 := by unfold toN; omega
  have e2 : addN (addN s nx) 1 = addN s (nx + 1) := by unfold addN; omega
  have hG : dataG { st s wn nx inb mr with buf := bput (st s wn nx inb mr).buf (lowN (addN s nx)) m } (lowN (addN s nx)) = ⟨addN s nx, addN s (nx + 1), mr, wn, [(addN s nx, m)], inb, []⟩ := by
    rw [e0]
    unfold dataG
    simp [st, bput, e1, e2]
  refine ⟨hG, ?_⟩
  unfold dataF
  rw [if_neg ?_, hG]
  · unfold deliverF
    have b1 : blook [(addN s nx, m)] (addN s nx) = some m := by simp [blook]
    have b2 : bdel [(addN s nx, m)] (addN s nx) = [] := by simp [bdel]
    have b3 : ∀ r, blook [] r = none := fun r => rfl
    simp only [List.length_cons, List.length_nil]
    rw [runF_some b1, b2, runF_none (b3 _), e2]
    rfl
  · rw [e0]
    simp [st, blook, e1, h]
theorem dataS1 {w0 W : World} {l : List As} {b : Nat} {s wn nx mr : Int} {inb : List ByteArray} (h : Gd s wn nx inb mr) (hp : 0 < toN (addN s nx) mr) (m : ByteArray) (HS : SL w0 W (RecvA b (st s wn nx inb mr) :: l)) :
    Calls Try.prog 13 #[.pointer (some ⟨b, 0, none⟩), .int .u32 (addN s nx), .string m] W fun e w' => ∃ A c, e = .returned (.slice A 1 c) ∧ Gd s wn (nx + 1) (inb ++ [m]) mr ∧ toN (addN s (nx + 1)) mr = toN (addN s nx) mr - 1 ∧ SL w0 w' (RecvA b (st s wn (nx + 1) (inb ++ [m]) mr) :: l) := by
  have h1 := h.room
  have h2 := h.win
  have h3 := h.top
  have ht : toN (addN s (nx + 1)) mr = toN (addN s nx) mr - 1 := by simp only [toN, addN] at *; omega
  refine (data_c HS (addN s nx) m ?_).mono ?_
  · rw [(dataF1 m hp).1]
    exact ⟨addN_range _ _, addN_range _ _, h3, h2, (show (1 : Nat) ≤ 1000000 by decide), by show inb.length ≤ 1000000; omega, Nat.zero_le _⟩
  · rintro e w' ⟨v, rfl, hs⟩
    rw [(dataF1 m hp).2] at hs
    obtain ⟨A, c, rfl, _⟩ := SL.form hs (.head _)
    refine ⟨A, c, rfl, ⟨h2, h3, ?_⟩, ht, SL.tail hs⟩
    rw [ht, List.length_append, List.length_singleton]
    omega
theorem dataS0 {w0 W : World} {l : List As} {b : Nat} {s wn nx mr : Int} {inb : List ByteArray} (h : Gd s wn nx inb mr) (hp : toN (addN s nx) mr = 0) (m : ByteArray) (HS : SL w0 W (RecvA b (st s wn nx inb mr) :: l)) :
    Calls Try.prog 13 #[.pointer (some ⟨b, 0, none⟩), .int .u32 (addN s nx), .string m] W fun e w' => ∃ A c, e = .returned (.slice A 0 c) ∧ SL w0 w' (RecvA b (st s wn nx inb mr) :: l) := by
  have h1 := h.room
  have h2 := h.win
  have h3 := h.top
  have e0 : lowN (addN s nx) = addN s nx := by unfold lowN addN; omega
  have e1 : toN (addN s nx) (addN s nx) = 0 := by unfold toN; omega
  have hF : dataF (st s wn nx inb mr) (addN s nx) m = (st s wn nx inb mr, []) := by
    unfold dataF
    rw [if_pos]
    right
    rw [e0]
    show ¬ toN (addN s nx) (addN s nx) < toN (addN s nx) mr
    omega
  refine (data_c HS (addN s nx) m ?_).mono ?_
  · have e2 : addN (addN s nx) 1 = addN s (nx + 1) := by unfold addN; omega
    have hG : dataG { st s wn nx inb mr with buf := bput (st s wn nx inb mr).buf (lowN (addN s nx)) m } (lowN (addN s nx)) = ⟨addN s nx, addN s (nx + 1), mr, wn, [(addN s nx, m)], inb, []⟩ := by
      rw [e0]
      unfold dataG
      simp [st, bput, e1, e2]
    rw [hG]
    exact ⟨addN_range _ _, addN_range _ _, h3, h2, (show (1 : Nat) ≤ 1000000 by decide), by show inb.length ≤ 1000000; omega, Nat.zero_le _⟩
  · rintro e w' ⟨v, rfl, hs⟩
    rw [hF] at hs
    obtain ⟨A, c, rfl, _⟩ := SL.form hs (.head _)
    exact ⟨A, c, rfl, SL.tail hs⟩
theorem takeS {w0 W : World} {l : List As} {b : Nat} {s wn nx mr : Int} {inb : List ByteArray} (h : Gd s wn nx inb mr) (n : Int) (HS : SL w0 W (RecvA b (st s wn nx inb mr) :: l)) :
    Calls Try.prog 21 #[.pointer (some ⟨b, 0, none⟩), .int .i64 n] W fun e w' => ∃ A c k inb', e = .returned (.slice A k c) ∧ k + inb'.length = inb.length ∧ Gd s wn nx inb' mr ∧ SL w0 w' (RecvA b (st s wn nx inb' mr) :: l) := by
  refine (take_c h.ok.inb HS n).mono ?_
  rintro e w' ⟨v, rfl, hs⟩
  obtain ⟨A, c, rfl, _⟩ := SL.form hs (.head _)
  have h1 := h.room
  have h2 : (takeF (st s wn nx inb mr) n).2.length + (inb.drop (max 0 (min n inb.length)).toNat).length = inb.length := by
    show (inb.take (max 0 (min n inb.length)).toNat).length + (inb.drop (max 0 (min n inb.length)).toNat).length = inb.length
    rw [List.length_take, List.length_drop]
    omega
  refine ⟨A, c, _, inb.drop (max 0 (min n inb.length)).toNat, rfl, h2, ⟨h.win, h.top, by omega⟩, SL.tail hs⟩
theorem varsS {w0 W : World} {l : List As} {b : Nat} {s wn nx mr : Int} {inb : List ByteArray} (HS : SL w0 W (RecvA b (st s wn nx inb mr) :: l)) :
    Calls Try.prog 16 #[.pointer (some ⟨b, 0, none⟩)] W fun e w' => e = .returned (.agg #[.int .u32 (addN s nx), .int .u32 (addN s nx), .int .u32 mr, .int .i64 0, .int .i64 inb.length, .int .i64 0]) ∧ SL w0 w' (RecvA b (st s wn nx inb mr) :: l) := vars_c HS
end Go.Proofs.Ytiiljdglbfgdbaa.Rcv
/-! RecvGaps: the receiver's states there. -/
namespace Go.Proofs.Ytiiljdglbfgdbaa.Rcv
open Go Go.RowKit Go.Proofs.YtiiljdglbfgdbaaW.PrintWords Go.Proofs.YtiiljdglbfgdbaaW.PrintLast Go.Proofs.YtiiljdglbfgdbaaW.PrintMore Go.Proofs.Ytiiljdglbfgdbaa Go.Proofs.Ytiiljdglbfgdbaa.Sl Go.Proofs.Ytiiljdglbfgdbaa.S Go.Proofs.Ytiiljdglbfgdbaa.SpanTh Go.Proofs.Ytiiljdglbfgdbaa.SpanEv
/-- Of a receiver that began at s with a window of 64 and from which nothing is taken: a are delivered, b is behind the highest. -/
structure GS (s : Int) (a b c : Nat) (x : RS) : Prop where
  r : x.r = addN s a
  h : x.h = addN s b
  ab : a ≤ b
  b64 : b ≤ 64
  win : x.win = 64
  inb : x.inb.length = a
  mr : x.mr = addN s 64
  buf : ∀ p ∈ x.buf, ∃ k : Nat, a ≤ k ∧ k < b ∧ p.1 = addN s k
  len : x.buf.length ≤ c
theorem addN_inj {s : Int} {i j : Nat} (hi : i ≤ 64) (hj : j ≤ 64) (h : addN s i = addN s j) : i = j := by unfold addN at h; omega
theorem toN_add {s : Int} {i j : Nat} (hij : i ≤ j) (hj : j ≤ 64) : toN (addN s i) (addN s j) = (j : Int) - i := by unfold toN addN; omega
theorem toN_back {s : Int} {i j : Nat} (hij : j < i) (hj : i ≤ 64) : toN (addN s i) (addN s j) = 16777216 - ((i : Int) - j) := by unfold toN addN; omega
theorem lowN_add (s n : Int) : lowN (addN s n) = addN s n := by unfold lowN addN; omega
theorem GS.ok {s : Int} {a b c : Nat} {x : RS} (h : GS s a b c x) (hc : c ≤ 1000) (hg : x.gaps.length ≤ 8) : x.Ok := by
  have h1 := h.len
  have h2 := h.inb
  have h3 := h.ab
  have h4 := h.b64
  exact ⟨by rw [h.r]; exact addN_range _ _, by rw [h.h]; exact addN_range _ _, by rw [h.mr]; exact addN_range _ _, by rw [h.win]; decide, by omega, by omega, hg⟩
theorem blook_mem {m : Buf} {x : Int} {v : ByteArray} (h : blook m x = some v) : ∃ p ∈ m, p.1 = x := by
  unfold blook at h
  obtain ⟨p, hp, _⟩ := Option.map_eq_some_iff.1 h
  exact ⟨p, List.mem_of_find?_eq_some hp, by simpa using List.find?_some hp⟩
theorem bdel_mem {m : Buf} {x : Int} {p : Int × ByteArray} (h : p ∈ bdel m x) : p ∈ m ∧ p.1 ≠ x := by
  unfold bdel at h
  have := List.mem_filter.1 h
  exact ⟨this.1, by simpa using this.2⟩
theorem bput_mem {m : Buf} {x : Int} {v : ByteArray} {p : Int × ByteArray} (h : p ∈ bput m x v) : p.1 = x ∨ p ∈ m := by
  unfold bput at h
  split at h
  · obtain ⟨q, hq, rfl⟩ := List.mem_map.1 h
    split
    · exact Or.inl rfl
    · exact Or.inr hq
  · rcases List.mem_append.1 h with h | h
    · exact Or.inr h
    · rw [List.mem_singleton] at h
      exact Or.inl (by rw [h])
theorem blook_none {m : Buf} {x : Int} (h : blook m x = none) : ∀ p ∈ m, p.1 ≠ x := by
  unfold blook at h
  rw [Option.map_eq_none_iff, List.find?_eq_none] at h
  intro p hp e
  exact h p hp (by simp [e])
theorem runF_gs {s : Int} {b : Nat} (hb : b ≤ 64) : ∀ (k : Nat) (m : Buf) (a : Nat) (out : List ByteArray), m.length < k → a ≤ b → (∀ p ∈ m, ∃ j : Nat, a ≤ j ∧ j < b ∧ p.1 = addN s j) →
    ∃ a', a ≤ a' ∧ a' ≤ b ∧ (runF k m (addN s a) out).2.1 = addN s a' ∧ (runF k m (addN s a) out).2.2.length + a = out.length + a' ∧ (runF k m (addN s a) out).1.length ≤ m.length ∧ (∀ p ∈ (runF k m (addN s a) out).1, ∃ j : Nat, a' ≤ j ∧ j < b ∧ p.1 = addN s j) ∧ ∀ p ∈ (runF k m (addN s a) out).1, p.1 ≠ addN s a'
  | 0, m, a, out, hk, hab, hm => absurd hk (Nat.not_lt_zero _)
  | k + 1, m, a, out, hk, hab, hm => by
    cases hl : blook m (addN s a) with
    | none =>
      rw [runF_none hl]
      exact ⟨a, Nat.le_refl _, hab, rfl, rfl, Nat.le_refl _, hm, blook_none hl⟩
    | some v =>
      rw [runF_some hl, show addN (addN s a) 1 = addN s ((a + 1 : Nat) : Int) by unfold addN; omega]
      obtain ⟨p, hp, e⟩ := blook_mem hl
      obtain ⟨j, h1, h2, h3⟩ := hm p hp
      have e2 := addN_inj (s := s) (i := j) (j := a) (by omega) (by omega) (by rw [← h3, e])
      subst e2
      have hlt := bdel_len hl
      obtain ⟨a', q1, q2, q3, q4, q5, q6, q7⟩ := runF_gs hb k (bdel m (addN s j)) (j + 1) (out ++ [v]) (by omega) h2 (fun p hp => by
        obtain ⟨g1, g2⟩ := bdel_mem hp
        obtain ⟨i, i1, i2, i3⟩ := hm p g1
        refine ⟨i, ?_, i2, i3⟩
        have : i ≠ j := fun e => g2 (by rw [i3, e])
        omega)
      refine ⟨a', by omega, q2, q3, ?_, by omega, q6, q7⟩
      rw [List.length_append, List.length_singleton] at q4
      omega
theorem deliver_gs {s : Int} {a b c : Nat} {x : RS} (h : GS s a b c x) : ∃ a', GS s a' b c (deliverF x).1 ∧ (∀ p ∈ (deliverF x).1.buf, p.1 ≠ addN s a') ∧ (deliverF x).1.gaps = x.gaps := by
  obtain ⟨a', h1, h2, h3, h4, h5, h6, h7⟩ := runF_gs h.b64 (x.buf.length + 1) x.buf a [] (Nat.lt_succ_self _) h.ab h.buf
  rw [← h.r] at h3 h4 h5 h6 h7
  refine ⟨a', ⟨h3, h.h, h2, h.b64, h.win, ?_, h.mr, h6, Nat.le_trans h5 h.len⟩, h7, rfl⟩
  show (x.inb ++ _).length = a'
  rw [List.length_append, h.inb]
  simp only [List.length_nil] at h4
  omega
/-- What a message does there. -/
theorem data_gs {s : Int} {a b c n : Nat} {x : RS} (h : GS s a b c x) (hs : ∀ p ∈ x.buf, p.1 ≠ addN s a) (hg : x.gaps = []) (hn : n ≤ 63) (m : ByteArray) :
    (∃ a' b', b ≤ b' ∧ n < b' ∧ GS s a' b' (c + 1) (dataF x (addN s n) m).1 ∧ (∀ p ∈ (dataF x (addN s n) m).1.buf, p.1 ≠ addN s a') ∧ (dataF x (addN s n) m).1.gaps = []) ∨
    (b < n ∧ GS s a (n + 1) (c + 1) (dataF x (addN s n) m).1 ∧ (∀ p ∈ (dataF x (addN s n) m).1.buf, p.1 ≠ addN s a) ∧ (dataF x (addN s n) m).1.gaps = [⟨addN s b, addN s n⟩] ∧ ∀ p ∈ (dataF x (addN s n) m).1.buf, p.1 = addN s n ∨ p ∈ x.buf) := by
  have hab := h.ab
  have hb := h.b64
  have h64 : toN x.r x.mr = 64 - a := by rw [h.r, h.mr]; exact toN_add (s := s) (i := a) (j := 64) (by omega) (Nat.le_refl _)
  have hrh : toN x.r x.h = (b : Int) - a := by rw [h.r, h.h]; exact toN_add hab hb
  unfold dataF
  rw [lowN_add]
  by_cases hold : (blook x.buf (addN s n)).isSome = true ∨ ¬ toN x.r (addN s n) < toN x.r x.mr
  · rw [if_pos hold]
    refine Or.inl ⟨a, b, Nat.le_refl _, ?_, ⟨h.r, h.h, h.ab, h.b64, h.win, h.inb, h.mr, h.buf, Nat.le_succ_of_le h.len⟩, hs, hg⟩
    rcases hold with ho | ho
    · obtain ⟨v, hv⟩ := Option.isSome_iff_exists.1 ho
      obtain ⟨p, hp, e⟩ := blook_mem hv
      obtain ⟨k, k1, k2, k3⟩ := h.buf p hp
      have := addN_inj (s := s) (i := k) (j := n) (by omega) (by omega) (by rw [← k3, e])
      omega
    · by_cases han : a ≤ n
      · rw [h64, h.r, toN_add (s := s) han (by omega)] at ho
        omega
      · omega
  · rw [if_neg hold]
    have hlt : toN x.r (addN s n) < 64 - a := by
      rw [← h64]
      exact Classical.not_not.1 (fun e => hold (Or.inr e))
    have han : a ≤ n := by
      apply Nat.le_of_not_lt
      intro hlt2
      rw [h.r, toN_back (s := s) hlt2 (by omega)] at hlt
      omega
    have hrn : toN x.r (addN s n) = (n : Int) - a := by rw [h.r]; exact toN_add han (by omega)
    have hlen := bput_len x.buf (addN s n) m
    have hl2 := h.len
    unfold dataG
    simp only
    rw [hrn, hrh]
    by_cases hin : n < b
    · rw [if_pos (by omega)]
      have hG : GS s a b (c + 1) { x with buf := bput x.buf (addN s n) m } := ⟨h.r, h.h, h.ab, h.b64, h.win, h.inb, h.mr, fun p hp => (bput_mem hp).elim (fun e => ⟨n, han, hin, e⟩) (h.buf p), by show (bput x.buf (addN s n) m).length ≤ c + 1; omega⟩
      obtain ⟨a', g1, g2, g3⟩ := deliver_gs hG
      exact Or.inl ⟨a', b, Nat.le_refl _, hin, g1, g2, g3.trans hg⟩
    · rw [if_neg (by omega), show addN (addN s n) 1 = addN s ((n + 1 : Nat) : Int) by unfold addN; omega]
      have hmem : ∀ p ∈ bput x.buf (addN s n) m, ∃ k : Nat, a ≤ k ∧ k < n + 1 ∧ p.1 = addN s k := fun p hp => (bput_mem hp).elim (fun e => ⟨n, han, Nat.lt_succ_self _, e⟩) (fun hp => by
        obtain ⟨k, k1, k2, k3⟩ := h.buf p hp
        exact ⟨k, k1, by omega, k3⟩)
      by_cases hnb : n = b
      · have e : ¬ (addN s n ≠ x.h ∧ x.gaps.length < 8) := fun e => e.1 (by rw [h.h, hnb])
        rw [if_neg e]
        have hG : GS s a (n + 1) (c + 1) { x with buf := bput x.buf (addN s n) m, gaps := x.gaps, h := addN s ((n + 1 : Nat) : Int) } := ⟨h.r, rfl, by omega, by omega, h.win, h.inb, h.mr, hmem, by show (bput x.buf (addN s n) m).length ≤ c + 1; omega⟩
        obtain ⟨a', g1, g2, g3⟩ := deliver_gs hG
        exact Or.inl ⟨a', n + 1, by omega, by omega, g1, g2, g3.trans hg⟩
      · have e : addN s n ≠ x.h ∧ x.gaps.length < 8 := ⟨fun e => hnb (addN_inj (s := s) (by omega) (by omega) (by rw [e, h.h])), by rw [hg]; decide⟩
        rw [if_pos e]
        have hne : ∀ p ∈ bput x.buf (addN s n) m, p.1 ≠ addN s a := fun p hp => (bput_mem hp).elim (fun e e2 => by have := addN_inj (s := s) (i := n) (j := a) (by omega) (by omega) (by rw [← e, e2]); omega) (hs p)
        have hno : blook (bput x.buf (addN s n) m) x.r = none := by
          cases hl : blook (bput x.buf (addN s n) m) x.r with
          | none => rfl
          | some v =>
            obtain ⟨p, hp, e⟩ := blook_mem hl
            exact absurd (by rw [e, h.r]) (hne p hp)
        have hd : ∀ y : RS, blook y.buf y.r = none → deliverF y = ({ y with inb := y.inb ++ [] }, []) := fun y hy => by
          unfold deliverF
          rw [runF_none hy]
        rw [hd _ hno]
        refine Or.inr ⟨by omega, ⟨h.r, rfl, by omega, by omega, h.win, ?_, h.mr, hmem, by show (bput x.buf (addN s n) m).length ≤ c + 1; omega⟩, hne, ?_, fun p hp => bput_mem hp⟩
        · show (x.inb ++ []).length = a
          rw [List.append_nil, h.inb]
        · show x.gaps ++ [⟨x.h, addN s n⟩] = [⟨addN s b, addN s n⟩]
          rw [hg, h.h]
          rfl
end Go.Proofs.Ytiiljdglbfgdbaa.Rcv
/-! RecvGaps: Gap in its states. -/
namespace Go.Proofs.Ytiiljdglbfgdbaa.Rcv
open Go Go.RowKit Go.Proofs.YtiiljdglbfgdbaaW.PrintWords Go.Proofs.YtiiljdglbfgdbaaW.PrintLast Go.Proofs.YtiiljdglbfgdbaaW.PrintMore Go.Proofs.Ytiiljdglbfgdbaa Go.Proofs.Ytiiljdglbfgdbaa.Sl Go.Proofs.Ytiiljdglbfgdbaa.S Go.Proofs.Ytiiljdglbfgdbaa.SpanTh Go.Proofs.Ytiiljdglbfgdbaa.SpanEv
theorem norm1 {i j : Int} (h : i < j) : Norm [(⟨i, j⟩ : S105)] := by
  refine ⟨fun y hy => ?_, List.pairwise_singleton _ _⟩
  rw [List.mem_singleton] at hy
  subst hy
  exact h
theorem cutH1 {i j : Int} (h : i < j) (h0 : 0 ≤ i) (h1 : j ≤ 64) : cutH [(⟨i, j⟩ : S105)] = [⟨i, j⟩] := by
  have hs : Small [(⟨i, j⟩ : S105)] := fun y hy => by
    rw [List.mem_singleton] at hy
    subst hy
    simp only [mostL]
    omega
  have hc := cutH_spec hs
  refine norm_ext hc.1 (norm1 h) (fun n => ?_)
  rw [hc.2.2.1, mem_one]
  show (i ≤ n ∧ n < j) ∧ 0 ≤ n ∧ n < 8388609 ↔ i ≤ n ∧ n < j
  omega
theorem still_gs {s : Int} {a b c n : Nat} {x : RS} (h : GS s a (n + 1) c x) (hab : a ≤ b) (hbn : b < n) (hm : ∀ p ∈ x.buf, p.1 = addN s n ∨ ∃ k : Nat, k < b ∧ p.1 = addN s k) {t : List S105} (ht : StillR x ⟨addN s b, addN s n⟩ t) : t = [⟨(b : Int) - a, (n : Int) - a⟩] := by
  have hb := h.b64
  refine norm_ext ht.1 (norm1 (by omega)) (fun i => ?_)
  rw [ht.2.2, mem_one]
  have e1 : toN x.r (addN s n) = (n : Int) - a := by rw [h.r]; exact toN_add (by omega) (by omega)
  have e2 : toN x.r x.h = ((n + 1 : Nat) : Int) - a := by rw [h.r, h.h]; exact toN_add (by omega) hb
  have e3 : toN (addN s b) (addN s n) = (n : Int) - b := toN_add (by omega) (by omega)
  show toN x.r (addN s n) ≤ toN x.r x.h ∧ (0 ≤ i ∧ i < toN x.r x.h) ∧ (∀ p ∈ x.buf, toN x.r p.1 ≠ i) ∧ toN x.r (addN s n) - toN (addN s b) (addN s n) ≤ i ∧ i < toN x.r (addN s n) ↔ (b : Int) - a ≤ i ∧ i < (n : Int) - a
  rw [e1, e2, e3]
  constructor
  · rintro ⟨_, _, _, q1, q2⟩
    exact ⟨by omega, q2⟩
  · rintro ⟨q1, q2⟩
    refine ⟨by omega, ⟨by omega, by omega⟩, fun p hp e => ?_, by omega, q2⟩
    rcases hm p hp with h3 | ⟨k, h3, h4⟩
    · rw [h3, e1] at e
      omega
    · obtain ⟨k2, g1, g2, g3⟩ := h.buf p hp
      have := addN_inj (s := s) (i := k2) (j := k) (by omega) (by omega) (by rw [← g3, h4])
      rw [h4, h.r, toN_add (s := s) (i := a) (j := k) (by omega) (by omega)] at e
      omega
theorem renew_gs {s : Int} {a b c : Nat} {x : RS} (h : GS s a b c x) : GS s a b c (renewF { x with gaps := [] }) := by
  refine ⟨h.r, h.h, h.ab, h.b64, h.win, h.inb, ?_, h.buf, h.len⟩
  show maxN x.r x.mr (addN x.r (x.win - x.inb.length)) = addN s 64
  have e : addN x.r (x.win - x.inb.length) = addN s 64 := by rw [h.r, h.win, h.inb]; unfold addN; omega
  rw [e, h.mr]
  unfold maxN
  rw [if_pos (Int.le_refl _), lowN_add]
/-- No gap is told. -/
theorem gap0 {w0 W : World} {l : List As} {bb : Nat} {s : Int} {a b c : Nat} {x : RS} (h : GS s a b c x) (hc : c ≤ 1000) (hg : x.gaps = []) (HS : SL w0 W (RecvA bb x :: l)) :
    Calls Try.prog 15 #[.pointer (some ⟨bb, 0, none⟩)] W fun e w' => e = .returned (.tuple #[.slice none 0 0, .int .u32 0, .int .u32 0, .bool false]) ∧ SL w0 w' (RecvA bb x :: l) := by
  have hab := h.ab
  have hb := h.b64
  refine (gap_c (h.ok hc (by rw [hg]; decide)) (by rw [h.r, h.h, toN_add hab hb]; omega) HS).mono ?_
  rintro e w' (⟨rfl, _, hs⟩ | ⟨pre, g, post, v, s0, t, h1, _⟩)
  · refine ⟨rfl, ?_⟩
    have e2 : { x with gaps := [] } = x := by rw [← hg]
    rw [e2] at hs
    exact hs
  · rw [hg] at h1
    cases pre <;> cases h1
/-- One gap is told. -/
theorem gap1g {w0 W : World} {l : List As} {bb : Nat} {s : Int} {a b c n : Nat} {x : RS} (h : GS s a (n + 1) c x) (hc : c ≤ 1000) (hab : a ≤ b) (hbn : b < n) (hm : ∀ p ∈ x.buf, p.1 = addN s n ∨ ∃ k : Nat, k < b ∧ p.1 = addN s k) (hg : x.gaps = [⟨addN s b, addN s n⟩]) (HS : SL w0 W (RecvA bb x :: l)) :
    Calls Try.prog 15 #[.pointer (some ⟨bb, 0, none⟩)] W fun e w' => ∃ A cc mr, e = .returned (.tuple #[.slice A 2 cc, .int .u32 (addN s a), .int .u32 mr, .bool true]) ∧ SL w0 w' (RecvA bb (renewF { x with gaps := [] }) :: Row (Kd.int .u32) 27 (.slice A 2 cc) [addN s b, addN s n] :: l) := by
  have hb := h.b64
  refine (gap_c (h.ok hc (by rw [hg]; exact (show (1 : Nat) ≤ 8 by decide))) (by rw [h.r, h.h, toN_add h.ab hb]; omega) HS).mono ?_
  rintro e w' (⟨_, hn, _⟩ | ⟨pre, g, post, v, s0, t, h1, _, h2, rfl, h4⟩)
  · exact absurd (still_gs h hab hbn hm (hn _ (by rw [hg]; exact .head _))) (by simp)
  · have e1 : pre = [] ∧ g = ⟨addN s b, addN s n⟩ ∧ post = [] := by
      rw [hg] at h1
      cases pre with
      | nil => simpa using h1.symm
      | cons y p => simp at h1
    obtain ⟨rfl, rfl, rfl⟩ := e1
    have h5 := still_gs h hab hbn hm h2
    simp only [List.cons.injEq] at h5
    obtain ⟨rfl, rfl⟩ := h5
    have e2 : pairsOf x.r (cutH [(⟨(b : Int) - a, (n : Int) - a⟩ : S105)]) = [addN s b, addN s n] := by
      rw [cutH1 (by omega) (by omega) (by omega), h.r]
      show [gM (addN s a) ((b : Int) - a), gM (addN s a) ((n : Int) - a)] = [addN s b, addN s n]
      unfold gM addN
      rw [show ((s + a) % 16777216 + ((b : Int) - a)) % 16777216 = (s + b) % 16777216 by omega, show ((s + a) % 16777216 + ((n : Int) - a)) % 16777216 = (s + n) % 16777216 by omega]
    rw [e2] at h4
    obtain ⟨A, cc, e3, _⟩ := SL.form h4 (.head _)
    subst e3
    exact ⟨A, cc, _, by rw [h.r]; rfl, SL.swap h4⟩
end Go.Proofs.Ytiiljdglbfgdbaa.Rcv
