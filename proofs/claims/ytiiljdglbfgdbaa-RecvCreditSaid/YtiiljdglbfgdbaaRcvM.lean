/- RecvCredit: the receiver's states there. -/
import Derived.Test.YtiiljdglbfgdbaaRcvL

set_option linter.unusedVariables false
set_option linter.unusedSimpArgs false
namespace Go.Proofs.Ytiiljdglbfgdbaa.Rcv
open Go Go.RowKit Go.Proofs.YtiiljdglbfgdbaaW.PrintWords Go.Proofs.YtiiljdglbfgdbaaW.PrintLast Go.Proofs.YtiiljdglbfgdbaaW.PrintMore Go.Proofs.Ytiiljdglbfgdbaa Go.Proofs.Ytiiljdglbfgdbaa.Sl Go.Proofs.Ytiiljdglbfgdbaa.S Go.Proofs.Ytiiljdglbfgdbaa.SpanTh Go.Proofs.Ytiiljdglbfgdbaa.SpanEv
def st (s wn nx : Int) (inb : List ByteArray) (mr : Int) : RS := ⟨addN s nx, addN s nx, mr, wn, [], inb, []⟩
structure Gd (s wn nx : Int) (inb : List ByteArray) (mr : Int) : Prop where
  win : 1 ≤ wn ∧ wn ≤ 64
  top : 0 ≤ mr ∧ mr < 16777216
  room : toN (addN s nx) mr + inb.length ≤ wn
theorem addN_range (s n : Int) : 0 ≤ addN s n ∧ addN s n < 16777216 := by unfold addN; omega
theorem toN_range (s n : Int) : 0 ≤ toN s n ∧ toN s n < 16777216 := by unfold toN; omega
theorem Gd.ok {s wn nx mr : Int} {inb : List ByteArray} (h : Gd s wn nx inb mr) : (st s wn nx inb mr).Ok := by
  have h1 := h.room
  have h2 := (toN_range (addN s nx) mr).1
  have h3 := h.win.2
  exact ⟨addN_range _ _, addN_range _ _, h.top, h.win, Nat.zero_le _, by show inb.length ≤ 1000000; omega, Nat.zero_le _⟩
theorem newS {w0 W : World} {l : List As} (HS : SL w0 W l) (a0 a1 : Int) : Calls Try.prog 11 #[.int .u32 (lowN a0), .int .i64 a1] W fun e w' => ∃ b mr, e = .returned (.pointer (some ⟨b, 0, none⟩)) ∧ Gd (lowN a0) (max 1 (min a1 64)) 0 [] mr ∧ SL w0 w' (RecvA b (st (lowN a0) (max 1 (min a1 64)) 0 [] mr) :: l) := by
  have e2 : 1 ≤ max 1 (min a1 64) ∧ max 1 (min a1 64) ≤ 64 := by omega
  refine (new_c HS (lowN a0) a1).mono ?_
  rintro e w' ⟨b, rfl, hs⟩
  have e3 : newF (lowN a0) a1 = st (lowN a0) (max 1 (min a1 64)) 0 [] (addN (lowN a0) (max 1 (min a1 64))) := by
    unfold newF st
    have e4 : lowN (lowN a0) = addN (lowN a0) 0 := by unfold lowN addN; omega
    have e5 : addN (lowN (lowN a0)) (max 1 (min a1 64)) = addN (lowN a0) (max 1 (min a1 64)) := by unfold lowN addN; omega
    rw [e5, e4]
  rw [e3] at hs
  exact ⟨b, _, rfl, ⟨e2, addN_range _ _, by simp only [List.length_nil, toN, addN]; omega⟩, hs⟩
theorem statS {w0 W : World} {l : List As} {b : Nat} {s wn nx mr : Int} {inb : List ByteArray} (h : Gd s wn nx inb mr) (HS : SL w0 W (RecvA b (st s wn nx inb mr) :: l)) :
    Calls Try.prog 22 #[.pointer (some ⟨b, 0, none⟩)] W fun e w' => ∃ v mr', e = .returned (.tuple #[v, .int .u32 (addN s nx), .int .u32 mr']) ∧ toN (addN s nx) mr' = wn - inb.length ∧ Gd s wn nx inb mr' ∧ SL w0 w' (RecvA b (st s wn nx inb mr') :: l) := by
  refine (stat_c h.ok (by show toN (addN s nx) (addN s nx) ≤ 64; unfold toN; omega) HS).mono ?_
  rintro e w' ⟨v, t, rfl, _, hs⟩
  have h1 := h.room
  have h2 := h.win
  have h3 := h.top
  have hm : (renewF (st s wn nx inb mr)).mr = maxN (addN s nx) mr (addN (addN s nx) (wn - inb.length)) := rfl
  have hr : toN (addN s nx) (maxN (addN s nx) mr (addN (addN s nx) (wn - inb.length))) = wn - inb.length := by
    unfold maxN
    have := (toN_range (addN s nx) mr).1
    split <;> (simp only [toN, addN, lowN] at *; omega)
  refine ⟨v, _, rfl, by rw [hm]; exact hr, ⟨h2, ?_, ?_⟩, SL.tail hs⟩
  · rw [hm]; unfold maxN; split <;> (unfold lowN; omega)
  · rw [hm, hr]; omega
theorem dataF1 {s wn nx mr : Int} {inb : List ByteArray} (m : ByteArray) (h : 0 < toN (addN s nx) mr) :
    dataG { st s wn nx inb mr with buf := bput (st s wn nx inb mr).buf (lowN (addN s nx)) m } (lowN (addN s nx)) = ⟨addN s nx, addN s (nx + 1), mr, wn, [(addN s nx, m)], inb, []⟩ ∧
    dataF (st s wn nx inb mr) (addN s nx) m = (st s wn (nx + 1) (inb ++ [m]) mr, [m]) := by
  have e0 : lowN (addN s nx) = addN s nx := by unfold lowN addN; omega
  have e1 : toN (addN s nx) (addN s nx) = 0 := by unfold toN; omega
  have e2 : addN (addN s nx) 1 = addN s (nx + 1) := by unfold addN; omega
  have hG : dataG { st s wn nx inb mr with buf := bput (st s wn nx inb mr).buf (lowN (addN s nx)) m } (lowN (addN s nx)) = ⟨addN s nx, addN s (nx + 1), mr, wn, [(addN s nx, m)], inb, []⟩ := by
    rw [e0]
    unfold dataG
    simp [st, bput, e1, e2]
  refine ⟨hG, ?_⟩
  unfold dataF
  rw [if_neg ?_, hG]
  · unfold deliverF
    have b1 : blook [(addN s nx, m)] (addN s nx) = some m := by simp [blook]
    have b2 : bdel [(addN s nx, m)] (addN s nx) = [] := by simp [bdel]
    have b3 : ∀ r, blook [] r = none := fun r => rfl
    simp only [List.length_cons, List.length_nil]
    rw [runF_some b1, b2, runF_none (b3 _), e2]
    rfl
  · rw [e0]
    simp [st, blook, e1, h]
theorem dataS1 {w0 W : World} {l : List As} {b : Nat} {s wn nx mr : Int} {inb : List ByteArray} (h : Gd s wn nx inb mr) (hp : 0 < toN (addN s nx) mr) (m : ByteArray) (HS : SL w0 W (RecvA b (st s wn nx inb mr) :: l)) :
    Calls Try.prog 13 #[.pointer (some ⟨b, 0, none⟩), .int .u32 (addN s nx), .string m] W fun e w' => ∃ A c, e = .returned (.slice A 1 c) ∧ Gd s wn (nx + 1) (inb ++ [m]) mr ∧ toN (addN s (nx + 1)) mr = toN (addN s nx) mr - 1 ∧ SL w0 w' (RecvA b (st s wn (nx + 1) (inb ++ [m]) mr) :: l) := by
  have h1 := h.room
  have h2 := h.win
  have h3 := h.top
  have ht : toN (addN s (nx + 1)) mr = toN (addN s nx) mr - 1 := by simp only [toN, addN] at *; omega
  refine (data_c HS (addN s nx) m ?_).mono ?_
  · rw [(dataF1 m hp).1]
    exact ⟨addN_range _ _, addN_range _ _, h3, h2, (show (1 : Nat) ≤ 1000000 by decide), by show inb.length ≤ 1000000; omega, Nat.zero_le _⟩
  · rintro e w' ⟨v, rfl, hs⟩
    rw [(dataF1 m hp).2] at hs
    obtain ⟨A, c, rfl, _⟩ := SL.form hs (.head _)
    refine ⟨A, c, rfl, ⟨h2, h3, ?_⟩, ht, SL.tail hs⟩
    rw [ht, List.length_append, List.length_singleton]
    omega
theorem dataS0 {w0 W : World} {l : List As} {b : Nat} {s wn nx mr : Int} {inb : List ByteArray} (h : Gd s wn nx inb mr) (hp : toN (addN s nx) mr = 0) (m : ByteArray) (HS : SL w0 W (RecvA b (st s wn nx inb mr) :: l)) :
    Calls Try.prog 13 #[.pointer (some ⟨b, 0, none⟩), .int .u32 (addN s nx), .string m] W fun e w' => ∃ A c, e = .returned (.slice A 0 c) ∧ SL w0 w' (RecvA b (st s wn nx inb mr) :: l) := by
  have h1 := h.room
  have h2 := h.win
  have h3 := h.top
  have e0 : lowN (addN s nx) = addN s nx := by unfold lowN addN; omega
  have e1 : toN (addN s nx) (addN s nx) = 0 := by unfold toN; omega
  have hF : dataF (st s wn nx inb mr) (addN s nx) m = (st s wn nx inb mr, []) := by
    unfold dataF
    rw [if_pos]
    right
    rw [e0]
    show ¬ toN (addN s nx) (addN s nx) < toN (addN s nx) mr
    omega
  refine (data_c HS (addN s nx) m ?_).mono ?_
  · have e2 : addN (addN s nx) 1 = addN s (nx + 1) := by unfold addN; omega
    have hG : dataG { st s wn nx inb mr with buf := bput (st s wn nx inb mr).buf (lowN (addN s nx)) m } (lowN (addN s nx)) = ⟨addN s nx, addN s (nx + 1), mr, wn, [(addN s nx, m)], inb, []⟩ := by
      rw [e0]
      unfold dataG
      simp [st, bput, e1, e2]
    rw [hG]
    exact ⟨addN_range _ _, addN_range _ _, h3, h2, (show (1 : Nat) ≤ 1000000 by decide), by show inb.length ≤ 1000000; omega, Nat.zero_le _⟩
  · rintro e w' ⟨v, rfl, hs⟩
    rw [hF] at hs
    obtain ⟨A, c, rfl, _⟩ := SL.form hs (.head _)
    exact ⟨A, c, rfl, SL.tail hs⟩
theorem takeS {w0 W : World} {l : List As} {b : Nat} {s wn nx mr : Int} {inb : List ByteArray} (h : Gd s wn nx inb mr) (n : Int) (HS : SL w0 W (RecvA b (st s wn nx inb mr) :: l)) :
    Calls Try.prog 21 #[.pointer (some ⟨b, 0, none⟩), .int .i64 n] W fun e w' => ∃ A c k inb', e = .returned (.slice A k c) ∧ k + inb'.length = inb.length ∧ Gd s wn nx inb' mr ∧ SL w0 w' (RecvA b (st s wn nx inb' mr) :: l) := by
  refine (take_c h.ok.inb HS n).mono ?_
  rintro e w' ⟨v, rfl, hs⟩
  obtain ⟨A, c, rfl, _⟩ := SL.form hs (.head _)
  have h1 := h.room
  have h2 : (takeF (st s wn nx inb mr) n).2.length + (inb.drop (max 0 (min n inb.length)).toNat).length = inb.length := by
    show (inb.take (max 0 (min n inb.length)).toNat).length + (inb.drop (max 0 (min n inb.length)).toNat).length = inb.length
    rw [List.length_take, List.length_drop]
    omega
  refine ⟨A, c, _, inb.drop (max 0 (min n inb.length)).toNat, rfl, h2, ⟨h.win, h.top, by omega⟩, SL.tail hs⟩
theorem varsS {w0 W : World} {l : List As} {b : Nat} {s wn nx mr : Int} {inb : List ByteArray} (HS : SL w0 W (RecvA b (st s wn nx inb mr) :: l)) :
    Calls Try.prog 16 #[.pointer (some ⟨b, 0, none⟩)] W fun e w' => e = .returned (.agg #[.int .u32 (addN s nx), .int .u32 (addN s nx), .int .u32 mr, .int .i64 0, .int .i64 inb.length, .int .i64 0]) ∧ SL w0 w' (RecvA b (st s wn nx inb mr) :: l) := vars_c HS
end Go.Proofs.Ytiiljdglbfgdbaa.Rcv
