/- The receiver's methods, third part: Poll, Take, deliver. -/
import Derived.Test.YtiiljdglbfgdbaaRcvB

set_option linter.unusedVariables false
set_option linter.unusedSimpArgs false
namespace Go.Proofs.Ytiiljdglbfgdbaa.Rcv
open Go Go.RowKit Go.Proofs.YtiiljdglbfgdbaaW.PrintWords Go.Proofs.YtiiljdglbfgdbaaW.PrintLast Go.Proofs.YtiiljdglbfgdbaaW.PrintMore Go.Proofs.Ytiiljdglbfgdbaa Go.Proofs.Ytiiljdglbfgdbaa.Sl Go.Proofs.Ytiiljdglbfgdbaa.S
attribute [local go_sem] max2_int min2_int max_two min_two
theorem perm4 (A B C D : As) (l : List As) : pk (A :: B :: C :: D :: l) [1, 2, 0, 0] = B :: D :: A :: C :: l := rfl
/-- Poll. -/
def pollF (x : RS) (s : Int) : RS × Int := if toN x.r s < toN x.r x.h ∨ toN x.r s > toN x.r x.mr then (x, 11) else ({ x with h := lowN s }, 0)
set_option maxHeartbeats 2000000 in
set_option maxRecDepth 100000 in
theorem poll_c {w0 W : World} {l : List As} {b : Nat} {x : RS} (HS : SL w0 W (RecvA b x :: l)) (s : Int) :
    Calls Try.prog 39 #[.pointer (some ⟨b, 0, none⟩), .int .u32 s] W fun e w' => e = .returned (.int .i64 (pollF x s).2) ∧ SL w0 w' (RecvA b (pollF x s).1 :: l) := by
  obtain ⟨bm, Ai, ci, Ag, cg, hci, hcg, h⟩ := RecvA.open_ HS
  have HS := Aside0.mk h
  have hu := Try.underlying73
  obtain ⟨⟨q0, z0⟩, ⟨q1, z1⟩, ⟨q2, z2⟩, ⟨q3, z3⟩, ⟨q4, z4⟩, ⟨q5, z5⟩, ⟨q6, z6⟩⟩ := cellsAt HS.out
  clear h hci hcg
  by_cases h1 : toN x.r s < toN x.r x.h
  · have e : pollF x s = (x, 11) := by unfold pollF; rw [if_pos (Or.inl h1)]
    rw [e]
    have d1 : decide (toN x.r s < toN x.r x.h) = true := decide_eq_true h1
    clear h1 e
    go_enter Try.func39, Try.ntmps39
    go_wp2_with (go_at_call 17; (with_reducible refine (to_c _ _ _).mono ?_); rintro e w1 ⟨rfl, rfl⟩; skip)
    go_quiet ((first | (go_at_call 17; with_reducible exact Calls.quiet_of_same (to_c _ _ _))))
    have hs_ := Aside0.mk ((by repeat (first | (with_reducible exact HS.out) | (with_reducible apply SL.alloc) | (with_reducible apply SL.drewN) | (with_reducible apply SL.drew)))); clear HS; have HS := hs_; clear hs_
    go_wp2
    go_ret
    exact ⟨rfl, RecvA.shut (by (with_reducible repeat (first | apply SL.alloc | apply SL.drewN | apply SL.drew)); exact HS.out)⟩
  · have d1 : decide (toN x.r s < toN x.r x.h) = false := decide_eq_false h1
    by_cases h2 : toN x.r s > toN x.r x.mr
    · have e : pollF x s = (x, 11) := by unfold pollF; rw [if_pos (Or.inr h2)]
      rw [e]
      have d2 : decide (toN x.r s > toN x.r x.mr) = true := decide_eq_true h2
      clear h1 h2 e
      go_enter Try.func39, Try.ntmps39
      go_wp2_with (go_at_call 17; (with_reducible refine (to_c _ _ _).mono ?_); rintro e w1 ⟨rfl, rfl⟩; skip)
      go_quiet ((first | (go_at_call 17; with_reducible exact Calls.quiet_of_same (to_c _ _ _))))
      have hs_ := Aside0.mk ((by repeat (first | (with_reducible exact HS.out) | (with_reducible apply SL.alloc) | (with_reducible apply SL.drewN) | (with_reducible apply SL.drew)))); clear HS; have HS := hs_; clear hs_
      go_wp2
      go_ret
      exact ⟨rfl, RecvA.shut (by (with_reducible repeat (first | apply SL.alloc | apply SL.drewN | apply SL.drew)); exact HS.out)⟩
    · have e : pollF x s = ({ x with h := lowN s }, 0) := by unfold pollF; rw [if_neg (fun h => h.elim h1 h2)]
      rw [e]
      have d2 : decide (toN x.r s > toN x.r x.mr) = false := decide_eq_false h2
      clear h1 h2 e
      go_enter Try.func39, Try.ntmps39
      go_wp2_with (go_at_call 17; (with_reducible refine (to_c _ _ _).mono ?_); rintro e w1 ⟨rfl, rfl⟩; skip)
      go_quiet ((first | (go_at_call 17; with_reducible exact Calls.quiet_of_same (to_c _ _ _))))
      have hs_ := Aside0.mk ((by repeat (first | (with_reducible exact HS.out) | (with_reducible apply SL.alloc) | (with_reducible apply SL.drewN) | (with_reducible apply SL.drew)))); clear HS; have HS := hs_; clear hs_
      go_wp2_with (go_at_call 30; (with_reducible refine (low_c _ _).mono ?_); rintro e w1 ⟨rfl, rfl⟩; skip)
      go_ret
      exact ⟨rfl, RecvA.shut (SL.set (cs' := cellsR { x with h := lowN s } bm (.slice Ai x.inb.length ci) (.slice Ag x.gaps.length cg)) (SL.drewN HS.out nq) 1 (.int .u32 (lowN s)) rfl)⟩
theorem min2_mn (k k' : IntKind) (x y : Int) : Builtin.min2 (.int k x) (.int k' y) = pure (.int k (mn x y)) := by rw [min2_int]; rfl
theorem max2_mx (k k' : IntKind) (x y : Int) : Builtin.max2 (.int k x) (.int k' y) = pure (.int k (mx x y)) := by rw [max2_int]; rfl
theorem cloneS_n {w0 W : World} {l : List As} (HS : SL w0 W l) (A : Option Addr) (n c : Nat) (xs : List ByteArray) (hn : xs.length = n) (hC : Kd.string.C W A xs.length xs) (hl : xs.length ≤ 4000000) :
    Calls Try.prog 35 #[.slice A n c] W fun e w' => ∃ v, e = .returned v ∧ SL w0 w' (Row Kd.string 9 v xs :: l) := by
  subst hn
  exact cloneS_c HS A c xs hC hl
/-- Take. -/
def takeF (x : RS) (n : Int) : RS × List ByteArray := ({ x with inb := x.inb.drop (max 0 (min n x.inb.length)).toNat }, x.inb.take (max 0 (min n x.inb.length)).toNat)
attribute [-go_sem] max2_int min2_int
attribute [local go_sem] max2_mx min2_mn
set_option maxHeartbeats 2000000 in
set_option maxRecDepth 100000 in
theorem take_c {w0 W : World} {l : List As} {b : Nat} {x : RS} (hx : x.inb.length ≤ 1000000) (HS : SL w0 W (RecvA b x :: l)) (n : Int) :
    Calls Try.prog 21 #[.pointer (some ⟨b, 0, none⟩), .int .i64 n] W fun e w' => ∃ v, e = .returned v ∧ SL w0 w' (Row Kd.string 9 v (takeF x n).2 :: RecvA b (takeF x n).1 :: l) := by
  obtain ⟨bm, Ai, ci, Ag, cg, hci, hcg, h⟩ := RecvA.open_ HS
  have HS := Aside0.mk h
  have hu := Try.underlying73
  obtain ⟨m, hm⟩ : ∃ m : Nat, (max 0 (min n x.inb.length)).toNat = m := ⟨_, rfl⟩
  have hml : m ≤ x.inb.length := by omega
  have hv : mx 0 (mn n (x.inb.length : Int)) = (m : Int) := by unfold mx mn; split <;> split <;> omega
  obtain ⟨i0, hi, hzz⟩ := Option.map_eq_some_iff.1 infoS
  simp only [Prod.mk.injEq] at hzz
  have hs1 : ∀ W : World, (Instr.slice 30 (.slice Ai x.inb.length ci) none (some (.int .i64 (m : Int))) none).run Try.prog W = .ok (.slice Ai m ci) W := fun W => by
    have := cut_to 30 9 .i64 Try.underlying30 hi Ai x.inb.length ci (m : Int) (Int.natCast_nonneg _) (by omega) hci W
    rwa [Int.toNat_natCast] at this
  obtain ⟨A2, hA2⟩ : ∃ A2, (if ci = m then Ai else Ai.map (·.add (m * 1))) = A2 := ⟨_, rfl⟩
  have hs2 : ∀ W : World, (Instr.slice 30 (.slice Ai x.inb.length ci) (some (.int .i64 (m : Int))) none none).run Try.prog W = .ok (.slice A2 (x.inb.length - m) (ci - m)) W := fun W => by
    have := cut_from 30 9 .i64 Try.underlying30 hi 1 hzz.2.1 Ai x.inb.length ci (m : Int) (Int.natCast_nonneg _) (by omega) W
    rwa [Int.toNat_natCast, hA2] at this
  obtain ⟨⟨q0, z0⟩, ⟨q1, z1⟩, ⟨q2, z2⟩, ⟨q3, z3⟩, ⟨q4, z4⟩, ⟨q5, z5⟩, ⟨q6, z6⟩⟩ := cellsAt HS.out
  unfold takeF
  rw [hm]
  have HA2 := Aside0.mk hA2
  have HM := Aside0.mk hml
  have HX := Aside0.mk hx
  clear h hci hcg hm hA2 hml hx hi hzz i0
  go_enter Try.func21, Try.ntmps21
  go_wp2_with fail
  refine (cloneS_n (by (with_reducible repeat (first | apply SL.alloc | apply SL.drewN | apply SL.drew)); exact HS.out) Ai m ci (x.inb.take m) (by have := HM.out; rw [List.length_take]; omega) (SL.reads_take HS.out (.tail _ (.tail _ (.head _))) HM.out) (by have := HX.out; rw [List.length_take]; omega)).mono ?_
  rintro e w1 ⟨v1, rfl, hs⟩
  have hs_ := Aside0.mk hs
  clear HS hs q0 q1 q2 q3 q4 q5 q6 z0 z1 z2 z3 z4 z5 z6
  have HS := hs_
  clear hs_
  obtain ⟨⟨q0, z0⟩, ⟨q1, z1⟩, ⟨q2, z2⟩, ⟨q3, z3⟩, ⟨q4, z4⟩, ⟨q5, z5⟩, ⟨q6, z6⟩⟩ := cellsAt (SL.tail HS.out)
  go_wp2_with fail
  refine (cloneS_n (by (with_reducible repeat (first | apply SL.alloc | apply SL.drewN | apply SL.drew)); exact HS.out) A2 (x.inb.length - m) (ci - m) (x.inb.drop m) (by rw [List.length_drop]) (by rw [← HA2.out]; exact SL.reads_drop HS.out (.tail _ (.tail _ (.tail _ (.head _)))) HM.out) (by have := HX.out; rw [List.length_drop]; omega)).mono ?_
  rintro e w2 ⟨v2, rfl, hs⟩
  have hs_ := Aside0.mk hs
  clear HS hs q0 q1 q2 q3 q4 q5 q6 z0 z1 z2 z3 z4 z5 z6
  have HS := hs_
  clear hs_
  obtain ⟨⟨q0, z0⟩, ⟨q1, z1⟩, ⟨q2, z2⟩, ⟨q3, z3⟩, ⟨q4, z4⟩, ⟨q5, z5⟩, ⟨q6, z6⟩⟩ := cellsAt (SL.tail (SL.tail HS.out))
  obtain ⟨A3, c3, e3, _⟩ := SL.form HS.out (.head _)
  subst e3
  go_wp2
  go_ret
  have h2 := SL.set (cs' := cellsR { x with inb := x.inb.drop m } bm (.slice A3 (x.inb.drop m).length c3) (.slice Ag x.gaps.length cg)) (SL.pk [2] HS.out) 5 (.slice A3 (x.inb.drop m).length c3) rfl
  rw [List.length_drop] at h2
  exact ⟨v1, rfl, SL.swap (RecvA.shut (bm := bm) (vi := .slice A3 (x.inb.length - m) c3) (vg := .slice Ag x.gaps.length cg) (by rw [List.length_drop] at HS; exact SL.tail (SL.pk [4, 0, 2, 0, 1, 0] h2)))⟩
end Go.Proofs.Ytiiljdglbfgdbaa.Rcv
