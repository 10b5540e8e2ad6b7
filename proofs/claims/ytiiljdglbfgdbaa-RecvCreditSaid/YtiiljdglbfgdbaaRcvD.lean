/- The receiver's methods, fourth part: deliver. -/
import Derived.Test.YtiiljdglbfgdbaaRcvC

set_option linter.unusedVariables false
set_option linter.unusedSimpArgs false
namespace Go.Proofs.Ytiiljdglbfgdbaa.Rcv
open Go Go.RowKit Go.Proofs.YtiiljdglbfgdbaaW.PrintWords Go.Proofs.YtiiljdglbfgdbaaW.PrintLast Go.Proofs.YtiiljdglbfgdbaaW.PrintMore Go.Proofs.Ytiiljdglbfgdbaa Go.Proofs.Ytiiljdglbfgdbaa.Sl Go.Proofs.Ytiiljdglbfgdbaa.S
/-- deliver: what is in its order. -/
def runF : Nat → Buf → Int → List ByteArray → Buf × Int × List ByteArray
  | 0, m, r, out => (m, r, out)
  | k + 1, m, r, out => match blook m r with
    | none => (m, r, out)
    | some s => runF k (bdel m r) (addN r 1) (out ++ [s])
def deliverF (x : RS) : RS × List ByteArray :=
  let t := runF (x.buf.length + 1) x.buf x.r []
  ({ x with buf := t.1, r := t.2.1, inb := x.inb ++ t.2.2 }, t.2.2)
theorem runF_none {k : Nat} {m : Buf} {r : Int} {out : List ByteArray} (h : blook m r = none) : runF (k + 1) m r out = (m, r, out) := by
  unfold runF
  rw [h]
theorem runF_some {k : Nat} {m : Buf} {r : Int} {out : List ByteArray} {s : ByteArray} (h : blook m r = some s) : runF (k + 1) m r out = runF k (bdel m r) (addN r 1) (out ++ [s]) := by
  rw [runF, h]
theorem runF_more : ∀ (k d : Nat) (m : Buf) (r : Int) (out : List ByteArray), m.length < k → runF (k + d) m r out = runF k m r out
  | 0, d, m, r, out, h => absurd h (Nat.not_lt_zero _)
  | k + 1, d, m, r, out, h => by
    rw [show k + 1 + d = k + d + 1 by omega]
    cases hl : blook m r with
    | none => rw [runF_none hl, runF_none hl]
    | some s =>
      have := bdel_len hl
      rw [runF_some hl, runF_some hl, runF_more k d _ _ _ (by omega)]
set_option maxHeartbeats 2000000 in
set_option maxRecDepth 100000 in
theorem deliver_c {w0 W : World} {l : List As} {b : Nat} {x : RS} (hx : x.Ok) (HS : SL w0 W (RecvA b x :: l)) :
    Calls Try.prog 31 #[.pointer (some ⟨b, 0, none⟩)] W fun e w' => ∃ v, e = .returned v ∧ SL w0 w' (Row Kd.string 9 v (deliverF x).2 :: RecvA b (deliverF x).1 :: l) := by
  obtain ⟨bm, Ai, ci, Ag, cg, hci, hcg, h⟩ := RecvA.open_ HS
  have HS := Aside0.mk (SL.addNil Kd.string 9 h)
  have hu := Try.underlying73
  have hz : ∀ w, (zeroValue 9).run Try.prog w = .ok (.string ⟨#[]⟩) w := fun w => by kernel_rfl
  have hbl := hx.buf
  have hil := hx.inb
  have HX := Aside0.mk hx
  have HI := Aside0.mk hil
  have HD : Aside0 (∀ v w', SL w0 w' (Row Kd.string 9 v (deliverF x).2 :: RecvA b (deliverF x).1 :: l) → ∃ v', Ending.returned v = .returned v' ∧ SL w0 w' (Row Kd.string 9 v' (deliverF x).2 :: RecvA b (deliverF x).1 :: l)) := ⟨fun v w' h => ⟨v, rfl, h⟩⟩
  obtain ⟨T, hT⟩ : ∃ T, runF (x.buf.length + 1) x.buf x.r [] = T := ⟨_, rfl⟩
  have e : deliverF x = ({ x with buf := T.1, r := T.2.1, inb := x.inb ++ T.2.2 }, T.2.2) := by unfold deliverF; rw [hT]
  rw [e]
  have HT := Aside0.mk hT
  clear h hci hcg hx hT e HD hil
  go_enter Try.func31, Try.ntmps31
  go_wp2
  go_loopg [3] x.buf.length (fun kq v3 wr => ∃ (m : Buf) (r : Int) (out : List ByteArray), 0 ≤ r ∧ r < 16777216 ∧ Aside0 (m.length = kq) ∧ Aside0 (runF (m.length + 1) m r out = T) ∧ Aside0 (out.length + m.length ≤ 1000000) ∧ Aside0 (SL w0 wr (Row Kd.string 9 v3 out :: (partsR b { x with buf := m, r := r } bm (.slice Ai x.inb.length ci) (.slice Ag x.gaps.length cg) ++ l))))
  case atStart => exact ⟨x.buf, x.r, [], HX.out.r.1, HX.out.r.2, ⟨rfl⟩, HT, ⟨by simpa using hbl⟩, HS⟩
  case round =>
    obtain ⟨m, r, out, hr0, hr1, HK, HR, HO, HS⟩ := hrel
    clear HT hbl
    have HW := Aside0.mk (wfN ⟨hr0, hr1⟩)
    obtain ⟨A3, c3, e3, hc3⟩ := SL.form HS.out (.head _)
    subst e3
    cases hl : blook m r with
    | none =>
      have e := HR.out
      rw [runF_none hl] at e
      subst e
      have hlk : Im.look (sM m) r = none := by rw [look_sM, hl]; rfl
      have HL := Aside0.mk hlk
      clear hl hlk HR
      go_wp2_with fail
      refine region_tail 13 (by kernel_rfl) (by kernel_rfl) (fun W1 hW_ => ?_); have hs_ := Aside0.mk (hW_.out ▸ SL.drew (by repeat (first | (with_reducible exact HS.out) | (with_reducible apply SL.alloc) | (with_reducible apply SL.drewN) | (with_reducible apply SL.drew)))); clear HS; have HS := hs_; clear hs_ hW_; obtain ⟨⟨q0, z0⟩, ⟨q1, z1⟩, ⟨q2, z2⟩, ⟨q3, z3⟩, ⟨q4, z4⟩, ⟨q5, z5⟩, ⟨q6, z6⟩⟩ := cellsAt (SL.tail HS.out); have hat := Aside0.mk (SL.mapAt HS.out (.tail _ (.tail _ (.head _)))); simp only [List.take_succ_cons, List.take_zero, List.drop_succ_cons, List.drop_zero]; (repeat (first | (refine still_look_ok rfl _ _ 70 rfl 27 9 .u32 Try.underlying70 Try.underlying27 (.string ⟨#[]⟩) (hz _) bm (sM m) rfl hat.out r rfl HW.out ?_; simp only [HL.out, Option.getD_none, Option.isSome_none]) | still_step)); refine wpStill_nil ?_
      clear hat
      go_wp2_with (first
        | (go_at_call 35; (with_reducible refine (cloneS_c HS.out Ai ci x.inb ?s1 ?s2).mono ?_); (case s1 => exact SL.reads HS.out (.tail _ (.tail _ (.tail _ (.head _))))); (case s2 => have := HX.out.inb; omega); rintro e w1 ⟨v1, rfl, hs⟩; have hs2 := Aside0.mk hs; clear HS hs q0 q1 q2 q3 q4 q5 q6 z0 z1 z2 z3 z4 z5 z6; have HS := hs2; clear hs2; obtain ⟨A4, c4, e4, _⟩ := SL.form HS.out (.head _); subst e4)
        | ((with_reducible refine gate_builtin (b := .append) (xs := #[.tmp 25, .tmp 26]) rfl ?_); at_builtin; refine wpList_appendN Kd.string flat_string rfl (.tmp 25) (.tmp 26) 30 9 (.string ⟨#[]⟩) 16 rfl Try.underlying30 infoS rfl (by decide) (by omega) (.slice A4 x.inb.length c4) x.inb out A3 out.length c3 rfl rfl HS.out (SL.reads HS.out (.tail _ (.head _))) (by have := HX.out.inb; have := HO.out; omega) ?_; intro v2 w2 hs; have hs2 := Aside0.mk hs; clear HS hs; have HS := hs2; clear hs2; obtain ⟨A5, c5, e5, _⟩ := SL.form HS.out (.head _); subst e5; obtain ⟨⟨q0, z0⟩, ⟨q1, z1⟩, ⟨q2, z2⟩, ⟨q3, z3⟩, ⟨q4, z4⟩, ⟨q5, z5⟩, ⟨q6, z6⟩⟩ := cellsAt (SL.tail (SL.tail HS.out))))
      go_ret
      have h2 := SL.set (cs' := cellsR { x with buf := m, r := r, inb := x.inb ++ out } bm (.slice A5 (x.inb ++ out).length c5) (.slice Ag x.gaps.length cg)) (SL.pk [2] HS.out) 5 (.slice A5 (x.inb ++ out).length c5) rfl
      rw [List.length_append] at h2
      exact ⟨_, rfl, SL.swap (RecvA.shut (bm := bm) (vi := .slice A5 (x.inb.length + out.length) c5) (vg := .slice Ag x.gaps.length cg) (SL.tail (SL.pk [4, 0, 2, 0, 1, 0] h2)))⟩
    | some s =>
      have e := HR.out
      have hbd := bdel_len hl
      rw [runF_some hl, ← Nat.add_sub_of_le (show (bdel m r).length + 1 ≤ m.length by omega), runF_more _ _ _ _ _ (Nat.lt_succ_self _)] at e
      have HR2 := Aside0.mk e
      have hlk : Im.look (sM m) r = some (.string s) := by rw [look_sM, hl]; rfl
      have HL := Aside0.mk hlk
      have HB := Aside0.mk hbd
      clear hl hlk HR e hbd
      go_wp2_with fail
      refine region_tail 13 (by kernel_rfl) (by kernel_rfl) (fun W1 hW_ => ?_); have hs_ := Aside0.mk (hW_.out ▸ SL.drew (by repeat (first | (with_reducible exact HS.out) | (with_reducible apply SL.alloc) | (with_reducible apply SL.drewN) | (with_reducible apply SL.drew)))); clear HS; have HS := hs_; clear hs_ hW_; obtain ⟨⟨q0, z0⟩, ⟨q1, z1⟩, ⟨q2, z2⟩, ⟨q3, z3⟩, ⟨q4, z4⟩, ⟨q5, z5⟩, ⟨q6, z6⟩⟩ := cellsAt (SL.tail HS.out); have hat := Aside0.mk (SL.mapAt HS.out (.tail _ (.tail _ (.head _)))); simp only [List.take_succ_cons, List.take_zero, List.drop_succ_cons, List.drop_zero]; (repeat (first | (refine still_look_ok rfl _ _ 70 rfl 27 9 .u32 Try.underlying70 Try.underlying27 (.string ⟨#[]⟩) (hz _) bm (sM m) rfl hat.out r rfl HW.out ?_; simp only [HL.out, Option.getD_some, Option.isSome_some]) | still_step)); refine wpStill_nil ?_
      clear hat
      go_wp2_with ((with_reducible refine gate_builtin (b := .append) (xs := #[.tmp 31, .tmp 33]) rfl ?_); at_builtin; refine wpList_append1 Kd.string rfl (.tmp 31) (.tmp 33) 30 9 (.string ⟨#[]⟩) 16 rfl Try.underlying30 infoS rfl (by decide) (by omega) (.slice A3 out.length c3) out s [.string s] rfl rfl rfl (by repeat (first | (with_reducible exact HS.out) | (with_reducible apply SL.alloc) | (with_reducible apply SL.drewN) | (with_reducible apply SL.drew))) (by have := HO.out; omega) ?_; intro v2 w2 hs; have hs2 := Aside0.mk hs; clear HS hs q0 q1 q2 q3 q4 q5 q6 z0 z1 z2 z3 z4 z5 z6; have HS := hs2; clear hs2; obtain ⟨A5, c5, e5, _⟩ := SL.form HS.out (.head _); subst e5)
      refine region_tail 8 (by kernel_rfl) (by kernel_rfl) (fun W3 hW_ => ?_); have hs_ := Aside0.mk (hW_.out ▸ SL.drew (by repeat (first | (with_reducible exact HS.out) | (with_reducible apply SL.alloc) | (with_reducible apply SL.drewN) | (with_reducible apply SL.drew)))); clear HS; have HS := hs_; clear hs_ hW_; obtain ⟨⟨q0, z0⟩, ⟨q1, z1⟩, ⟨q2, z2⟩, ⟨q3, z3⟩, ⟨q4, z4⟩, ⟨q5, z5⟩, ⟨q6, z6⟩⟩ := cellsAt (SL.tail HS.out); simp only [List.take_succ_cons, List.take_zero, List.drop_succ_cons, List.drop_zero]; (repeat (first | still_step)); refine wpStill_nil ?_
      go_wp2_with (first
        | (at_delete; refine wpList_mdel rfl _ _ 70 27 rfl 27 9 .u32 Try.underlying70 Try.underlying27 bm (sM m) rfl (SL.pk [2] HS.out) r rfl HW.out ?_; rw [del_sM]; intro w4 hs; have hs2 := Aside0.mk hs; clear HS hs q0 q1 q2 q3 q4 q5 q6 z0 z1 z2 z3 z4 z5 z6; have HS := hs2; clear hs2; obtain ⟨q0, z0⟩ := SL.cell HS.out (.tail _ (.tail _ (.head _))) 0 (v := .int .u32 r) rfl)
        | (go_at_call 14; (with_reducible refine (add_c _ _ _).mono ?_); rintro e w1 ⟨rfl, rfl⟩; skip))
      have h2 := SL.set (cs' := cellsR { x with buf := bdel m r, r := addN r 1 } bm (.slice Ai x.inb.length ci) (.slice Ag x.gaps.length cg)) (SL.pk [2] HS.out) 0 (.int .u32 (addN r 1)) rfl
      have HS2 := Aside0.mk (SL.pk [2, 0, 0] h2)
      clear h2
      go_roundg (bdel m r).length
      case measure => have := HK.out; have := HB.out; omega
      case rel => exact ⟨bdel m r, addN r 1, out ++ [s], by unfold addN; omega, by unfold addN; omega, ⟨rfl⟩, HR2, ⟨by have := HO.out; have := HB.out; rw [List.length_append, List.length_singleton]; omega⟩, ⟨by have h := HS2.out; rw [List.length_append, List.length_singleton] at *; exact h⟩⟩
end Go.Proofs.Ytiiljdglbfgdbaa.Rcv
