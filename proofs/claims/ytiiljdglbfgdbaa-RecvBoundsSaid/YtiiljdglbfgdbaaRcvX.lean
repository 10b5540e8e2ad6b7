/- Step: a call on both. -/
import Derived.Test.YtiiljdglbfgdbaaRcvT
import Derived.Test.YtiiljdglbfgdbaaRcvW
import Derived.Test.YtiiljdglbfgdbaaS14
set_option linter.unusedVariables false
set_option linter.unusedSimpArgs false
/-! Step: a call on both. -/
namespace Go.Proofs.Ytiiljdglbfgdbaa.Rcv
open Go Go.RowKit Go.Proofs.YtiiljdglbfgdbaaW.PrintWords Go.Proofs.YtiiljdglbfgdbaaW.PrintLast Go.Proofs.YtiiljdglbfgdbaaW.PrintMore Go.Proofs.Ytiiljdglbfgdbaa Go.Proofs.Ytiiljdglbfgdbaa.Sl Go.Proofs.Ytiiljdglbfgdbaa.S Go.Proofs.Ytiiljdglbfgdbaa.SpanTh Go.Proofs.Ytiiljdglbfgdbaa.SpanEv
abbrev cellsT (kd N : Int) (raw : Bool) (m : ByteArray) : Array Value := #[.int .i64 kd, .int .i64 N, .bool raw, .string m]
theorem cells4 {w0 W : World} {l : List As} {b t : Nat} {v0 v1 v2 v3 : Value} (h : SL w0 W l) (hm : Blk b #[v0, v1, v2, v3] t ∈ l) : (W.cell? ⟨b, 0, none⟩ = some v0 ∧ W.frozen? ⟨b, 0, none⟩ = false) ∧ (W.cell? ⟨b, 1, none⟩ = some v1 ∧ W.frozen? ⟨b, 1, none⟩ = false) ∧ (W.cell? ⟨b, 2, none⟩ = some v2 ∧ W.frozen? ⟨b, 2, none⟩ = false) ∧ (W.cell? ⟨b, 3, none⟩ = some v3 ∧ W.frozen? ⟨b, 3, none⟩ = false) :=
  ⟨h.cell hm 0 rfl, h.cell hm 1 rfl, h.cell hm 2 rfl, h.cell hm 3 rfl⟩
/-- What Step does. -/
def StepPost (w0 : World) (l : List As) (b : Nat) (s : Int) (k : Nat) (y : RR) (kd : Int) (e : Ending) (w' : World) : Prop :=
  ∃ x' v' y' hd', e = .returned (.tuple #[v', .bool true]) ∧ Sim s (k + 1) x' y' ∧ (y'.W = y.W ∧ (1 ≤ kd ∧ kd ≤ 5 → y'.R = y.R ∧ y'.buf = y.buf)) ∧ SL w0 w' (RecvA b x' :: RefA v' y' hd' :: l)
set_option maxHeartbeats 2000000 in
set_option maxRecDepth 100000 in
theorem step_poll1 {w0 W : World} {l : List As} {b : Nat} {x : RS} {v : Value} {y : RR} {hd : List Hd} {s : Int} {k : Nat} (hS : Sim s k x y) (hk : k ≤ 900) (kd N : Int) (raw : Bool) (m : ByteArray) (hN : -9223372036854775808 ≤ N ∧ N ≤ 9223372036854775807) (hkd : kd = 1) (hP : (pollF x (nearF N raw y.H)).2 = 0 ∧ (pollR y (nearF N raw y.H)).2 = true) (HS : SL w0 W (RecvA b x :: RefA v y hd :: l)) :
    Calls Try.prog 24 #[.pointer (some ⟨b, 0, none⟩), v, .agg #[.int .i64 kd, .int .i64 N, .bool raw, .string m]] W fun e w' => StepPost w0 l b s k y kd e w' := by
  obtain ⟨A1, A2, A3, c1, c2, c3, rfl, hh⟩ := HS.know m1
  have HM := Aside0.mk hS
  have HY := Aside0.mk (hS.okR (by omega))
  have HN := Aside0.mk hN
  have HK := Aside0.mk hk
  have hu := Try.underlying52
  have hu2 := Try.underlying57
  have hs2 := Aside0.mk (SL.new (SL.new (SL.new HS (cellsD y.R y.H y.MR y.W (.slice A1 y.buf.length c1) (.slice A2 y.inb.length c2) (.slice A3 y.gaps.length c3)) 52) (cellsT kd N raw m) 57) zeroD 52)
  rw [show ∀ o, (W.alloc o).heap.size = W.heap.size + 1 from fun o => by simp, show ∀ (w : World) o, (w.alloc o).heap.size = w.heap.size + 1 from fun w o => by simp, show ∀ o, (W.alloc o).heap.size = W.heap.size + 1 from fun o => by simp] at hs2
  clear HS
  have HS := Aside0.mk (hs2.out)
  clear hs2 hh hS hN hk
  have d1 : (kd == 1) = true := beq_iff_eq.2 (by omega)
  obtain ⟨n0, hn0⟩ : ∃ n, nearF N raw y.H = n := ⟨_, rfl⟩
  have hnr : 0 ≤ n0 ∧ n0 < 16777216 := hn0 ▸ nearF_range N raw y.H
  have HNR := Aside0.mk hnr
  have HNE := Aside0.mk hn0
  have hlo : lowN n0 = n0 := by unfold lowN; omega
  rw [hn0] at hP
  obtain ⟨P1, P2⟩ := hP
  have HP := Aside0.mk (poll_sim HM.out n0 hnr).1
  have HR := Aside0.mk (show (pollR y n0).1.W = y.W ∧ (1 ≤ kd ∧ kd ≤ 5 → (pollR y n0).1.R = y.R ∧ (pollR y n0).1.buf = y.buf) from ⟨by unfold pollR; split <;> rfl, fun _ => by unfold pollR; split <;> exact ⟨rfl, rfl⟩⟩)
  clear hkd hn0 hnr
  have hn1 : ¬ W.heap.size + 1 = W.heap.size := by omega
  have hn2 : ¬ W.heap.size + 1 + 1 = W.heap.size := by omega
  have hn3 : ¬ W.heap.size + 1 + 1 = W.heap.size + 1 := by omega
  unfold RefV
  go_enter Try.func24, Try.ntmps24
  go_wp2_with (first
    | (go_at_call 26; (with_reducible refine (near_c kd N raw m y.H HN.out (by have := HY.out.R; have := HY.out.H; omega) HS.out).mono ?_); rintro e w1 ⟨rfl, hs⟩; clear HS; have HS := Aside0.mk hs; clear hs; rw [HNE.out]; obtain ⟨⟨q0, z0⟩, ⟨q1, z1⟩, ⟨q2, z2⟩, ⟨q3, z3⟩, ⟨q4, z4⟩, ⟨q5, z5⟩, ⟨q6, z6⟩⟩ := cells7 HS.out m2; obtain ⟨⟨a0, j0⟩, ⟨a1, j1⟩, ⟨a2, j2⟩, ⟨a3, j3⟩⟩ := cells4 HS.out m1; obtain ⟨⟨u0, t0⟩, ⟨u1, t1⟩, ⟨u2, t2⟩, ⟨u3, t3⟩, ⟨u4, t4⟩, ⟨u5, t5⟩, ⟨u6, t6⟩⟩ := cells7 HS.out m0)
    | (go_at_call 38; (with_reducible refine (pollR_c HY.out n0 HNR.out (SL.pk [4] HS.out)).mono ?_); rintro e w2 ⟨v2, rfl, hs⟩; clear HS q0 z0 q1 z1 q2 z2 q3 z3 q4 z4 q5 z5 q6 z6 a0 j0 a1 j1 a2 j2 a3 j3 u0 t0 u1 t1 u2 t2 u3 t3 u4 t4 u5 t5 u6 t6; have HS := Aside0.mk hs; clear hs; rw [P2]; obtain ⟨y2, hy2⟩ : ∃ y2, (pollR y n0).1 = y2 := ⟨_, rfl⟩; rw [hy2] at HS HP HR; obtain ⟨B1, B2, B3, e1, e2, e3, ev, _⟩ := HS.out.know m0; subst ev; have hs2 := Aside0.mk (SL.pk [5] (SL.new HS.out (cellsD y2.R y2.H y2.MR y2.W (.slice B1 y2.buf.length e1) (.slice B2 y2.inb.length e2) (.slice B3 y2.gaps.length e3)) 52)); clear HS; have HS := hs2; clear hs2)
    | (go_at_call 12; (with_reducible refine (of_c _ _).mono ?_); rintro e w5 ⟨rfl, rfl⟩; rw [hlo])
    | (go_at_call 39; (with_reducible refine (poll_c HS.out n0).mono ?_); rintro e w3 ⟨rfl, hs⟩; clear HS; have HS := Aside0.mk hs; clear hs; rw [P1]; obtain ⟨⟨q0, z0⟩, ⟨q1, z1⟩, ⟨q2, z2⟩, ⟨q3, z3⟩, ⟨q4, z4⟩, ⟨q5, z5⟩, ⟨q6, z6⟩⟩ := cells7 HS.out m1; obtain ⟨⟨u0, t0⟩, ⟨u1, t1⟩, ⟨u2, t2⟩, ⟨u3, t3⟩, ⟨u4, t4⟩, ⟨u5, t5⟩, ⟨u6, t6⟩⟩ := cells7 HS.out m3))
  have hs2 := Aside0.mk (set7 (.int .i64 y2.R) (.int .i64 y2.H) (.int .i64 y2.MR) (.int .i64 y2.W) (.slice B1 y2.buf.length e1) (.slice B2 y2.inb.length e2) (.slice B3 y2.gaps.length e3) (SL.pk [3] HS.out))
  clear HS
  obtain ⟨⟨p0, r0⟩, ⟨p1, r1⟩, ⟨p2, r2⟩, ⟨p3, r3⟩, ⟨p4, r4⟩, ⟨p5, r5⟩, ⟨p6, r6⟩⟩ := cells7 hs2.out m0
  refine bodyPost_ret (v := .tuple #[RefV y2 B1 B2 B3 e1 e2 e3, .bool true]) (by simp [results, Try.results24, go_sem, RefV, p0, p1, p2, p3, p4, p5, p6]) rfl ⟨(pollF x n0).1, _, y2, hd, rfl, HP.out.more (by omega), HR.out, ?_⟩
  exact SL.sub (SL.pk [1, 2] hs2.out) (.cons_cons _ (.cons_cons _ (.cons _ (.cons _ (.cons _ (.cons _ (List.Sublist.refl _)))))))
set_option maxHeartbeats 2000000 in
set_option maxRecDepth 100000 in
theorem step_poll0 {w0 W : World} {l : List As} {b : Nat} {x : RS} {v : Value} {y : RR} {hd : List Hd} {s : Int} {k : Nat} (hS : Sim s k x y) (hk : k ≤ 900) (kd N : Int) (raw : Bool) (m : ByteArray) (hN : -9223372036854775808 ≤ N ∧ N ≤ 9223372036854775807) (hkd : kd = 1) (hP : (pollF x (nearF N raw y.H)).2 = 11 ∧ (pollR y (nearF N raw y.H)).2 = false) (HS : SL w0 W (RecvA b x :: RefA v y hd :: l)) :
    Calls Try.prog 24 #[.pointer (some ⟨b, 0, none⟩), v, .agg #[.int .i64 kd, .int .i64 N, .bool raw, .string m]] W fun e w' => StepPost w0 l b s k y kd e w' := by
  obtain ⟨A1, A2, A3, c1, c2, c3, rfl, hh⟩ := HS.know m1
  have HM := Aside0.mk hS
  have HY := Aside0.mk (hS.okR (by omega))
  have HN := Aside0.mk hN
  have HK := Aside0.mk hk
  have hu := Try.underlying52
  have hu2 := Try.underlying57
  have hs2 := Aside0.mk (SL.new (SL.new (SL.new HS (cellsD y.R y.H y.MR y.W (.slice A1 y.buf.length c1) (.slice A2 y.inb.length c2) (.slice A3 y.gaps.length c3)) 52) (cellsT kd N raw m) 57) zeroD 52)
  rw [show ∀ o, (W.alloc o).heap.size = W.heap.size + 1 from fun o => by simp, show ∀ (w : World) o, (w.alloc o).heap.size = w.heap.size + 1 from fun w o => by simp, show ∀ o, (W.alloc o).heap.size = W.heap.size + 1 from fun o => by simp] at hs2
  clear HS
  have HS := Aside0.mk (hs2.out)
  clear hs2 hh hS hN hk
  have d1 : (kd == 1) = true := beq_iff_eq.2 (by omega)
  obtain ⟨n0, hn0⟩ : ∃ n, nearF N raw y.H = n := ⟨_, rfl⟩
  have hnr : 0 ≤ n0 ∧ n0 < 16777216 := hn0 ▸ nearF_range N raw y.H
  have HNR := Aside0.mk hnr
  have HNE := Aside0.mk hn0
  have hlo : lowN n0 = n0 := by unfold lowN; omega
  rw [hn0] at hP
  obtain ⟨P1, P2⟩ := hP
  have HP := Aside0.mk (poll_sim HM.out n0 hnr).1
  have HR := Aside0.mk (show (pollR y n0).1.W = y.W ∧ (1 ≤ kd ∧ kd ≤ 5 → (pollR y n0).1.R = y.R ∧ (pollR y n0).1.buf = y.buf) from ⟨by unfold pollR; split <;> rfl, fun _ => by unfold pollR; split <;> exact ⟨rfl, rfl⟩⟩)
  clear hkd hn0 hnr
  have hn1 : ¬ W.heap.size + 1 = W.heap.size := by omega
  have hn2 : ¬ W.heap.size + 1 + 1 = W.heap.size := by omega
  have hn3 : ¬ W.heap.size + 1 + 1 = W.heap.size + 1 := by omega
  unfold RefV
  go_enter Try.func24, Try.ntmps24
  go_wp2_with (first
    | (go_at_call 26; (with_reducible refine (near_c kd N raw m y.H HN.out (by have := HY.out.R; have := HY.out.H; omega) HS.out).mono ?_); rintro e w1 ⟨rfl, hs⟩; clear HS; have HS := Aside0.mk hs; clear hs; rw [HNE.out]; obtain ⟨⟨q0, z0⟩, ⟨q1, z1⟩, ⟨q2, z2⟩, ⟨q3, z3⟩, ⟨q4, z4⟩, ⟨q5, z5⟩, ⟨q6, z6⟩⟩ := cells7 HS.out m2; obtain ⟨⟨a0, j0⟩, ⟨a1, j1⟩, ⟨a2, j2⟩, ⟨a3, j3⟩⟩ := cells4 HS.out m1; obtain ⟨⟨u0, t0⟩, ⟨u1, t1⟩, ⟨u2, t2⟩, ⟨u3, t3⟩, ⟨u4, t4⟩, ⟨u5, t5⟩, ⟨u6, t6⟩⟩ := cells7 HS.out m0)
    | (go_at_call 38; (with_reducible refine (pollR_c HY.out n0 HNR.out (SL.pk [4] HS.out)).mono ?_); rintro e w2 ⟨v2, rfl, hs⟩; clear HS q0 z0 q1 z1 q2 z2 q3 z3 q4 z4 q5 z5 q6 z6 a0 j0 a1 j1 a2 j2 a3 j3 u0 t0 u1 t1 u2 t2 u3 t3 u4 t4 u5 t5 u6 t6; have HS := Aside0.mk hs; clear hs; rw [P2]; obtain ⟨y2, hy2⟩ : ∃ y2, (pollR y n0).1 = y2 := ⟨_, rfl⟩; rw [hy2] at HS HP HR; obtain ⟨B1, B2, B3, e1, e2, e3, ev, _⟩ := HS.out.know m0; subst ev; have hs2 := Aside0.mk (SL.pk [5] (SL.new HS.out (cellsD y2.R y2.H y2.MR y2.W (.slice B1 y2.buf.length e1) (.slice B2 y2.inb.length e2) (.slice B3 y2.gaps.length e3)) 52)); clear HS; have HS := hs2; clear hs2)
    | (go_at_call 12; (with_reducible refine (of_c _ _).mono ?_); rintro e w5 ⟨rfl, rfl⟩; rw [hlo])
    | (go_at_call 39; (with_reducible refine (poll_c HS.out n0).mono ?_); rintro e w3 ⟨rfl, hs⟩; clear HS; have HS := Aside0.mk hs; clear hs; rw [P1]; obtain ⟨⟨q0, z0⟩, ⟨q1, z1⟩, ⟨q2, z2⟩, ⟨q3, z3⟩, ⟨q4, z4⟩, ⟨q5, z5⟩, ⟨q6, z6⟩⟩ := cells7 HS.out m1; obtain ⟨⟨u0, t0⟩, ⟨u1, t1⟩, ⟨u2, t2⟩, ⟨u3, t3⟩, ⟨u4, t4⟩, ⟨u5, t5⟩, ⟨u6, t6⟩⟩ := cells7 HS.out m3))
  have hs2 := Aside0.mk (set7 (.int .i64 y2.R) (.int .i64 y2.H) (.int .i64 y2.MR) (.int .i64 y2.W) (.slice B1 y2.buf.length e1) (.slice B2 y2.inb.length e2) (.slice B3 y2.gaps.length e3) (SL.pk [3] HS.out))
  clear HS
  obtain ⟨⟨p0, r0⟩, ⟨p1, r1⟩, ⟨p2, r2⟩, ⟨p3, r3⟩, ⟨p4, r4⟩, ⟨p5, r5⟩, ⟨p6, r6⟩⟩ := cells7 hs2.out m0
  refine bodyPost_ret (v := .tuple #[RefV y2 B1 B2 B3 e1 e2 e3, .bool true]) (by simp [results, Try.results24, go_sem, RefV, p0, p1, p2, p3, p4, p5, p6]) rfl ⟨(pollF x n0).1, _, y2, hd, rfl, HP.out.more (by omega), HR.out, ?_⟩
  exact SL.sub (SL.pk [1, 2] hs2.out) (.cons_cons _ (.cons_cons _ (.cons _ (.cons _ (.cons _ (.cons _ (List.Sublist.refl _)))))))
theorem RefP.dropI {y z : RR} {hd : List Hd} {mm : Nat} {A1 A2 A3 A4 : Option Addr} {c1 c2 c3 : Nat} {W : World} (h : RefP (RefV y A1 A2 A3 c1 c2 c3) y hd W) (h1 : z.buf = y.buf) (h2 : z.inb = y.inb.drop mm) (h3 : z.gaps = y.gaps) (hm : mm ≤ y.inb.length) (h4 : (if c2 = mm then A2 else A2.map (·.add (mm * 1))) = A4) : RefP (RefV z A1 A4 A3 c1 (c2 - mm) c3) z hd W := by
  obtain ⟨l, k1, k2, k3, k4⟩ := refCW h
  subst h4
  refine ⟨A1, _, A3, c1, c2 - mm, c3, rfl, ⟨by rw [h1]; exact l.1, by rw [h2, List.length_drop]; omega, by rw [h3]; exact l.2.2⟩, by rw [h1]; exact k1, ?_, by rw [h3]; exact k3, by rw [h3]; exact k4⟩
  rw [h2]
  exact Kd.C_drop (m := mm) (c := c2) k2 hm l.2.1
set_option maxHeartbeats 2000000 in
set_option maxRecDepth 100000 in
theorem step_take {w0 W : World} {l : List As} {b : Nat} {x : RS} {v : Value} {y : RR} {hd : List Hd} {s : Int} {k : Nat} (hS : Sim s k x y) (hk : k ≤ 900) (kd N : Int) (raw : Bool) (m : ByteArray) (hN : -9223372036854775808 ≤ N ∧ N ≤ 9223372036854775807) (hkd : kd = 4) (HS : SL w0 W (RecvA b x :: RefA v y hd :: l)) :
    Calls Try.prog 24 #[.pointer (some ⟨b, 0, none⟩), v, .agg #[.int .i64 kd, .int .i64 N, .bool raw, .string m]] W fun e w' => StepPost w0 l b s k y kd e w' := by
  obtain ⟨A1, A2, A3, c1, c2, c3, rfl, hh⟩ := HS.know m1
  have HM := Aside0.mk hS
  have HY := Aside0.mk (hS.okR (by omega))
  have HN := Aside0.mk hN
  have HK := Aside0.mk hk
  have hu := Try.underlying52
  have hu2 := Try.underlying57
  have hs2 := Aside0.mk (SL.new (SL.new (SL.new HS (cellsD y.R y.H y.MR y.W (.slice A1 y.buf.length c1) (.slice A2 y.inb.length c2) (.slice A3 y.gaps.length c3)) 52) (cellsT kd N raw m) 57) zeroD 52)
  rw [show ∀ o, (W.alloc o).heap.size = W.heap.size + 1 from fun o => by simp, show ∀ (w : World) o, (w.alloc o).heap.size = w.heap.size + 1 from fun w o => by simp, show ∀ o, (W.alloc o).heap.size = W.heap.size + 1 from fun o => by simp] at hs2
  clear HS
  have HS := Aside0.mk (hs2.out)
  clear hs2 hh hS hN hk
  have d1 : (kd == 1) = false := beq_eq_false_iff_ne.2 (by omega)
  have d2 : (kd == 2) = false := beq_eq_false_iff_ne.2 (by omega)
  have d3 : (kd == 3) = false := beq_eq_false_iff_ne.2 (by omega)
  have d4 : (kd == 4) = true := beq_iff_eq.2 (by omega)
  obtain ⟨mm, hmm⟩ : ∃ mm, (max 0 (min N y.inb.length)).toNat = mm := ⟨_, rfl⟩
  have hml : mm ≤ y.inb.length := by omega
  have hv : mx 0 (mn N (y.inb.length : Int)) = (mm : Int) := by unfold mx mn; split <;> split <;> omega
  have hv2 : max 0 (min N (y.inb.length : Int)) = (mm : Int) := by omega
  obtain ⟨i0, hi, hzz⟩ := Option.map_eq_some_iff.1 infoS
  simp only [Prod.mk.injEq] at hzz
  have hcc := (refCW (HS.out.know m4)).1.2.1
  have hs1 : ∀ W : World, (Instr.slice 30 (.slice A2 y.inb.length c2) none (some (.int .i64 (mm : Int))) none).run Try.prog W = .ok (.slice A2 mm c2) W := fun W => by
    have := cut_to 30 9 .i64 Try.underlying30 hi A2 y.inb.length c2 (mm : Int) (Int.natCast_nonneg _) (by omega) hcc W
    rwa [Int.toNat_natCast] at this
  obtain ⟨A4, hA4⟩ : ∃ A4, (if c2 = mm then A2 else A2.map (·.add (mm * 1))) = A4 := ⟨_, rfl⟩
  have hs2 : ∀ W : World, (Instr.slice 30 (.slice A2 y.inb.length c2) (some (.int .i64 (mm : Int))) none none).run Try.prog W = .ok (.slice A4 (y.inb.length - mm) (c2 - mm)) W := fun W => by
    have := cut_from 30 9 .i64 Try.underlying30 hi 1 hzz.2.1 A2 y.inb.length c2 (mm : Int) (Int.natCast_nonneg _) (by omega) W
    rwa [Int.toNat_natCast, hA4] at this
  have HA4 := Aside0.mk hA4
  have HML := Aside0.mk hml
  have HCC := Aside0.mk hcc
  have ht := take_sim HM.out N
  rw [hmm] at ht
  have HT := Aside0.mk ht
  obtain ⟨y2, hy2⟩ : ∃ y2, { y with inb := y.inb.drop mm } = y2 := ⟨_, rfl⟩
  have HY2 := Aside0.mk hy2
  clear hkd hmm hml hi hzz i0 hA4 hcc ht hy2
  have hn1 : ¬ W.heap.size + 1 = W.heap.size := by omega
  have hn2 : ¬ W.heap.size + 1 + 1 = W.heap.size := by omega
  have hn3 : ¬ W.heap.size + 1 + 1 = W.heap.size + 1 := by omega
  unfold RefV
  go_enter Try.func24, Try.ntmps24
  go_wp2_with (first
    | (go_at_call 21; (with_reducible refine (take_c (by have := HM.out.ok.inb; omega) (SL.pk [3] HS.out) N).mono ?_); rintro e w1 ⟨v1, rfl, hs⟩; clear HS; rw [HT.out.2] at hs; have HS := Aside0.mk hs; clear hs; obtain ⟨A5, c5, e5, he5⟩ := SL.form HS.out (.head _); subst e5; have HC5 := Aside0.mk he5; clear he5; obtain ⟨⟨q0, z0⟩, ⟨q1, z1⟩, ⟨q2, z2⟩, ⟨q3, z3⟩, ⟨q4, z4⟩, ⟨q5, z5⟩, ⟨q6, z6⟩⟩ := cells7 HS.out m4))
  have hl2 : y2.inb.length = y.inb.length - mm := by rw [← HY2.out]; exact List.length_drop
  have e0 : y2.R = y.R ∧ y2.H = y.H ∧ y2.MR = y.MR ∧ y2.W = y.W ∧ y2.buf = y.buf ∧ y2.gaps = y.gaps := by rw [← HY2.out]; exact ⟨rfl, rfl, rfl, rfl, rfl, rfl⟩
  have hs3 := Aside0.mk (SL.set (cs' := #[.int .i64 y.R, .int .i64 y.H, .int .i64 y.MR, .int .i64 y.W, .slice A1 y.buf.length c1, .slice A4 (y.inb.length - mm) (c2 - mm), .slice A3 y.gaps.length c3]) (SL.pk [4] HS.out) 5 (.slice A4 (y.inb.length - mm) (c2 - mm)) rfl)
  clear HS q0 z0 q1 z1 q2 z2 q3 z3 q4 z4 q5 z5 q6 z6 hs1 hs2 hv hv2
  have HS := hs3
  clear hs3
  generalize World.setCell _ _ _ = w3 at HS ⊢
  rw [← hl2, ← e0.1, ← e0.2.1, ← e0.2.2.1, ← e0.2.2.2.1, ← e0.2.2.2.2.1, ← e0.2.2.2.2.2] at HS
  generalize W.heap.size + 1 + 1 = b6 at *
  generalize W.heap.size + 1 = b5 at *
  generalize W.heap.size = b4 at *
  refine start_ (n := 6) (S := fun w' => w'.cell? ⟨b4, 0, none⟩ = some (.int .i64 y2.R) ∧ w'.cell? ⟨b4, 1, none⟩ = some (.int .i64 y2.H) ∧ w'.cell? ⟨b4, 2, none⟩ = some (.int .i64 y2.MR) ∧ w'.cell? ⟨b4, 3, none⟩ = some (.int .i64 y2.W) ∧ w'.cell? ⟨b4, 4, none⟩ = some (.slice A1 y2.buf.length c1) ∧ w'.cell? ⟨b4, 5, none⟩ = some (.slice A4 y2.inb.length (c2 - mm)) ∧ w'.cell? ⟨b4, 6, none⟩ = some (.slice A3 y2.gaps.length c3)) (ds := []) #[false, false, false, false, false, false] (by kernel_rfl) rfl rfl ⟨(cells7 HS.out m0).1.1, (cells7 HS.out m0).2.1.1, (cells7 HS.out m0).2.2.1.1, (cells7 HS.out m0).2.2.2.1.1, (cells7 HS.out m0).2.2.2.2.1.1, (cells7 HS.out m0).2.2.2.2.2.1.1, (cells7 HS.out m0).2.2.2.2.2.2.1⟩ (fun hHeld => ?_)
  have hs_ := Aside0.mk (SL.drew (W := w3) (by repeat (first | (with_reducible exact HS.out) | (with_reducible apply SL.alloc) | (with_reducible apply SL.drewN) | (with_reducible apply SL.drew))))
  clear HS
  have HS := hs_
  clear hs_
  generalize (w3 : World).drew = w4 at HS hHeld ⊢
  refine pure_ (i := 1) (N := (some 178)) (v := ?_) (a' := ?_) #[false, true, false, false, false, false] rfl rfl (by kernel_rfl) (fun _ _ _ h => h) (Or.inl ⟨by rfl, ?_⟩) ?_ ?_
  rotate_left
  · intro w'; go_simp; with_reducible rfl
  rotate_left
  · simp only [Act.put, List.setIfInBounds_toArray, List.set_cons_zero, List.set_cons_succ, i64_w, i32_w]; rfl
  refine pure_ (i := 2) (N := (some 179)) (v := ?_) (a' := ?_) #[false, true, true, false, false, false] rfl rfl (by kernel_rfl) (fun _ _ _ h => h) (Or.inl ⟨by rfl, ?_⟩) ?_ ?_
  rotate_left
  · intro w'; go_simp; with_reducible rfl
  rotate_left
  · simp only [Act.put, List.setIfInBounds_toArray, List.set_cons_zero, List.set_cons_succ, i64_w, i32_w]; rfl
  refine take_ (i := 0) (N := (some 177)) (v := ?_) (a' := ?_) #[true, true, true, false, false, false] rfl rfl (by kernel_rfl) (fun _ _ _ h => h) (Or.inl ⟨by rfl, ?_⟩) hHeld ?_ ?_
  rotate_left
  · rintro w' ⟨s0, s1, s2, s3, s4, s5, s6⟩; go_simp; with_reducible rfl
  rotate_left
  · simp only [Act.put, List.setIfInBounds_toArray, List.set_cons_zero, List.set_cons_succ, i64_w, i32_w]; rfl
  refine one_ (i := 3) (N := (some 180)) #[true, true, true, true, false, false] rfl rfl (by kernel_rfl) (by decide) (fun K hK => ?_)
  refine goes_ Try.func20 (by kernel_rfl) rfl #[.slice A5 (y.inb.take mm).length c5, .slice A2 mm c2] (by rfl) rfl rfl (by (try simp only [List.map_toArray, List.map_cons, List.map_nil]); first | done | rfl | (simp only [List.length_drop, List.length_take]; rfl)) ?_
  refine (same_c (l0 := y.inb.take mm) (l1 := y.inb.take mm) (by have := HM.out.ok.inb; rw [HM.out.inb] at this; rw [List.length_take]; omega) (SL.reads HS.out m1) HC5.out (Kd.C_take (refCW (HS.out.know m5)).2.2.1 HML.out) (by have := HCC.out; have := HML.out; rw [List.length_take]; omega) rfl (by have := HML.out; rw [List.length_take]; omega) HS.out).mono ?_
  rintro e w5 ⟨rfl, hs⟩
  refine ⟨_, rfl, ?_⟩
  rw [show decide (y.inb.take mm = y.inb.take mm) = true from decide_eq_true rfl]
  clear HS
  have HS := Aside0.mk hs
  clear hs
  obtain ⟨⟨u0, t0⟩, ⟨u1, t1⟩, ⟨u2, t2⟩, ⟨u3, t3⟩, ⟨u4, t4⟩, ⟨u5, t5⟩, ⟨u6, t6⟩⟩ := cells7 HS.out m3
  refine hK.out _ _ ⟨(cells7 HS.out m0).1.1, (cells7 HS.out m0).2.1.1, (cells7 HS.out m0).2.2.1.1, (cells7 HS.out m0).2.2.2.1.1, (cells7 HS.out m0).2.2.2.2.1.1, (cells7 HS.out m0).2.2.2.2.2.1.1, (cells7 HS.out m0).2.2.2.2.2.2.1⟩ (fun hHeld => ?_)
  clear hK K
  refine norm_ (a' := ?_) ?_ ?_
  rotate_left
  · show Act.put _ (some 180) _ = _; simp only [Act.put, List.setIfInBounds_toArray, List.set_cons_zero, List.set_cons_succ, i64_w, i32_w]; rfl
  refine one_ (i := 4) (N := none) #[true, true, true, true, true, false] rfl rfl (by kernel_rfl) (by decide) (fun K hK => ?_)
  refine skip_ (w1 := (((((((w5.setCell ⟨b6, 0, none⟩ (.int .i64 y2.R)).setCell ⟨b6, 1, none⟩ (.int .i64 y2.H)).setCell ⟨b6, 2, none⟩ (.int .i64 y2.MR)).setCell ⟨b6, 3, none⟩ (.int .i64 y2.W)).setCell ⟨b6, 4, none⟩ (.slice A1 y2.buf.length c1)).setCell ⟨b6, 5, none⟩ (.slice A4 y2.inb.length (c2 - mm))).setCell ⟨b6, 6, none⟩ (.slice A3 y2.gaps.length c3))) (by rfl) rfl (by go_simp) ?_
  have hs := set7 (.int .i64 y2.R) (.int .i64 y2.H) (.int .i64 y2.MR) (.int .i64 y2.W) (.slice A1 y2.buf.length c1) (.slice A4 y2.inb.length (c2 - mm)) (.slice A3 y2.gaps.length c3) (SL.pk [3] HS.out)
  clear HS
  have HS := Aside0.mk hs
  clear hs
  refine hK.out _ _ ⟨(cells7 HS.out m1).1.1, (cells7 HS.out m1).2.1.1, (cells7 HS.out m1).2.2.1.1, (cells7 HS.out m1).2.2.2.1.1, (cells7 HS.out m1).2.2.2.2.1.1, (cells7 HS.out m1).2.2.2.2.2.1.1, (cells7 HS.out m1).2.2.2.2.2.2.1⟩ (fun hHeld => ?_)
  clear hK K
  refine pure_ (i := 5) (N := (some 7)) (v := ?_) (a' := ?_) #[true, true, true, true, true, true] rfl rfl (by kernel_rfl) (fun _ _ _ h => h) (Or.inl ⟨by rfl, ?_⟩) ?_ ?_
  rotate_left
  · intro w'; go_simp; with_reducible rfl
  rotate_left
  · simp only [Act.put, List.setIfInBounds_toArray, List.set_cons_zero, List.set_cons_succ, i64_w, i32_w]; rfl
  refine done_ (by kernel_rfl) ?_
  go_wp2_with fail
  obtain ⟨⟨p0, r0⟩, ⟨p1, r1⟩, ⟨p2, r2⟩, ⟨p3, r3⟩, ⟨p4, r4⟩, ⟨p5, r5⟩, ⟨p6, r6⟩⟩ := cells7 HS.out m0
  refine bodyPost_ret (v := .tuple #[RefV y2 A1 A4 A3 c1 (c2 - mm) c3, .bool true]) (by simp [results, Try.results24, go_sem, RefV, p0, p1, p2, p3, p4, p5, p6]) rfl ⟨(takeF x N).1, _, y2, hd, rfl, (HY2.out ▸ HT.out.1).more (by omega), ⟨e0.2.2.2.1, fun _ => ⟨e0.1, e0.2.2.2.2.1⟩⟩, ?_⟩
  exact SL.swap (SL.imm_mono (SL.swap (SL.sub HS.out (.cons _ (.cons _ (.cons _ (.cons_cons _ (.cons _ (.cons_cons _ (List.Sublist.refl _))))))))) (fun W h => RefP.dropI h e0.2.2.2.2.1 (by rw [← HY2.out]) e0.2.2.2.2.2 HML.out HA4.out))
set_option maxHeartbeats 2000000 in
set_option maxRecDepth 100000 in
theorem step_data {w0 W : World} {l : List As} {b : Nat} {x : RS} {v : Value} {y : RR} {hd : List Hd} {s : Int} {k : Nat} (hS : Sim s k x y) (hk : k ≤ 900) (kd N : Int) (raw : Bool) (m : ByteArray) (hN : -9223372036854775808 ≤ N ∧ N ≤ 9223372036854775807) (hkd : ¬ (1 ≤ kd ∧ kd ≤ 5)) (HS : SL w0 W (RecvA b x :: RefA v y hd :: l)) :
    Calls Try.prog 24 #[.pointer (some ⟨b, 0, none⟩), v, .agg #[.int .i64 kd, .int .i64 N, .bool raw, .string m]] W fun e w' => StepPost w0 l b s k y kd e w' := by
  obtain ⟨A1, A2, A3, c1, c2, c3, rfl, hh⟩ := HS.know m1
  have HM := Aside0.mk hS
  have HY := Aside0.mk (hS.okR (by omega))
  have HN := Aside0.mk hN
  have HK := Aside0.mk hk
  have hu := Try.underlying52
  have hu2 := Try.underlying57
  have hs2 := Aside0.mk (SL.new (SL.new (SL.new HS (cellsD y.R y.H y.MR y.W (.slice A1 y.buf.length c1) (.slice A2 y.inb.length c2) (.slice A3 y.gaps.length c3)) 52) (cellsT kd N raw m) 57) zeroD 52)
  rw [show ∀ o, (W.alloc o).heap.size = W.heap.size + 1 from fun o => by simp, show ∀ (w : World) o, (w.alloc o).heap.size = w.heap.size + 1 from fun w o => by simp, show ∀ o, (W.alloc o).heap.size = W.heap.size + 1 from fun o => by simp] at hs2
  clear HS
  have HS := Aside0.mk (hs2.out)
  clear hs2 hh hS hN hk
  have d1 : (kd == 1) = false := beq_eq_false_iff_ne.2 (by omega)
  have d2 : (kd == 2) = false := beq_eq_false_iff_ne.2 (by omega)
  have d3 : (kd == 3) = false := beq_eq_false_iff_ne.2 (by omega)
  have d4 : (kd == 4) = false := beq_eq_false_iff_ne.2 (by omega)
  have d5 : (kd == 5) = false := beq_eq_false_iff_ne.2 (by omega)
  obtain ⟨n0, hn0⟩ : ∃ n, nearF N raw y.R = n := ⟨_, rfl⟩
  have hnr : 0 ≤ n0 ∧ n0 < 16777216 := hn0 ▸ nearF_range N raw y.R
  have HNR := Aside0.mk hnr
  have HNE := Aside0.mk hn0
  have HLO : Aside0 (lowN n0 = n0) := ⟨by unfold lowN; omega⟩
  obtain ⟨mc, hmc⟩ : ∃ mc, cutF m = mc := ⟨_, rfl⟩
  have HMC := Aside0.mk hmc
  have HD := Aside0.mk (data_sim HM.out n0 hnr mc)
  have HDW : Aside0 ((dataR y n0 mc).1.W = y.W) := ⟨by
    unfold dataR
    split
    · rfl
    · unfold pullR keepR
      rfl⟩
  have HKD := Aside0.mk hkd
  have HSZ : Aside0 (y.buf.length ≤ 900000 ∧ y.inb.length ≤ 90000) := ⟨by have h1 := HM.out.bufl; have h2 := HM.out.w; have h3 := HM.out.rh; omega⟩
  have HSZ2 : Aside0 ((dataR y n0 mc).2.length ≤ 1000000) := ⟨by
    have h1 := HD.out.1.ok.inb
    have h2 : (dataF x n0 mc).1.inb = x.inb ++ (dataF x n0 mc).2 := by
      unfold dataF
      split
      · exact (List.append_nil _).symm
      · unfold deliverF dataG
        split <;> rfl
    rw [h2, List.length_append, HD.out.2.1] at h1
    omega⟩
  clear hkd hn0 hnr hmc
  have hn1 : ¬ W.heap.size + 1 = W.heap.size := by omega
  have hn2 : ¬ W.heap.size + 1 + 1 = W.heap.size := by omega
  have hn3 : ¬ W.heap.size + 1 + 1 = W.heap.size + 1 := by omega
  unfold RefV
  go_enter Try.func24, Try.ntmps24
  go_wp2_with fail
  dsimp only [cellsD, cellsT, zeroD] at HS
  generalize World.alloc _ _ = w1 at HS ⊢
  generalize W.heap.size + 1 + 1 = b6 at *
  generalize W.heap.size + 1 = b5 at *
  generalize W.heap.size = b4 at *
  refine start_ (n := 9) (S := fun w' => w'.cell? ⟨b5, 0, none⟩ = some (.int .i64 kd) ∧ w'.cell? ⟨b5, 1, none⟩ = some (.int .i64 N) ∧ w'.cell? ⟨b5, 2, none⟩ = some (.bool raw) ∧ w'.cell? ⟨b5, 3, none⟩ = some (.string m) ∧ w'.cell? ⟨b4, 0, none⟩ = some (.int .i64 y.R)) (ds := []) #[false, false, false, false, false, false, false, false, false] (by kernel_rfl) rfl rfl ⟨(cells4 HS.out m1).1.1, (cells4 HS.out m1).2.1.1, (cells4 HS.out m1).2.2.1.1, (cells4 HS.out m1).2.2.2.1, (cells7 HS.out m2).1.1⟩ (fun hHeld => ?_)
  have hs_ := Aside0.mk (SL.drew (W := w1) (by repeat (first | (with_reducible exact HS.out) | (with_reducible apply SL.alloc) | (with_reducible apply SL.drewN) | (with_reducible apply SL.drew))))
  clear HS
  have HS := hs_
  clear hs_
  generalize (w1 : World).drew = w2 at HS hHeld ⊢
  refine pure_ (i := 1) (N := (some 207)) (v := ?_) (a' := ?_) #[false, true, false, false, false, false, false, false, false] rfl rfl (by kernel_rfl) (fun _ _ _ h => h) (Or.inl ⟨by rfl, ?_⟩) ?_ ?_
  rotate_left
  · intro w'; go_simp; with_reducible rfl
  rotate_left
  · simp only [Act.put, List.setIfInBounds_toArray, List.set_cons_zero, List.set_cons_succ, i64_w, i32_w]; rfl
  refine pure_ (i := 4) (N := (some 210)) (v := ?_) (a' := ?_) #[false, true, false, false, true, false, false, false, false] rfl rfl (by kernel_rfl) (fun _ _ _ h => h) (Or.inl ⟨by rfl, ?_⟩) ?_ ?_
  rotate_left
  · intro w'; go_simp; with_reducible rfl
  rotate_left
  · simp only [Act.put, List.setIfInBounds_toArray, List.set_cons_zero, List.set_cons_succ, i64_w, i32_w]; rfl
  refine take_ (i := 0) (N := (some 206)) (v := ?_) (a' := ?_) #[true, true, false, false, true, false, false, false, false] rfl rfl (by kernel_rfl) (fun _ _ _ h => h) (Or.inl ⟨by rfl, ?_⟩) hHeld ?_ ?_
  rotate_left
  · rintro w' ⟨s0, s1, s2, s3, s4⟩; go_simp; with_reducible rfl
  rotate_left
  · simp only [Act.put, List.setIfInBounds_toArray, List.set_cons_zero, List.set_cons_succ, i64_w, i32_w]; rfl
  refine take_ (i := 2) (N := (some 208)) (v := ?_) (a' := ?_) #[true, true, true, false, true, false, false, false, false] rfl rfl (by kernel_rfl) (fun _ _ _ h => h) (Or.inl ⟨by rfl, ?_⟩) hHeld ?_ ?_
  rotate_left
  · rintro w' ⟨s0, s1, s2, s3, s4⟩; go_simp; with_reducible rfl
  rotate_left
  · simp only [Act.put, List.setIfInBounds_toArray, List.set_cons_zero, List.set_cons_succ, i64_w, i32_w]; rfl
  refine take_ (i := 5) (N := (some 211)) (v := ?_) (a' := ?_) #[true, true, true, false, true, true, false, false, false] rfl rfl (by kernel_rfl) (fun _ _ _ h => h) (Or.inl ⟨by rfl, ?_⟩) hHeld ?_ ?_
  rotate_left
  · rintro w' ⟨s0, s1, s2, s3, s4⟩; go_simp; with_reducible rfl
  rotate_left
  · simp only [Act.put, List.setIfInBounds_toArray, List.set_cons_zero, List.set_cons_succ, i64_w, i32_w]; rfl
  refine one_ (i := 3) (N := (some 209)) #[true, true, true, true, true, true, false, false, false] rfl rfl (by kernel_rfl) (by decide) (fun K hK => ?_)
  refine goes_ Try.func26 (by kernel_rfl) rfl #[.agg #[.int .i64 kd, .int .i64 N, .bool raw, .string m], .int .i64 y.R] (by rfl) rfl rfl (by (try simp only [List.map_toArray, List.map_cons, List.map_nil]); first | done | rfl | (simp only [List.length_drop, List.length_take]; rfl)) ?_
  refine (near_c kd N raw m y.R HN.out (by have := HY.out.R; omega) HS.out).mono ?_
  rintro e w3 ⟨rfl, hs⟩
  refine ⟨_, rfl, ?_⟩
  rw [HNE.out]
  clear HS
  have HS := Aside0.mk hs
  clear hs
  refine hK.out _ _ ⟨(cells4 HS.out m1).1.1, (cells4 HS.out m1).2.1.1, (cells4 HS.out m1).2.2.1.1, (cells4 HS.out m1).2.2.2.1, (cells7 HS.out m2).1.1⟩ (fun hHeld => ?_)
  clear hK K
  refine norm_ (a' := ?_) ?_ ?_
  rotate_left
  · show Act.put _ (some 209) _ = _; simp only [Act.put, List.setIfInBounds_toArray, List.set_cons_zero, List.set_cons_succ, i64_w, i32_w]; rfl
  refine one_ (i := 6) (N := (some 212)) #[true, true, true, true, true, true, true, false, false] rfl rfl (by kernel_rfl) (by decide) (fun K hK => ?_)
  refine goes_ Try.func19 (by kernel_rfl) rfl #[.string m, .int .i64 5] (by rfl) rfl rfl (by (try simp only [List.map_toArray, List.map_cons, List.map_nil]); first | done | rfl | (simp only [List.length_drop, List.length_take]; rfl)) ?_
  refine (cut_c m HS.out).mono ?_
  rintro e w4 ⟨rfl, hs⟩
  refine ⟨_, rfl, ?_⟩
  rw [HMC.out]
  clear HS
  have HS := Aside0.mk hs
  clear hs
  refine hK.out _ _ ⟨(cells4 HS.out m1).1.1, (cells4 HS.out m1).2.1.1, (cells4 HS.out m1).2.2.1.1, (cells4 HS.out m1).2.2.2.1, (cells7 HS.out m2).1.1⟩ (fun hHeld => ?_)
  clear hK K
  refine norm_ (a' := ?_) ?_ ?_
  rotate_left
  · show Act.put _ (some 212) _ = _; simp only [Act.put, List.setIfInBounds_toArray, List.set_cons_zero, List.set_cons_succ, i64_w, i32_w]; rfl
  refine pure_ (i := 7) (N := (some 27)) (v := ?_) (a' := ?_) #[true, true, true, true, true, true, true, true, false] rfl rfl (by kernel_rfl) (fun _ _ _ h => h) (Or.inl ⟨by rfl, ?_⟩) ?_ ?_
  rotate_left
  · intro w'; go_simp; with_reducible rfl
  rotate_left
  · simp only [Act.put, List.setIfInBounds_toArray, List.set_cons_zero, List.set_cons_succ, i64_w, i32_w]; rfl
  refine pure_ (i := 8) (N := (some 28)) (v := ?_) (a' := ?_) #[true, true, true, true, true, true, true, true, true] rfl rfl (by kernel_rfl) (fun _ _ _ h => h) (Or.inl ⟨by rfl, ?_⟩) ?_ ?_
  rotate_left
  · intro w'; go_simp; with_reducible rfl
  rotate_left
  · simp only [Act.put, List.setIfInBounds_toArray, List.set_cons_zero, List.set_cons_succ, i64_w, i32_w]; rfl
  refine done_ (by kernel_rfl) ?_
  obtain ⟨⟨q0, z0⟩, ⟨q1, z1⟩, ⟨q2, z2⟩, ⟨q3, z3⟩, ⟨q4, z4⟩, ⟨q5, z5⟩, ⟨q6, z6⟩⟩ := cells7 HS.out m2
  go_wp2_with (first
    | (go_at_call 28; (with_reducible refine (dataR_c HY.out n0 HNR.out mc HSZ.out.1 HSZ.out.2 (SL.pk [4] HS.out)).mono ?_); rintro e w5 ⟨v2, vs, hd2, rfl, hs⟩; clear HS q0 z0 q1 z1 q2 z2 q3 z3 q4 z4 q5 z5 q6 z6; have HS := Aside0.mk hs; clear hs; obtain ⟨y2, hy2⟩ : ∃ y2, (dataR y n0 mc).1 = y2 := ⟨_, rfl⟩; rw [hy2] at HS HD HDW; obtain ⟨B1, B2, B3, e1, e2, e3, ev, _⟩ := HS.out.know m0; subst ev; obtain ⟨A8, c8, e8, he8⟩ := SL.form HS.out (.tail _ (.head _)); subst e8; have HC8 := Aside0.mk he8; clear he8; have hs2 := Aside0.mk (SL.new HS.out (cellsD y2.R y2.H y2.MR y2.W (.slice B1 y2.buf.length e1) (.slice B2 y2.inb.length e2) (.slice B3 y2.gaps.length e3)) 52); clear HS; have HS := hs2; clear hs2))
  dsimp only [cellsD] at HS
  generalize World.alloc _ _ = w6 at HS ⊢
  generalize w5.heap.size = b9 at *
  have hs2 : Aside0 (SL w0 w6 (RecvA b x :: Blk b9 (cellsD y2.R y2.H y2.MR y2.W (.slice B1 y2.buf.length e1) (.slice B2 y2.inb.length e2) (.slice B3 y2.gaps.length e3)) 52 :: RefA (RefV y2 B1 B2 B3 e1 e2 e3) y2 hd2 :: Row Kd.string 9 (.slice A8 (dataR y n0 mc).2.length c8) (dataR y n0 mc).2 :: Blk b6 zeroD 52 :: Blk b5 (cellsT kd N raw m) 57 :: Blk b4 (cellsD y.R y.H y.MR y.W (.slice A1 y.buf.length c1) (.slice A2 y.inb.length c2) (.slice A3 y.gaps.length c3)) 52 :: l)) := ⟨SL.pk [6] HS.out⟩
  clear HS
  have HS := hs2
  clear hs2
  refine start_ (n := 10) (S := fun w' => w'.cell? ⟨b9, 0, none⟩ = some (.int .i64 y2.R) ∧ w'.cell? ⟨b9, 1, none⟩ = some (.int .i64 y2.H) ∧ w'.cell? ⟨b9, 2, none⟩ = some (.int .i64 y2.MR) ∧ w'.cell? ⟨b9, 3, none⟩ = some (.int .i64 y2.W) ∧ w'.cell? ⟨b9, 4, none⟩ = some (.slice B1 y2.buf.length e1) ∧ w'.cell? ⟨b9, 5, none⟩ = some (.slice B2 y2.inb.length e2) ∧ w'.cell? ⟨b9, 6, none⟩ = some (.slice B3 y2.gaps.length e3)) (ds := []) #[false, false, false, false, false, false, false, false, false, false] (by kernel_rfl) rfl rfl ⟨(cells7 HS.out m1).1.1, (cells7 HS.out m1).2.1.1, (cells7 HS.out m1).2.2.1.1, (cells7 HS.out m1).2.2.2.1.1, (cells7 HS.out m1).2.2.2.2.1.1, (cells7 HS.out m1).2.2.2.2.2.1.1, (cells7 HS.out m1).2.2.2.2.2.2.1⟩ (fun hHeld => ?_)
  have hs_ := Aside0.mk (SL.drew (W := w6) (by repeat (first | (with_reducible exact HS.out) | (with_reducible apply SL.alloc) | (with_reducible apply SL.drewN) | (with_reducible apply SL.drew))))
  clear HS
  have HS := hs_
  clear hs_
  generalize (w6 : World).drew = w7 at HS hHeld ⊢
  refine pure_ (i := 1) (N := (some 221)) (v := ?_) (a' := ?_) #[false, true, false, false, false, false, false, false, false, false] rfl rfl (by kernel_rfl) (fun _ _ _ h => h) (Or.inl ⟨by rfl, ?_⟩) ?_ ?_
  rotate_left
  · intro w'; go_simp; with_reducible rfl
  rotate_left
  · simp only [Act.put, List.setIfInBounds_toArray, List.set_cons_zero, List.set_cons_succ, i64_w, i32_w]; rfl
  refine pure_ (i := 2) (N := (some 222)) (v := ?_) (a' := ?_) #[false, true, true, false, false, false, false, false, false, false] rfl rfl (by kernel_rfl) (fun _ _ _ h => h) (Or.inl ⟨by rfl, ?_⟩) ?_ ?_
  rotate_left
  · intro w'; go_simp; with_reducible rfl
  rotate_left
  · simp only [Act.put, List.setIfInBounds_toArray, List.set_cons_zero, List.set_cons_succ, i64_w, i32_w]; rfl
  refine pure_ (i := 4) (N := (some 224)) (v := ?_) (a' := ?_) #[false, true, true, false, true, false, false, false, false, false] rfl rfl (by kernel_rfl) (fun _ _ _ h => h) (Or.inl ⟨by rfl, ?_⟩) ?_ ?_
  rotate_left
  · intro w'; go_simp; with_reducible rfl
  rotate_left
  · simp only [Act.put, List.setIfInBounds_toArray, List.set_cons_zero, List.set_cons_succ, i64_w, i32_w]; rfl
  refine pure_ (i := 6) (N := (some 226)) (v := ?_) (a' := ?_) #[false, true, true, false, true, false, true, false, false, false] rfl rfl (by kernel_rfl) (fun _ _ _ h => h) (Or.inl ⟨by rfl, ?_⟩) ?_ ?_
  rotate_left
  · intro w'; go_simp; with_reducible rfl
  rotate_left
  · simp only [Act.put, List.setIfInBounds_toArray, List.set_cons_zero, List.set_cons_succ, i64_w, i32_w]; rfl
  refine take_ (i := 0) (N := (some 220)) (v := ?_) (a' := ?_) #[true, true, true, false, true, false, true, false, false, false] rfl rfl (by kernel_rfl) (fun _ _ _ h => h) (Or.inl ⟨by rfl, ?_⟩) hHeld ?_ ?_
  rotate_left
  · rintro w' ⟨s0, s1, s2, s3, s4, s5, s6⟩; go_simp; with_reducible rfl
  rotate_left
  · simp only [Act.put, List.setIfInBounds_toArray, List.set_cons_zero, List.set_cons_succ, i64_w, i32_w]; rfl
  refine one_ (i := 3) (N := (some 223)) #[true, true, true, true, true, false, true, false, false, false] rfl rfl (by kernel_rfl) (by decide) (fun K hK => ?_)
  refine goes_ Try.func12 (by kernel_rfl) rfl #[.int .i64 n0] (by rfl) rfl rfl (by (try simp only [List.map_toArray, List.map_cons, List.map_nil]); first | done | rfl | (simp only [List.length_drop, List.length_take]; rfl)) ?_
  refine (of_c n0 _).mono ?_
  rintro e w8 ⟨rfl, rfl⟩
  refine ⟨_, rfl, ?_⟩
  rw [HLO.out]
  refine hK.out _ _ hHeld (fun hHeld => ?_)
  clear hK K
  refine norm_ (a' := ?_) ?_ ?_
  rotate_left
  · show Act.put _ (some 223) _ = _; simp only [Act.put, List.setIfInBounds_toArray, List.set_cons_zero, List.set_cons_succ, i64_w, i32_w]; rfl
  refine one_ (i := 5) (N := (some 225)) #[true, true, true, true, true, true, true, false, false, false] rfl rfl (by kernel_rfl) (by decide) (fun K hK => ?_)
  refine goes_ Try.func13 (by kernel_rfl) rfl #[.pointer (some ⟨b, 0, none⟩), .int .u32 n0, .string mc] (by rfl) rfl rfl (by (try simp only [List.map_toArray, List.map_cons, List.map_nil]); first | done | rfl | (simp only [List.length_drop, List.length_take]; rfl)) ?_
  refine (data_c HS.out n0 mc HD.out.2.2).mono ?_
  rintro e w8 ⟨v8, rfl, hs⟩
  refine ⟨_, rfl, ?_⟩
  clear HS
  rw [HD.out.2.1] at hs
  have HS := Aside0.mk hs
  clear hs
  obtain ⟨A9, c9, e9, he9⟩ := SL.form HS.out (.head _)
  subst e9
  have HC9 := Aside0.mk he9
  clear he9
  refine hK.out _ _ ⟨(cells7 HS.out m2).1.1, (cells7 HS.out m2).2.1.1, (cells7 HS.out m2).2.2.1.1, (cells7 HS.out m2).2.2.2.1.1, (cells7 HS.out m2).2.2.2.2.1.1, (cells7 HS.out m2).2.2.2.2.2.1.1, (cells7 HS.out m2).2.2.2.2.2.2.1⟩ (fun hHeld => ?_)
  clear hK K
  refine norm_ (a' := ?_) ?_ ?_
  rotate_left
  · show Act.put _ (some 225) _ = _; simp only [Act.put, List.setIfInBounds_toArray, List.set_cons_zero, List.set_cons_succ, i64_w, i32_w]; rfl
  refine one_ (i := 7) (N := (some 227)) #[true, true, true, true, true, true, true, true, false, false] rfl rfl (by kernel_rfl) (by decide) (fun K hK => ?_)
  refine goes_ Try.func20 (by kernel_rfl) rfl #[.slice A9 (dataR y n0 mc).2.length c9, .slice A8 (dataR y n0 mc).2.length c8] (by rfl) rfl rfl (by (try simp only [List.map_toArray, List.map_cons, List.map_nil]); first | done | rfl | (simp only [List.length_drop, List.length_take]; rfl)) ?_
  refine (same_c (l0 := (dataR y n0 mc).2) (l1 := (dataR y n0 mc).2) HSZ2.out (SL.reads HS.out m0) HC9.out (SL.reads HS.out m4) HC8.out rfl rfl HS.out).mono ?_
  rintro e w9 ⟨rfl, hs⟩
  refine ⟨_, rfl, ?_⟩
  rw [show decide ((dataR y n0 mc).2 = (dataR y n0 mc).2) = true from decide_eq_true rfl]
  clear HS
  have HS := Aside0.mk hs
  clear hs
  obtain ⟨⟨u0, t0⟩, ⟨u1, t1⟩, ⟨u2, t2⟩, ⟨u3, t3⟩, ⟨u4, t4⟩, ⟨u5, t5⟩, ⟨u6, t6⟩⟩ := cells7 HS.out m5
  refine hK.out _ _ ⟨(cells7 HS.out m2).1.1, (cells7 HS.out m2).2.1.1, (cells7 HS.out m2).2.2.1.1, (cells7 HS.out m2).2.2.2.1.1, (cells7 HS.out m2).2.2.2.2.1.1, (cells7 HS.out m2).2.2.2.2.2.1.1, (cells7 HS.out m2).2.2.2.2.2.2.1⟩ (fun hHeld => ?_)
  clear hK K
  refine norm_ (a' := ?_) ?_ ?_
  rotate_left
  · show Act.put _ (some 227) _ = _; simp only [Act.put, List.setIfInBounds_toArray, List.set_cons_zero, List.set_cons_succ, i64_w, i32_w]; rfl
  refine one_ (i := 8) (N := none) #[true, true, true, true, true, true, true, true, true, false] rfl rfl (by kernel_rfl) (by decide) (fun K hK => ?_)
  refine skip_ (w1 := (((((((w9.setCell ⟨b6, 0, none⟩ (.int .i64 y2.R)).setCell ⟨b6, 1, none⟩ (.int .i64 y2.H)).setCell ⟨b6, 2, none⟩ (.int .i64 y2.MR)).setCell ⟨b6, 3, none⟩ (.int .i64 y2.W)).setCell ⟨b6, 4, none⟩ (.slice B1 y2.buf.length e1)).setCell ⟨b6, 5, none⟩ (.slice B2 y2.inb.length e2)).setCell ⟨b6, 6, none⟩ (.slice B3 y2.gaps.length e3))) (by rfl) rfl (by go_simp) ?_
  have hs := set7 (.int .i64 y2.R) (.int .i64 y2.H) (.int .i64 y2.MR) (.int .i64 y2.W) (.slice B1 y2.buf.length e1) (.slice B2 y2.inb.length e2) (.slice B3 y2.gaps.length e3) (SL.pk [5] HS.out)
  clear HS
  have HS := Aside0.mk hs
  clear hs
  refine hK.out _ _ ⟨(cells7 HS.out m3).1.1, (cells7 HS.out m3).2.1.1, (cells7 HS.out m3).2.2.1.1, (cells7 HS.out m3).2.2.2.1.1, (cells7 HS.out m3).2.2.2.2.1.1, (cells7 HS.out m3).2.2.2.2.2.1.1, (cells7 HS.out m3).2.2.2.2.2.2.1⟩ (fun hHeld => ?_)
  clear hK K
  refine pure_ (i := 9) (N := (some 7)) (v := ?_) (a' := ?_) #[true, true, true, true, true, true, true, true, true, true] rfl rfl (by kernel_rfl) (fun _ _ _ h => h) (Or.inl ⟨by rfl, ?_⟩) ?_ ?_
  rotate_left
  · intro w'; go_simp; with_reducible rfl
  rotate_left
  · simp only [Act.put, List.setIfInBounds_toArray, List.set_cons_zero, List.set_cons_succ, i64_w, i32_w]; rfl
  refine done_ (by kernel_rfl) ?_
  go_wp2_with fail
  obtain ⟨⟨p0, r0⟩, ⟨p1, r1⟩, ⟨p2, r2⟩, ⟨p3, r3⟩, ⟨p4, r4⟩, ⟨p5, r5⟩, ⟨p6, r6⟩⟩ := cells7 HS.out m0
  refine bodyPost_ret (v := .tuple #[RefV y2 B1 B2 B3 e1 e2 e3, .bool true]) (by simp [results, Try.results24, go_sem, RefV, p0, p1, p2, p3, p4, p5, p6]) rfl ⟨(dataF x n0 mc).1, _, y2, hd2, rfl, HD.out.1.more (by omega), ⟨HDW.out, fun h => absurd h HKD.out⟩, ?_⟩
  exact SL.sub HS.out (.cons _ (.cons _ (.cons_cons _ (.cons _ (.cons_cons _ (.cons _ (.cons _ (.cons _ (List.Sublist.refl _)))))))))
theorem Sim.toH {s : Int} {k : Nat} {x : RS} {y : RR} (h : Sim s k x y) : toN x.r x.h ≤ 64 := by
  have h1 := h.rh
  have h2 := h.hm
  have h3 := h.span
  rw [h.r, h.h, to_low, to_fwd (by omega) (by omega)]
  omega
set_option maxHeartbeats 2000000 in
set_option maxRecDepth 100000 in
theorem step_clone {w0 W : World} {l : List As} {b : Nat} {x : RS} {v : Value} {y : RR} {hd : List Hd} {s : Int} {k : Nat} (hS : Sim s k x y) (hk : k ≤ 900) (kd N : Int) (raw : Bool) (m : ByteArray) (hN : -9223372036854775808 ≤ N ∧ N ≤ 9223372036854775807) (hkd : kd = 5) (HS : SL w0 W (RecvA b x :: RefA v y hd :: l)) :
    Calls Try.prog 24 #[.pointer (some ⟨b, 0, none⟩), v, .agg #[.int .i64 kd, .int .i64 N, .bool raw, .string m]] W fun e w' => StepPost w0 l b s k y kd e w' := by
  obtain ⟨A1, A2, A3, c1, c2, c3, rfl, hh⟩ := HS.know m1
  have HM := Aside0.mk hS
  have HY := Aside0.mk (hS.okR (by omega))
  have HN := Aside0.mk hN
  have HK := Aside0.mk hk
  have hu := Try.underlying52
  have hu2 := Try.underlying57
  have hs2 := Aside0.mk (SL.new (SL.new (SL.new HS (cellsD y.R y.H y.MR y.W (.slice A1 y.buf.length c1) (.slice A2 y.inb.length c2) (.slice A3 y.gaps.length c3)) 52) (cellsT kd N raw m) 57) zeroD 52)
  rw [show ∀ o, (W.alloc o).heap.size = W.heap.size + 1 from fun o => by simp, show ∀ (w : World) o, (w.alloc o).heap.size = w.heap.size + 1 from fun w o => by simp, show ∀ o, (W.alloc o).heap.size = W.heap.size + 1 from fun o => by simp] at hs2
  clear HS
  have HS := Aside0.mk (hs2.out)
  clear hs2 hh hS hN hk
  have d1 : (kd == 1) = false := beq_eq_false_iff_ne.2 (by omega)
  have d2 : (kd == 2) = false := beq_eq_false_iff_ne.2 (by omega)
  have d3 : (kd == 3) = false := beq_eq_false_iff_ne.2 (by omega)
  have d4 : (kd == 4) = false := beq_eq_false_iff_ne.2 (by omega)
  have d5 : (kd == 5) = true := beq_iff_eq.2 (by omega)
  obtain ⟨n0, hn0⟩ : ∃ n, nearF N raw y.R = n := ⟨_, rfl⟩
  have hnr : 0 ≤ n0 ∧ n0 < 16777216 := hn0 ▸ nearF_range N raw y.R
  have HNR := Aside0.mk hnr
  have HNE := Aside0.mk hn0
  have hlo : lowN n0 = n0 := by unfold lowN; omega
  have HD := Aside0.mk (data_sim HM.out n0 hnr ⟨#[111, 116, 104, 101, 114]⟩)
  have HT := Aside0.mk (take_sim HD.out.1 2)
  have HIS := Aside0.mk (show x.r = lowN y.R ∧ x.h = lowN y.H ∧ x.mr = lowN y.MR ∧ x.buf.length = y.buf.length ∧ x.inb.length = y.inb.length ∧ x.gaps.length = y.gaps.length from ⟨HM.out.r, HM.out.h, HM.out.mr, by rw [HM.out.buf, List.length_map], by rw [HM.out.inb], HM.out.glen⟩)
  clear hkd hn0 hnr
  have hn1 : ¬ W.heap.size + 1 = W.heap.size := by omega
  have hn2 : ¬ W.heap.size + 1 + 1 = W.heap.size := by omega
  have hn3 : ¬ W.heap.size + 1 + 1 = W.heap.size + 1 := by omega
  unfold RefV
  go_enter Try.func24, Try.ntmps24
  go_wp2_with (first
    | (go_at_call 45; (with_reducible refine (clone_c HM.out.ok (SL.pk [3] HS.out)).mono ?_); rintro e w1 ⟨b', rfl, hs⟩; clear HS; have HS := Aside0.mk hs; clear hs; obtain ⟨⟨q0, z0⟩, ⟨q1, z1⟩, ⟨q2, z2⟩, ⟨q3, z3⟩, ⟨q4, z4⟩, ⟨q5, z5⟩, ⟨q6, z6⟩⟩ := cells7 HS.out m4; obtain ⟨⟨a0, j0⟩, ⟨a1, j1⟩, ⟨a2, j2⟩, ⟨a3, j3⟩⟩ := cells4 HS.out m3; obtain ⟨⟨u0, t0⟩, ⟨u1, t1⟩, ⟨u2, t2⟩, ⟨u3, t3⟩, ⟨u4, t4⟩, ⟨u5, t5⟩, ⟨u6, t6⟩⟩ := cells7 HS.out m2; have HS2 := Aside0.mk (SL.pk [0, 4] HS.out); clear HS; have HS := HS2; clear HS2)
    | (go_at_call 25; (with_reducible refine (is_c HY.out HIS.out.1 HIS.out.2.1 HIS.out.2.2.1 HIS.out.2.2.2.1 HIS.out.2.2.2.2.1 HIS.out.2.2.2.2.2 HS.out).mono ?_); rintro e w2 ⟨rfl, hs⟩; clear HS q0 z0 q1 z1 q2 z2 q3 z3 q4 z4 q5 z5 q6 z6 a0 j0 a1 j1 a2 j2 a3 j3 u0 t0 u1 t1 u2 t2 u3 t3 u4 t4 u5 t5 u6 t6; have HS := Aside0.mk hs; clear hs; obtain ⟨⟨q0, z0⟩, ⟨q1, z1⟩, ⟨q2, z2⟩, ⟨q3, z3⟩, ⟨q4, z4⟩, ⟨q5, z5⟩, ⟨q6, z6⟩⟩ := cells7 HS.out m5; obtain ⟨⟨a0, j0⟩, ⟨a1, j1⟩, ⟨a2, j2⟩, ⟨a3, j3⟩⟩ := cells4 HS.out m4; obtain ⟨⟨u0, t0⟩, ⟨u1, t1⟩, ⟨u2, t2⟩, ⟨u3, t3⟩, ⟨u4, t4⟩, ⟨u5, t5⟩, ⟨u6, t6⟩⟩ := cells7 HS.out m3)
    | (go_at_call 26; (with_reducible refine (near_c kd N raw m y.R HN.out (by have := HY.out.R; omega) HS.out).mono ?_); rintro e w3 ⟨rfl, hs⟩; rw [HNE.out]; clear HS q0 z0 q1 z1 q2 z2 q3 z3 q4 z4 q5 z5 q6 z6 a0 j0 a1 j1 a2 j2 a3 j3 u0 t0 u1 t1 u2 t2 u3 t3 u4 t4 u5 t5 u6 t6; have HS := Aside0.mk hs; clear hs)
    | (go_at_call 12; (with_reducible refine (of_c _ _).mono ?_); rintro e w5 ⟨rfl, rfl⟩; rw [hlo])
    | (go_at_call 13; (with_reducible refine (data_c HS.out n0 ⟨#[111, 116, 104, 101, 114]⟩ HD.out.2.2).mono ?_); rintro e w6 ⟨v6, rfl, hs⟩; clear HS; have HS := Aside0.mk (SL.swap hs); clear hs)
    | (go_at_call 21; (with_reducible refine (take_c HD.out.1.ok.inb HS.out 2).mono ?_); rintro e w7 ⟨v7, rfl, hs⟩; clear HS; have HS := Aside0.mk (SL.swap hs); clear hs)
    | (go_at_call 22; (with_reducible refine (stat_c HT.out.1.ok HT.out.1.toH HS.out).mono ?_); rintro e w8 ⟨v8, s8, rfl, _, hs⟩; clear HS; have HS := Aside0.mk hs; clear hs; obtain ⟨⟨q0, z0⟩, ⟨q1, z1⟩, ⟨q2, z2⟩, ⟨q3, z3⟩, ⟨q4, z4⟩, ⟨q5, z5⟩, ⟨q6, z6⟩⟩ := cells7 HS.out m8; obtain ⟨⟨u0, t0⟩, ⟨u1, t1⟩, ⟨u2, t2⟩, ⟨u3, t3⟩, ⟨u4, t4⟩, ⟨u5, t5⟩, ⟨u6, t6⟩⟩ := cells7 HS.out m6))
  have hs2 := Aside0.mk (set7 (.int .i64 y.R) (.int .i64 y.H) (.int .i64 y.MR) (.int .i64 y.W) (.slice A1 y.buf.length c1) (.slice A2 y.inb.length c2) (.slice A3 y.gaps.length c3) (SL.pk [6] HS.out))
  clear HS
  obtain ⟨⟨p0, r0⟩, ⟨p1, r1⟩, ⟨p2, r2⟩, ⟨p3, r3⟩, ⟨p4, r4⟩, ⟨p5, r5⟩, ⟨p6, r6⟩⟩ := cells7 hs2.out m0
  refine bodyPost_ret (v := .tuple #[RefV y A1 A2 A3 c1 c2 c3, .bool true]) (by simp [results, Try.results24, go_sem, RefV, p0, p1, p2, p3, p4, p5, p6]) rfl ⟨x, _, y, hd, rfl, HM.out.more (by omega), ⟨rfl, fun _ => ⟨rfl, rfl⟩⟩, ?_⟩
  exact SL.sub (SL.pk [6, 5] hs2.out) (.cons_cons _ (.cons_cons _ (.cons _ (.cons _ (.cons _ (.cons _ (.cons _ (.cons _ (.cons _ (List.Sublist.refl _))))))))))
set_option maxHeartbeats 2000000 in
set_option maxRecDepth 100000 in
theorem step_stat {w0 W : World} {l : List As} {b : Nat} {x : RS} {v : Value} {y : RR} {hd : List Hd} {s : Int} {k : Nat} (hS : Sim s k x y) (hk : k ≤ 900) (kd N : Int) (raw : Bool) (m : ByteArray) (hN : -9223372036854775808 ≤ N ∧ N ≤ 9223372036854775807) (hkd : kd = 2) (HS : SL w0 W (RecvA b x :: RefA v y hd :: l)) :
    Calls Try.prog 24 #[.pointer (some ⟨b, 0, none⟩), v, .agg #[.int .i64 kd, .int .i64 N, .bool raw, .string m]] W fun e w' => StepPost w0 l b s k y kd e w' := by
  obtain ⟨A1, A2, A3, c1, c2, c3, rfl, hh⟩ := HS.know m1
  have HM := Aside0.mk hS
  have HY := Aside0.mk (hS.okR (by omega))
  have HN := Aside0.mk hN
  have HK := Aside0.mk hk
  have hu := Try.underlying52
  have hu2 := Try.underlying57
  have hs2 := Aside0.mk (SL.new (SL.new (SL.new HS (cellsD y.R y.H y.MR y.W (.slice A1 y.buf.length c1) (.slice A2 y.inb.length c2) (.slice A3 y.gaps.length c3)) 52) (cellsT kd N raw m) 57) zeroD 52)
  rw [show ∀ o, (W.alloc o).heap.size = W.heap.size + 1 from fun o => by simp, show ∀ (w : World) o, (w.alloc o).heap.size = w.heap.size + 1 from fun w o => by simp, show ∀ o, (W.alloc o).heap.size = W.heap.size + 1 from fun o => by simp] at hs2
  clear HS
  have HS := Aside0.mk (hs2.out)
  clear hs2 hh hS hN hk
  have d1 : (kd == 1) = false := beq_eq_false_iff_ne.2 (by omega)
  have d2 : (kd == 2) = true := beq_iff_eq.2 (by omega)
  have HR := Aside0.mk (renew_sim HM.out)
  have HRO := Aside0.mk ((renew_sim HM.out).okR (by have := HK.out; omega))
  have HRB := Aside0.mk (show (renewR y).R = y.R ∧ (renewR y).buf = y.buf ∧ missR (renewR y) = missR y ∧ (renewR y).W = y.W from ⟨rfl, rfl, rfl, rfl⟩)
  have HXR := Aside0.mk (show (renewF x).r = x.r from rfl)
  clear hkd
  have hn1 : ¬ W.heap.size + 1 = W.heap.size := by omega
  have hn2 : ¬ W.heap.size + 1 + 1 = W.heap.size := by omega
  have hn3 : ¬ W.heap.size + 1 + 1 = W.heap.size + 1 := by omega
  unfold RefV
  go_enter Try.func24, Try.ntmps24
  go_wp2_with (first
    | (go_at_call 22; (with_reducible refine (stat_c HM.out.ok HM.out.toH (SL.pk [3] HS.out)).mono ?_); rintro e w1 ⟨v1, t, rfl, hT, hs⟩; clear HS; have HT := Aside0.mk (named_f HM.out (by have := HK.out; omega) hT); have HS := Aside0.mk hs; clear hs hT; obtain ⟨pl, hpl⟩ : ∃ pl, pairsOf x.r (cutH t) = pl := ⟨_, rfl⟩; rw [hpl] at HS HT; clear hpl; obtain ⟨A5, c5, e5, he5⟩ := SL.form HS.out (.head _); subst e5; have HC5 := Aside0.mk he5; clear he5; obtain ⟨⟨q0, z0⟩, ⟨q1, z1⟩, ⟨q2, z2⟩, ⟨q3, z3⟩, ⟨q4, z4⟩, ⟨q5, z5⟩, ⟨q6, z6⟩⟩ := cells7 HS.out m4)
    | (go_at_call 40; (with_reducible refine (renewR_c HY.out (SL.pk [5] HS.out)).mono ?_); rintro e w2 ⟨v2, rfl, hs⟩; clear HS q0 z0 q1 z1 q2 z2 q3 z3 q4 z4 q5 z5 q6 z6; have HS := Aside0.mk hs; clear hs; obtain ⟨y2, hy2⟩ : ∃ y2, renewR y = y2 := ⟨_, rfl⟩; rw [hy2] at HS HR HRO HRB; obtain ⟨B1, B2, B3, e1, e2, e3, ev, _⟩ := HS.out.know m0; subst ev; obtain ⟨⟨q0, z0⟩, ⟨q1, z1⟩, ⟨q2, z2⟩, ⟨q3, z3⟩, ⟨q4, z4⟩, ⟨q5, z5⟩, ⟨q6, z6⟩⟩ := cells7 HS.out m5))
  have hs2 := Aside0.mk (set7 (.int .i64 y2.R) (.int .i64 y2.H) (.int .i64 y2.MR) (.int .i64 y2.W) (.slice B1 y2.buf.length e1) (.slice B2 y2.inb.length e2) (.slice B3 y2.gaps.length e3) (SL.pk [5] HS.out))
  clear HS q0 z0 q1 z1 q2 z2 q3 z3 q4 z4 q5 z5 q6 z6
  generalize W.heap.size + 1 + 1 = b6 at *
  generalize W.heap.size + 1 = b5 at *
  generalize W.heap.size = b4 at *
  have HS := hs2
  clear hs2
  generalize World.setCell _ _ _ = w3 at HS ⊢
  have hs2 : Aside0 (SL w0 w3 (Blk b4 #[.int .i64 y2.R, .int .i64 y2.H, .int .i64 y2.MR, .int .i64 y2.W, .slice B1 y2.buf.length e1, .slice B2 y2.inb.length e2, .slice B3 y2.gaps.length e3] 52 :: RefA (RefV y2 B1 B2 B3 e1 e2 e3) y2 hd :: Row (Kd.int .u32) 27 (.slice A5 pl.length c5) pl :: RecvA b (renewF x) :: Blk b6 zeroD 52 :: Blk b5 (cellsT kd N raw m) 57 :: l)) := ⟨HS.out⟩
  clear HS
  have HS := hs2
  clear hs2
  refine start_ (n := 19) (S := fun w' => w'.cell? ⟨b4, 0, none⟩ = some (.int .i64 y2.R) ∧ w'.cell? ⟨b4, 1, none⟩ = some (.int .i64 y2.H) ∧ w'.cell? ⟨b4, 2, none⟩ = some (.int .i64 y2.MR) ∧ w'.cell? ⟨b4, 3, none⟩ = some (.int .i64 y2.W) ∧ w'.cell? ⟨b4, 4, none⟩ = some (.slice B1 y2.buf.length e1) ∧ w'.cell? ⟨b4, 5, none⟩ = some (.slice B2 y2.inb.length e2) ∧ w'.cell? ⟨b4, 6, none⟩ = some (.slice B3 y2.gaps.length e3)) (ds := []) #[false, false, false, false, false, false, false, false, false, false, false, false, false, false, false, false, false, false, false] (by kernel_rfl) rfl rfl ⟨(cells7 HS.out m0).1.1, (cells7 HS.out m0).2.1.1, (cells7 HS.out m0).2.2.1.1, (cells7 HS.out m0).2.2.2.1.1, (cells7 HS.out m0).2.2.2.2.1.1, (cells7 HS.out m0).2.2.2.2.2.1.1, (cells7 HS.out m0).2.2.2.2.2.2.1⟩ (fun hHeld => ?_)
  have hs_ := Aside0.mk (SL.drew (W := w3) (by repeat (first | (with_reducible exact HS.out) | (with_reducible apply SL.alloc) | (with_reducible apply SL.drewN) | (with_reducible apply SL.drew))))
  clear HS
  have HS := hs_
  clear hs_
  generalize (w3 : World).drew = w4 at HS hHeld ⊢
  refine pure_ (i := 1) (N := (some 72)) (v := ?_) (a' := ?_) #[false, true, false, false, false, false, false, false, false, false, false, false, false, false, false, false, false, false, false] rfl rfl (by kernel_rfl) (fun _ _ _ h => h) (Or.inl ⟨by rfl, ?_⟩) ?_ ?_
  rotate_left
  · intro w'; go_simp; with_reducible rfl
  rotate_left
  · simp only [Act.put, List.setIfInBounds_toArray, List.set_cons_zero, List.set_cons_succ, i64_w, i32_w]; rfl
  refine pure_ (i := 2) (N := (some 73)) (v := ?_) (a' := ?_) #[false, true, true, false, false, false, false, false, false, false, false, false, false, false, false, false, false, false, false] rfl rfl (by kernel_rfl) (fun _ _ _ h => h) (Or.inl ⟨by rfl, ?_⟩) ?_ ?_
  rotate_left
  · intro w'; go_simp; with_reducible rfl
  rotate_left
  · simp only [Act.put, List.setIfInBounds_toArray, List.set_cons_zero, List.set_cons_succ, i64_w, i32_w]; rfl
  refine take_ (i := 0) (N := (some 71)) (v := ?_) (a' := ?_) #[true, true, true, false, false, false, false, false, false, false, false, false, false, false, false, false, false, false, false] rfl rfl (by kernel_rfl) (fun _ _ _ h => h) (Or.inl ⟨by rfl, ?_⟩) hHeld ?_ ?_
  rotate_left
  · rintro w' ⟨s0, s1, s2, s3, s4, s5, s6⟩; go_simp; with_reducible rfl
  rotate_left
  · simp only [Act.put, List.setIfInBounds_toArray, List.set_cons_zero, List.set_cons_succ, i64_w, i32_w]; rfl
  refine take_ (i := 3) (N := (some 74)) (v := ?_) (a' := ?_) #[true, true, true, true, false, false, false, false, false, false, false, false, false, false, false, false, false, false, false] rfl rfl (by kernel_rfl) (fun _ _ _ h => h) (Or.inl ⟨by rfl, ?_⟩) hHeld ?_ ?_
  rotate_left
  · rintro w' ⟨s0, s1, s2, s3, s4, s5, s6⟩; go_simp; with_reducible rfl
  rotate_left
  · simp only [Act.put, List.setIfInBounds_toArray, List.set_cons_zero, List.set_cons_succ, i64_w, i32_w]; rfl
  refine one_ (i := 4) (N := (some 75)) #[true, true, true, true, true, false, false, false, false, false, false, false, false, false, false, false, false, false, false] rfl rfl (by kernel_rfl) (by decide) (fun K hK => ?_)
  refine goes_ Try.func41 (by kernel_rfl) rfl #[.int .u32 x.r, .int .i64 y2.R] (by rfl) rfl rfl (by (try simp only [List.map_toArray, List.map_cons, List.map_nil]); first | done | rfl | (simp only [List.length_drop, List.length_take]; rfl)) ?_
  refine (of12_t x.r y2.R (by have := HRO.out.R; omega) HR.out.r _).mono ?_
  rintro e we1 ⟨rfl, rfl⟩
  refine ⟨_, rfl, ?_⟩
  refine hK.out _ _ hHeld (fun hHeld => ?_)
  clear hK K
  refine norm_ (a' := ?_) ?_ ?_
  rotate_left
  · show Act.put _ (some 75) _ = _; simp only [Act.put, List.setIfInBounds_toArray, List.set_cons_zero, List.set_cons_succ, i64_w, i32_w]; rfl
  refine pure_ (i := 5) (N := (some 76)) (v := ?_) (a' := ?_) #[true, true, true, true, true, true, false, false, false, false, false, false, false, false, false, false, false, false, false] rfl rfl (by kernel_rfl) (fun _ _ _ h => h) (Or.inl ⟨by rfl, ?_⟩) ?_ ?_
  rotate_left
  · intro w'; go_simp; with_reducible rfl
  rotate_left
  · simp only [Act.put, List.setIfInBounds_toArray, List.set_cons_zero, List.set_cons_succ, i64_w, i32_w]; rfl
  refine pure_ (i := 6) (N := (some 77)) (v := ?_) (a' := ?_) #[true, true, true, true, true, true, true, false, false, false, false, false, false, false, false, false, false, false, false] rfl rfl (by kernel_rfl) (fun _ _ _ h => h) (Or.inl ⟨by rfl, ?_⟩) ?_ ?_
  rotate_left
  · intro w'; go_simp; with_reducible rfl
  rotate_left
  · simp only [Act.put, List.setIfInBounds_toArray, List.set_cons_zero, List.set_cons_succ, i64_w, i32_w]; rfl
  refine pure_ (i := 7) (N := (some 78)) (v := ?_) (a' := ?_) #[true, true, true, true, true, true, true, true, false, false, false, false, false, false, false, false, false, false, false] rfl rfl (by kernel_rfl) (fun _ _ _ h => h) (Or.inl ⟨by rfl, ?_⟩) ?_ ?_
  rotate_left
  · intro w'; go_simp; with_reducible rfl
  rotate_left
  · simp only [Act.put, List.setIfInBounds_toArray, List.set_cons_zero, List.set_cons_succ, i64_w, i32_w]; rfl
  refine take_ (i := 8) (N := (some 79)) (v := ?_) (a' := ?_) #[true, true, true, true, true, true, true, true, true, false, false, false, false, false, false, false, false, false, false] rfl rfl (by kernel_rfl) (fun _ _ _ h => h) (Or.inl ⟨by rfl, ?_⟩) hHeld ?_ ?_
  rotate_left
  · rintro w' ⟨s0, s1, s2, s3, s4, s5, s6⟩; go_simp; with_reducible rfl
  rotate_left
  · simp only [Act.put, List.setIfInBounds_toArray, List.set_cons_zero, List.set_cons_succ, i64_w, i32_w]; rfl
  refine one_ (i := 9) (N := (some 80)) #[true, true, true, true, true, true, true, true, true, true, false, false, false, false, false, false, false, false, false] rfl rfl (by kernel_rfl) (by decide) (fun K hK => ?_)
  refine goes_ Try.func41 (by kernel_rfl) rfl #[.int .u32 (renewF x).mr, .int .i64 y2.MR] (by rfl) rfl rfl (by (try simp only [List.map_toArray, List.map_cons, List.map_nil]); first | done | rfl | (simp only [List.length_drop, List.length_take]; rfl)) ?_
  refine (of12_t (renewF x).mr y2.MR (by have := HRO.out.MR; omega) HR.out.mr _).mono ?_
  rintro e we2 ⟨rfl, rfl⟩
  refine ⟨_, rfl, ?_⟩
  refine hK.out _ _ hHeld (fun hHeld => ?_)
  clear hK K
  refine norm_ (a' := ?_) ?_ ?_
  rotate_left
  · show Act.put _ (some 80) _ = _; simp only [Act.put, List.setIfInBounds_toArray, List.set_cons_zero, List.set_cons_succ, i64_w, i32_w]; rfl
  refine pure_ (i := 10) (N := (some 81)) (v := ?_) (a' := ?_) #[true, true, true, true, true, true, true, true, true, true, true, false, false, false, false, false, false, false, false] rfl rfl (by kernel_rfl) (fun _ _ _ h => h) (Or.inl ⟨by rfl, ?_⟩) ?_ ?_
  rotate_left
  · intro w'; go_simp; with_reducible rfl
  rotate_left
  · simp only [Act.put, List.setIfInBounds_toArray, List.set_cons_zero, List.set_cons_succ, i64_w, i32_w]; rfl
  refine pure_ (i := 11) (N := (some 82)) (v := ?_) (a' := ?_) #[true, true, true, true, true, true, true, true, true, true, true, true, false, false, false, false, false, false, false] rfl rfl (by kernel_rfl) (fun _ _ _ h => h) (Or.inl ⟨by rfl, ?_⟩) ?_ ?_
  rotate_left
  · intro w'; go_simp; with_reducible rfl
  rotate_left
  · simp only [Act.put, List.setIfInBounds_toArray, List.set_cons_zero, List.set_cons_succ, i64_w, i32_w]; rfl
  refine pure_ (i := 12) (N := (some 83)) (v := ?_) (a' := ?_) #[true, true, true, true, true, true, true, true, true, true, true, true, true, false, false, false, false, false, false] rfl rfl (by kernel_rfl) (fun _ _ _ h => h) (Or.inl ⟨by rfl, ?_⟩) ?_ ?_
  rotate_left
  · intro w'; go_simp; with_reducible rfl
  rotate_left
  · simp only [Act.put, List.setIfInBounds_toArray, List.set_cons_zero, List.set_cons_succ, i64_w, i32_w]; rfl
  refine take_ (i := 13) (N := (some 84)) (v := ?_) (a' := ?_) #[true, true, true, true, true, true, true, true, true, true, true, true, true, true, false, false, false, false, false] rfl rfl (by kernel_rfl) (fun _ _ _ h => h) (Or.inl ⟨by rfl, ?_⟩) hHeld ?_ ?_
  rotate_left
  · rintro w' ⟨s0, s1, s2, s3, s4, s5, s6⟩; go_simp; with_reducible rfl
  rotate_left
  · simp only [Act.put, List.setIfInBounds_toArray, List.set_cons_zero, List.set_cons_succ, i64_w, i32_w]; rfl
  refine one_ (i := 14) (N := (some 85)) #[true, true, true, true, true, true, true, true, true, true, true, true, true, true, true, false, false, false, false] rfl rfl (by kernel_rfl) (by decide) (fun K hK => ?_)
  refine goes_ Try.func43 (by kernel_rfl) rfl #[RefV y2 B1 B2 B3 e1 e2 e3] (by rfl) rfl rfl (by (try simp only [List.map_toArray, List.map_cons, List.map_nil]); first | done | rfl | (simp only [List.length_drop, List.length_take]; rfl)) ?_
  refine (miss_c HRO.out HS.out m1).mono ?_
  rintro e w5 ⟨vm, rfl, hs⟩
  refine ⟨_, rfl, ?_⟩
  clear HS
  rw [HRB.out.2.2.1] at hs
  have HS := Aside0.mk hs
  clear hs
  obtain ⟨Am, cm, em, hem⟩ := SL.form HS.out (.head _)
  subst em
  have HCM := Aside0.mk hem
  clear hem
  refine hK.out _ _ ⟨(cells7 HS.out m1).1.1, (cells7 HS.out m1).2.1.1, (cells7 HS.out m1).2.2.1.1, (cells7 HS.out m1).2.2.2.1.1, (cells7 HS.out m1).2.2.2.2.1.1, (cells7 HS.out m1).2.2.2.2.2.1.1, (cells7 HS.out m1).2.2.2.2.2.2.1⟩ (fun hHeld => ?_)
  clear hK K
  refine norm_ (a' := ?_) ?_ ?_
  rotate_left
  · show Act.put _ (some 85) _ = _; simp only [Act.put, List.setIfInBounds_toArray, List.set_cons_zero, List.set_cons_succ, i64_w, i32_w]; rfl
  refine one_ (i := 15) (N := (some 86)) #[true, true, true, true, true, true, true, true, true, true, true, true, true, true, true, true, false, false, false] rfl rfl (by kernel_rfl) (by decide) (fun K hK => ?_)
  refine goes_ Try.func42 (by kernel_rfl) rfl #[.slice A5 pl.length c5, .slice Am (missR y).length cm] (by rfl) rfl rfl (by (try simp only [List.map_toArray, List.map_cons, List.map_nil]); first | done | rfl | (simp only [List.length_drop, List.length_take]; rfl)) ?_
  refine (polliwoglaw12_named.calls 100 A5 c5 pl Am cm (missR y) true _ (SL.reads HS.out m3) HC5.out (SL.reads HS.out m0) HCM.out HT.out).mono ?_
  rintro e w6 ⟨rfl, hb⟩
  refine ⟨_, rfl, ?_⟩
  have hs := HS.out.below hb
  clear HS hb
  have HS := Aside0.mk hs
  clear hs
  obtain ⟨⟨u0, t0⟩, ⟨u1, t1⟩, ⟨u2, t2⟩, ⟨u3, t3⟩, ⟨u4, t4⟩, ⟨u5, t5⟩, ⟨u6, t6⟩⟩ := cells7 HS.out m5
  refine hK.out _ _ ⟨(cells7 HS.out m1).1.1, (cells7 HS.out m1).2.1.1, (cells7 HS.out m1).2.2.1.1, (cells7 HS.out m1).2.2.2.1.1, (cells7 HS.out m1).2.2.2.2.1.1, (cells7 HS.out m1).2.2.2.2.2.1.1, (cells7 HS.out m1).2.2.2.2.2.2.1⟩ (fun hHeld => ?_)
  clear hK K
  refine norm_ (a' := ?_) ?_ ?_
  rotate_left
  · show Act.put _ (some 86) _ = _; simp only [Act.put, List.setIfInBounds_toArray, List.set_cons_zero, List.set_cons_succ, i64_w, i32_w]; rfl
  refine pure_ (i := 16) (N := (some 87)) (v := ?_) (a' := ?_) #[true, true, true, true, true, true, true, true, true, true, true, true, true, true, true, true, true, false, false] rfl rfl (by kernel_rfl) (fun _ _ _ h => h) (Or.inl ⟨by rfl, ?_⟩) ?_ ?_
  rotate_left
  · intro w'; go_simp; with_reducible rfl
  rotate_left
  · simp only [Act.put, List.setIfInBounds_toArray, List.set_cons_zero, List.set_cons_succ, i64_w, i32_w]; rfl
  refine one_ (i := 17) (N := none) #[true, true, true, true, true, true, true, true, true, true, true, true, true, true, true, true, true, true, false] rfl rfl (by kernel_rfl) (by decide) (fun K hK => ?_)
  refine skip_ (w1 := (((((((w6.setCell ⟨b6, 0, none⟩ (.int .i64 y2.R)).setCell ⟨b6, 1, none⟩ (.int .i64 y2.H)).setCell ⟨b6, 2, none⟩ (.int .i64 y2.MR)).setCell ⟨b6, 3, none⟩ (.int .i64 y2.W)).setCell ⟨b6, 4, none⟩ (.slice B1 y2.buf.length e1)).setCell ⟨b6, 5, none⟩ (.slice B2 y2.inb.length e2)).setCell ⟨b6, 6, none⟩ (.slice B3 y2.gaps.length e3))) (by rfl) rfl (by go_simp) ?_
  have hs := set7 (.int .i64 y2.R) (.int .i64 y2.H) (.int .i64 y2.MR) (.int .i64 y2.W) (.slice B1 y2.buf.length e1) (.slice B2 y2.inb.length e2) (.slice B3 y2.gaps.length e3) (SL.pk [5] HS.out)
  clear HS
  have HS := Aside0.mk hs
  clear hs
  refine hK.out _ _ ⟨(cells7 HS.out m2).1.1, (cells7 HS.out m2).2.1.1, (cells7 HS.out m2).2.2.1.1, (cells7 HS.out m2).2.2.2.1.1, (cells7 HS.out m2).2.2.2.2.1.1, (cells7 HS.out m2).2.2.2.2.2.1.1, (cells7 HS.out m2).2.2.2.2.2.2.1⟩ (fun hHeld => ?_)
  clear hK K
  refine pure_ (i := 18) (N := (some 7)) (v := ?_) (a' := ?_) #[true, true, true, true, true, true, true, true, true, true, true, true, true, true, true, true, true, true, true] rfl rfl (by kernel_rfl) (fun _ _ _ h => h) (Or.inl ⟨by rfl, ?_⟩) ?_ ?_
  rotate_left
  · intro w'; go_simp; with_reducible rfl
  rotate_left
  · simp only [Act.put, List.setIfInBounds_toArray, List.set_cons_zero, List.set_cons_succ, i64_w, i32_w]; rfl
  refine done_ (by kernel_rfl) ?_
  go_wp2_with fail
  obtain ⟨⟨p0, r0⟩, ⟨p1, r1⟩, ⟨p2, r2⟩, ⟨p3, r3⟩, ⟨p4, r4⟩, ⟨p5, r5⟩, ⟨p6, r6⟩⟩ := cells7 HS.out m0
  refine bodyPost_ret (v := .tuple #[RefV y2 B1 B2 B3 e1 e2 e3, .bool true]) (by simp [results, Try.results24, go_sem, RefV, p0, p1, p2, p3, p4, p5, p6]) rfl ⟨renewF x, _, y2, hd, rfl, HR.out, ⟨HRB.out.2.2.2, fun _ => ⟨HRB.out.1, HRB.out.2.1⟩⟩, ?_⟩
  exact SL.sub (SL.pk [5, 3] HS.out) (.cons_cons _ (.cons_cons _ (.cons _ (.cons _ (.cons _ (.cons _ (.cons _ (List.Sublist.refl _))))))))
theorem at2k {w : World} {ad : Addr} {x y : Int} (h : (Kd.int .u32).C w (some ad) 2 [x, y]) : w.cell? ad = some (.int .u32 x) ∧ w.cell? ⟨ad.block, ad.off + 1, none⟩ = some (.int .u32 y) := by
  obtain ⟨ad2, e, h1, h2⟩ := at2i h
  cases e
  exact ⟨h1, h2⟩
theorem gapGo_buf (y : RR) : ∀ gs : List (List Int), (gapGo y gs).1.buf = y.buf
  | [] => rfl
  | g :: gs => by
    unfold gapGo
    split
    · rfl
    · exact gapGo_buf y gs
theorem gapGo_W (y : RR) : ∀ gs : List (List Int), (gapGo y gs).1.W = y.W
  | [] => rfl
  | g :: gs => by
    unfold gapGo
    split
    · rfl
    · exact gapGo_W y gs
set_option maxHeartbeats 2000000 in
set_option maxRecDepth 100000 in
theorem step_gap {w0 W : World} {l : List As} {b : Nat} {x : RS} {v : Value} {y : RR} {hd : List Hd} {s : Int} {k : Nat} (hS : Sim s k x y) (hk : k ≤ 900) (kd N : Int) (raw : Bool) (m : ByteArray) (hN : -9223372036854775808 ≤ N ∧ N ≤ 9223372036854775807) (hkd : kd = 3) (HS : SL w0 W (RecvA b x :: RefA v y hd :: l)) :
    Calls Try.prog 24 #[.pointer (some ⟨b, 0, none⟩), v, .agg #[.int .i64 kd, .int .i64 N, .bool raw, .string m]] W fun e w' => StepPost w0 l b s k y kd e w' := by
  obtain ⟨A1, A2, A3, c1, c2, c3, rfl, hh⟩ := HS.know m1
  have HM := Aside0.mk hS
  have HY := Aside0.mk (hS.okR (by omega))
  have HN := Aside0.mk hN
  have HK := Aside0.mk hk
  have hu := Try.underlying52
  have hu2 := Try.underlying57
  have hs2 := Aside0.mk (SL.new (SL.new (SL.new HS (cellsD y.R y.H y.MR y.W (.slice A1 y.buf.length c1) (.slice A2 y.inb.length c2) (.slice A3 y.gaps.length c3)) 52) (cellsT kd N raw m) 57) zeroD 52)
  rw [show ∀ o, (W.alloc o).heap.size = W.heap.size + 1 from fun o => by simp, show ∀ (w : World) o, (w.alloc o).heap.size = w.heap.size + 1 from fun w o => by simp, show ∀ o, (W.alloc o).heap.size = W.heap.size + 1 from fun o => by simp] at hs2
  clear HS
  have HS := Aside0.mk (hs2.out)
  clear hs2 hh hS hN hk
  have d1 : (kd == 1) = false := beq_eq_false_iff_ne.2 (by omega)
  have d2 : (kd == 2) = false := beq_eq_false_iff_ne.2 (by omega)
  have d3 : (kd == 3) = true := beq_iff_eq.2 (by omega)
  have HGG := Aside0.mk (show ∀ g ∈ y.gaps, ∃ a b : Int, g = [a, b] from fun g hg => by
    obtain ⟨gs, g1, _, _⟩ := HM.out.gap
    rw [g1] at hg
    obtain ⟨q, _, rfl⟩ := List.mem_map.1 hg
    exact ⟨_, _, rfl⟩)
  have HKD := Aside0.mk hkd
  clear hkd
  have hn1 : ¬ W.heap.size + 1 = W.heap.size := by omega
  have hn2 : ¬ W.heap.size + 1 + 1 = W.heap.size := by omega
  have hn3 : ¬ W.heap.size + 1 + 1 = W.heap.size + 1 := by omega
  unfold RefV
  go_enter Try.func24, Try.ntmps24
  go_wp2_with fail
  refine (gap_c HM.out.ok HM.out.toH (SL.pk [3] HS.out)).mono ?_
  rintro e w1 (⟨rfl, hn, hs⟩ | ⟨pre, g, post, v1, s0, t, he, hp, hS, rfl, hs⟩)
  · obtain ⟨hG, hS2⟩ := gap_none HM.out (by have := HK.out; omega) hn
    have HGE := Aside0.mk hG
    have HS2 := Aside0.mk hS2
    clear HS hn hG hS2
    have HS := Aside0.mk hs
    clear hs
    obtain ⟨⟨q0, z0⟩, ⟨q1, z1⟩, ⟨q2, z2⟩, ⟨q3, z3⟩, ⟨q4, z4⟩, ⟨q5, z5⟩, ⟨q6, z6⟩⟩ := cells7 HS.out m3
    go_wp2_with (first
      | (go_at_call 44; (with_reducible refine (gapR_c HY.out HGG.out (SL.pk [4] HS.out)).mono ?_); rintro e w2 ⟨v2, hd2, rfl, hs⟩; clear HS q0 z0 q1 z1 q2 z2 q3 z3 q4 z4 q5 z5 q6 z6; rw [HGE.out] at hs ⊢; have HS := Aside0.mk hs; clear hs; obtain ⟨y2, hy2⟩ : ∃ y2, { y with gaps := [] } = y2 := ⟨_, rfl⟩; have HYE := Aside0.mk hy2; simp only at HS; rw [hy2] at HS HS2; clear hy2; obtain ⟨B1, B2, B3, e1, e2, e3, ev, _⟩ := HS.out.know m0; subst ev; have hs2 := Aside0.mk (SL.new HS.out (cellsD y2.R y2.H y2.MR y2.W (.slice B1 y2.buf.length e1) (.slice B2 y2.inb.length e2) (.slice B3 y2.gaps.length e3)) 52); clear HS; have HS := hs2; clear hs2; obtain ⟨⟨q0, z0⟩, ⟨q1, z1⟩, ⟨q2, z2⟩, ⟨q3, z3⟩, ⟨q4, z4⟩, ⟨q5, z5⟩, ⟨q6, z6⟩⟩ := cells7 HS.out m0; obtain ⟨⟨u0, t0⟩, ⟨u1, t1⟩, ⟨u2, t2⟩, ⟨u3, t3⟩, ⟨u4, t4⟩, ⟨u5, t5⟩, ⟨u6, t6⟩⟩ := cells7 HS.out m3))
    have hs2 := Aside0.mk (set7 (.int .i64 y2.R) (.int .i64 y2.H) (.int .i64 y2.MR) (.int .i64 y2.W) (.slice B1 y2.buf.length e1) (.slice B2 y2.inb.length e2) (.slice B3 y2.gaps.length e3) (SL.pk [3] HS.out))
    clear HS
    obtain ⟨⟨p0, r0⟩, ⟨p1, r1⟩, ⟨p2, r2⟩, ⟨p3, r3⟩, ⟨p4, r4⟩, ⟨p5, r5⟩, ⟨p6, r6⟩⟩ := cells7 hs2.out m0
    refine bodyPost_ret (v := .tuple #[RefV y2 B1 B2 B3 e1 e2 e3, .bool true]) (by simp [results, Try.results24, go_sem, RefV, p0, p1, p2, p3, p4, p5, p6]) rfl ⟨{ x with gaps := [] }, _, y2, hd2, rfl, HS2.out.more (by omega), ⟨by rw [← HYE.out], fun _ => by rw [← HYE.out]; exact ⟨rfl, rfl⟩⟩, ?_⟩
    exact SL.sub (SL.pk [3, 2] hs2.out) (.cons_cons _ (.cons_cons _ (.cons _ (.cons _ (.cons _ (.cons _ (List.Sublist.refl _)))))))
  · obtain ⟨y1, hG, hh, hR1, hS2⟩ := gap_some HM.out (by have := HK.out; omega) he hp hS
    have hbuf : y1.buf = y.buf := by
      have h1 := hS2.buf
      have h2 := HM.out.buf
      have h3 : gapR y = gapR y := rfl
      have h4 : (gapR y).1.buf = y.buf := gapGo_buf y y.gaps
      rw [hG] at h4
      exact h4
    have hWW : y1.W = y.W := by
      have h4 : (gapR y).1.W = y.W := gapGo_W y y.gaps
      rw [hG] at h4
      exact h4
    have ep : pairsOf x.r (cutH [s0]) = [lowN (y.R + s0.f0), lowN (y.R + s0.f1)] := by
      rw [HM.out.r]
      exact told_pairs (by have := HM.out.bufl; have := HM.out.w; omega) hh
    rw [ep] at hs
    have HGE := Aside0.mk hG
    have HR := Aside0.mk (renew_sim hS2)
    have HRO := Aside0.mk ((renew_sim hS2).okR (by have := HK.out; omega))
    have HKP := Aside0.mk (show (renewR y1).R = y.R ∧ (renewR y1).buf = y.buf ∧ (renewR y1).W = y.W from ⟨hR1, hbuf, hWW⟩)
    have HH := Aside0.mk hh
    clear HS he hp hS hG hh hR1 hS2 hbuf hWW ep
    have HS := Aside0.mk hs
    clear hs
    obtain ⟨A5, c5, e5, _⟩ := SL.form HS.out (.head _)
    subst e5
    obtain ⟨ad, eA, _, _⟩ := at2i (SL.reads HS.out (.head _))
    subst eA
    obtain ⟨⟨q0, z0⟩, ⟨q1, z1⟩, ⟨q2, z2⟩, ⟨q3, z3⟩, ⟨q4, z4⟩, ⟨q5, z5⟩, ⟨q6, z6⟩⟩ := cells7 HS.out m4
    go_wp2_with (first
      | (go_at_call 44; (with_reducible refine (gapR_c HY.out HGG.out (SL.pk [5] HS.out)).mono ?_); rintro e w2 ⟨v2, hd2, rfl, hs⟩; clear HS q0 z0 q1 z1 q2 z2 q3 z3 q4 z4 q5 z5 q6 z6; rw [HGE.out] at hs ⊢; have HS := Aside0.mk hs; clear hs; obtain ⟨y2, hy2⟩ : ∃ y2, renewR y1 = y2 := ⟨_, rfl⟩; simp only at HS; rw [hy2] at HS HR HRO HKP; clear hy2; obtain ⟨B1, B2, B3, e1, e2, e3, ev, _⟩ := HS.out.know m0; subst ev; have hs2 := Aside0.mk (SL.new HS.out #[.int .i64 y2.R, .int .i64 y2.H, .int .i64 y2.MR, .int .i64 y2.W, .slice B1 y2.buf.length e1, .slice B2 y2.inb.length e2, .slice B3 y2.gaps.length e3] 52); clear HS; have HS := hs2; clear hs2; obtain ⟨⟨q0, z0⟩, ⟨q1, z1⟩, ⟨q2, z2⟩, ⟨q3, z3⟩, ⟨q4, z4⟩, ⟨q5, z5⟩, ⟨q6, z6⟩⟩ := cells7 HS.out m0))
    clear q0 z0 q1 z1 q2 z2 q3 z3 q4 z4 q5 z5 q6 z6
    generalize World.alloc _ _ = w3 at HS ⊢
    generalize w2.heap.size = b9 at *
    generalize W.heap.size + 1 + 1 = b6 at *
    have hs2 : Aside0 (SL w0 w3 (Blk b9 #[.int .i64 y2.R, .int .i64 y2.H, .int .i64 y2.MR, .int .i64 y2.W, .slice B1 y2.buf.length e1, .slice B2 y2.inb.length e2, .slice B3 y2.gaps.length e3] 52 :: RefA (RefV y2 B1 B2 B3 e1 e2 e3) y2 hd2 :: Row (Kd.int .u32) 27 (.slice (some ad) 2 c5) [lowN (y.R + s0.f0), lowN (y.R + s0.f1)] :: RecvA b (renewF { x with gaps := post }) :: Blk b6 zeroD 52 :: _)) := ⟨HS.out⟩
    clear HS
    have HS := hs2
    clear hs2
    refine start_ (n := 35) (S := fun w' => w'.cell? ⟨b9, 0, none⟩ = some (.int .i64 y2.R) ∧ w'.cell? ⟨b9, 1, none⟩ = some (.int .i64 y2.H) ∧ w'.cell? ⟨b9, 2, none⟩ = some (.int .i64 y2.MR) ∧ w'.cell? ⟨b9, 3, none⟩ = some (.int .i64 y2.W) ∧ w'.cell? ⟨b9, 4, none⟩ = some (.slice B1 y2.buf.length e1) ∧ w'.cell? ⟨b9, 5, none⟩ = some (.slice B2 y2.inb.length e2) ∧ w'.cell? ⟨b9, 6, none⟩ = some (.slice B3 y2.gaps.length e3) ∧ w'.cell? ad = some (.int .u32 (lowN (y.R + s0.f0))) ∧ w'.cell? ⟨ad.block, ad.off + 1, none⟩ = some (.int .u32 (lowN (y.R + s0.f1)))) (ds := []) #[false, false, false, false, false, false, false, false, false, false, false, false, false, false, false, false, false, false, false, false, false, false, false, false, false, false, false, false, false, false, false, false, false, false, false] (by kernel_rfl) rfl rfl ⟨(cells7 HS.out m0).1.1, (cells7 HS.out m0).2.1.1, (cells7 HS.out m0).2.2.1.1, (cells7 HS.out m0).2.2.2.1.1, (cells7 HS.out m0).2.2.2.2.1.1, (cells7 HS.out m0).2.2.2.2.2.1.1, (cells7 HS.out m0).2.2.2.2.2.2.1, (at2k (SL.reads HS.out m2)).1, (at2k (SL.reads HS.out m2)).2⟩ (fun hHeld => ?_)
    have hs_ := Aside0.mk (SL.drew (W := w3) (by repeat (first | (with_reducible exact HS.out) | (with_reducible apply SL.alloc) | (with_reducible apply SL.drewN) | (with_reducible apply SL.drew))))
    clear HS
    have HS := hs_
    clear hs_
    generalize (w3 : World).drew = w4 at HS hHeld ⊢
    refine pure_ (i := 1) (N := (some 123)) (v := ?_) (a' := ?_) #[false, true, false, false, false, false, false, false, false, false, false, false, false, false, false, false, false, false, false, false, false, false, false, false, false, false, false, false, false, false, false, false, false, false, false] rfl rfl (by kernel_rfl) (fun _ _ _ h => h) (Or.inl ⟨by rfl, ?_⟩) ?_ ?_
    rotate_left
    · intro w'; go_simp; with_reducible rfl
    rotate_left
    · simp only [Act.put, List.setIfInBounds_toArray, List.set_cons_zero, List.set_cons_succ, i64_w, i32_w]; rfl
    refine pure_ (i := 2) (N := (some 124)) (v := ?_) (a' := ?_) #[false, true, true, false, false, false, false, false, false, false, false, false, false, false, false, false, false, false, false, false, false, false, false, false, false, false, false, false, false, false, false, false, false, false, false] rfl rfl (by kernel_rfl) (fun _ _ _ h => h) (Or.inl ⟨by rfl, ?_⟩) ?_ ?_
    rotate_left
    · intro w'; go_simp; with_reducible rfl
    rotate_left
    · simp only [Act.put, List.setIfInBounds_toArray, List.set_cons_zero, List.set_cons_succ, i64_w, i32_w]; rfl
    refine pure_ (i := 3) (N := (some 125)) (v := ?_) (a' := ?_) #[false, true, true, true, false, false, false, false, false, false, false, false, false, false, false, false, false, false, false, false, false, false, false, false, false, false, false, false, false, false, false, false, false, false, false] rfl rfl (by kernel_rfl) (fun _ _ _ h => h) (Or.inl ⟨by rfl, ?_⟩) ?_ ?_
    rotate_left
    · intro w'; go_simp; with_reducible rfl
    rotate_left
    · simp only [Act.put, List.setIfInBounds_toArray, List.set_cons_zero, List.set_cons_succ, i64_w, i32_w]; rfl
    refine take_ (i := 0) (N := (some 122)) (v := ?_) (a' := ?_) #[true, true, true, true, false, false, false, false, false, false, false, false, false, false, false, false, false, false, false, false, false, false, false, false, false, false, false, false, false, false, false, false, false, false, false] rfl rfl (by kernel_rfl) (fun _ _ _ h => h) (Or.inl ⟨by rfl, ?_⟩) hHeld ?_ ?_
    rotate_left
    · rintro w' ⟨s0, s1, s2, s3, s4, s5, s6, s7, s8⟩; go_simp; with_reducible rfl
    rotate_left
    · simp only [Act.put, List.setIfInBounds_toArray, List.set_cons_zero, List.set_cons_succ, i64_w, i32_w]; rfl
    refine one_ (i := 4) (N := (some 126)) #[true, true, true, true, true, false, false, false, false, false, false, false, false, false, false, false, false, false, false, false, false, false, false, false, false, false, false, false, false, false, false, false, false, false, false] rfl rfl (by kernel_rfl) (by decide) (fun K hK => ?_)
    refine val_ (v := .int .i64 2) (w1 := w4) (by rfl) rfl (by go_simp) ?_
    refine hK.out _ _ hHeld (fun hHeld => ?_)
    clear hK K
    refine norm_ (a' := ?_) ?_ ?_
    rotate_left
    · show Act.put _ (some 126) _ = _; simp only [Act.put, List.setIfInBounds_toArray, List.set_cons_zero, List.set_cons_succ, i64_w, i32_w]; rfl
    refine pure_ (i := 5) (N := (some 127)) (v := ?_) (a' := ?_) #[true, true, true, true, true, true, false, false, false, false, false, false, false, false, false, false, false, false, false, false, false, false, false, false, false, false, false, false, false, false, false, false, false, false, false] rfl rfl (by kernel_rfl) (fun _ _ _ h => h) (Or.inl ⟨by rfl, ?_⟩) ?_ ?_
    rotate_left
    · intro w'; go_simp; with_reducible rfl
    rotate_left
    · simp only [Act.put, List.setIfInBounds_toArray, List.set_cons_zero, List.set_cons_succ, i64_w, i32_w]; rfl
    refine pure_ (i := 6) (N := (some 128)) (v := ?_) (a' := ?_) #[true, true, true, true, true, true, true, false, false, false, false, false, false, false, false, false, false, false, false, false, false, false, false, false, false, false, false, false, false, false, false, false, false, false, false] rfl rfl (by kernel_rfl) (fun _ _ _ h => h) (Or.inl ⟨by rfl, ?_⟩) ?_ ?_
    rotate_left
    · intro w'; go_simp; with_reducible rfl
    rotate_left
    · simp only [Act.put, List.setIfInBounds_toArray, List.set_cons_zero, List.set_cons_succ, i64_w, i32_w]; rfl
    refine pure_ (i := 7) (N := (some 129)) (v := ?_) (a' := ?_) #[true, true, true, true, true, true, true, true, false, false, false, false, false, false, false, false, false, false, false, false, false, false, false, false, false, false, false, false, false, false, false, false, false, false, false] rfl rfl (by kernel_rfl) (fun _ _ _ h => h) (Or.inl ⟨by rfl, ?_⟩) ?_ ?_
    rotate_left
    · intro w'; go_simp; with_reducible rfl
    rotate_left
    · simp only [Act.put, List.setIfInBounds_toArray, List.set_cons_zero, List.set_cons_succ, i64_w, i32_w]; rfl
    refine pure_ (i := 8) (N := (some 130)) (v := ?_) (a' := ?_) #[true, true, true, true, true, true, true, true, true, false, false, false, false, false, false, false, false, false, false, false, false, false, false, false, false, false, false, false, false, false, false, false, false, false, false] rfl rfl (by kernel_rfl) (fun _ _ _ h => h) (Or.inl ⟨by rfl, ?_⟩) ?_ ?_
    rotate_left
    · intro w'; go_simp; with_reducible rfl
    rotate_left
    · simp only [Act.put, List.setIfInBounds_toArray, List.set_cons_zero, List.set_cons_succ, i64_w, i32_w]; rfl
    refine pure_ (i := 9) (N := (some 131)) (v := ?_) (a' := ?_) #[true, true, true, true, true, true, true, true, true, true, false, false, false, false, false, false, false, false, false, false, false, false, false, false, false, false, false, false, false, false, false, false, false, false, false] rfl rfl (by kernel_rfl) (fun _ _ _ h => h) (Or.inl ⟨by rfl, ?_⟩) ?_ ?_
    rotate_left
    · intro w'; go_simp; with_reducible rfl
    rotate_left
    · simp only [Act.put, List.setIfInBounds_toArray, List.set_cons_zero, List.set_cons_succ, i64_w, i32_w]; rfl
    refine pure_ (i := 11) (N := (some 133)) (v := ?_) (a' := ?_) #[true, true, true, true, true, true, true, true, true, true, false, true, false, false, false, false, false, false, false, false, false, false, false, false, false, false, false, false, false, false, false, false, false, false, false] rfl rfl (by kernel_rfl) (fun _ _ _ h => h) (Or.inl ⟨by rfl, ?_⟩) ?_ ?_
    rotate_left
    · intro w'; go_simp; with_reducible rfl
    rotate_left
    · simp only [Act.put, List.setIfInBounds_toArray, List.set_cons_zero, List.set_cons_succ, i64_w, i32_w]; rfl
    refine take_ (i := 10) (N := (some 132)) (v := ?_) (a' := ?_) #[true, true, true, true, true, true, true, true, true, true, true, true, false, false, false, false, false, false, false, false, false, false, false, false, false, false, false, false, false, false, false, false, false, false, false] rfl rfl (by kernel_rfl) (fun _ _ _ h => h) (Or.inl ⟨by rfl, ?_⟩) hHeld ?_ ?_
    rotate_left
    · rintro w' ⟨s0, s1, s2, s3, s4, s5, s6, s7, s8⟩; go_simp; with_reducible rfl
    rotate_left
    · simp only [Act.put, List.setIfInBounds_toArray, List.set_cons_zero, List.set_cons_succ, i64_w, i32_w]; rfl
    refine one_ (i := 12) (N := (some 134)) #[true, true, true, true, true, true, true, true, true, true, true, true, true, false, false, false, false, false, false, false, false, false, false, false, false, false, false, false, false, false, false, false, false, false, false] rfl rfl (by kernel_rfl) (by decide) (fun K hK => ?_)
    refine goes_ Try.func41 (by kernel_rfl) rfl #[.int .u32 (lowN (y.R + s0.f0)), .int .i64 (y.R + s0.f0)] (by rfl) rfl rfl (by (try simp only [List.map_toArray, List.map_cons, List.map_nil]); first | done | rfl | (simp only [List.length_drop, List.length_take]; rfl)) ?_
    refine (of12_t (lowN (y.R + s0.f0)) (y.R + s0.f0) (by have := HY.out.R; have := HY.out.H; have := HH.out; omega) rfl _).mono ?_
    rintro e we1 ⟨rfl, rfl⟩
    refine ⟨_, rfl, ?_⟩
    refine hK.out _ _ hHeld (fun hHeld => ?_)
    clear hK K
    refine norm_ (a' := ?_) ?_ ?_
    rotate_left
    · show Act.put _ (some 134) _ = _; simp only [Act.put, List.setIfInBounds_toArray, List.set_cons_zero, List.set_cons_succ, i64_w, i32_w]; rfl
    refine pure_ (i := 13) (N := (some 135)) (v := ?_) (a' := ?_) #[true, true, true, true, true, true, true, true, true, true, true, true, true, true, false, false, false, false, false, false, false, false, false, false, false, false, false, false, false, false, false, false, false, false, false] rfl rfl (by kernel_rfl) (fun _ _ _ h => h) (Or.inl ⟨by rfl, ?_⟩) ?_ ?_
    rotate_left
    · intro w'; go_simp; with_reducible rfl
    rotate_left
    · simp only [Act.put, List.setIfInBounds_toArray, List.set_cons_zero, List.set_cons_succ, i64_w, i32_w]; rfl
    refine pure_ (i := 14) (N := (some 136)) (v := ?_) (a' := ?_) #[true, true, true, true, true, true, true, true, true, true, true, true, true, true, true, false, false, false, false, false, false, false, false, false, false, false, false, false, false, false, false, false, false, false, false] rfl rfl (by kernel_rfl) (fun _ _ _ h => h) (Or.inl ⟨by rfl, ?_⟩) ?_ ?_
    rotate_left
    · intro w'; go_simp; with_reducible rfl
    rotate_left
    · simp only [Act.put, List.setIfInBounds_toArray, List.set_cons_zero, List.set_cons_succ, i64_w, i32_w]; rfl
    refine pure_ (i := 15) (N := (some 137)) (v := ?_) (a' := ?_) #[true, true, true, true, true, true, true, true, true, true, true, true, true, true, true, true, false, false, false, false, false, false, false, false, false, false, false, false, false, false, false, false, false, false, false] rfl rfl (by kernel_rfl) (fun _ _ _ h => h) (Or.inl ⟨by rfl, ?_⟩) ?_ ?_
    rotate_left
    · intro w'; go_simp; with_reducible rfl
    rotate_left
    · simp only [Act.put, List.setIfInBounds_toArray, List.set_cons_zero, List.set_cons_succ, i64_w, i32_w]; rfl
    refine pure_ (i := 16) (N := (some 138)) (v := ?_) (a' := ?_) #[true, true, true, true, true, true, true, true, true, true, true, true, true, true, true, true, true, false, false, false, false, false, false, false, false, false, false, false, false, false, false, false, false, false, false] rfl rfl (by kernel_rfl) (fun _ _ _ h => h) (Or.inl ⟨by rfl, ?_⟩) ?_ ?_
    rotate_left
    · intro w'; go_simp; with_reducible rfl
    rotate_left
    · simp only [Act.put, List.setIfInBounds_toArray, List.set_cons_zero, List.set_cons_succ, i64_w, i32_w]; rfl
    refine pure_ (i := 18) (N := (some 140)) (v := ?_) (a' := ?_) #[true, true, true, true, true, true, true, true, true, true, true, true, true, true, true, true, true, false, true, false, false, false, false, false, false, false, false, false, false, false, false, false, false, false, false] rfl rfl (by kernel_rfl) (fun _ _ _ h => h) (Or.inl ⟨by rfl, ?_⟩) ?_ ?_
    rotate_left
    · intro w'; go_simp; with_reducible rfl
    rotate_left
    · simp only [Act.put, List.setIfInBounds_toArray, List.set_cons_zero, List.set_cons_succ, i64_w, i32_w]; rfl
    refine take_ (i := 17) (N := (some 139)) (v := ?_) (a' := ?_) #[true, true, true, true, true, true, true, true, true, true, true, true, true, true, true, true, true, true, true, false, false, false, false, false, false, false, false, false, false, false, false, false, false, false, false] rfl rfl (by kernel_rfl) (fun _ _ _ h => h) (Or.inl ⟨by rfl, ?_⟩) hHeld ?_ ?_
    rotate_left
    · rintro w' ⟨s0, s1, s2, s3, s4, s5, s6, s7, s8⟩; go_simp; with_reducible rfl
    rotate_left
    · simp only [Act.put, List.setIfInBounds_toArray, List.set_cons_zero, List.set_cons_succ, i64_w, i32_w]; rfl
    refine one_ (i := 19) (N := (some 141)) #[true, true, true, true, true, true, true, true, true, true, true, true, true, true, true, true, true, true, true, true, false, false, false, false, false, false, false, false, false, false, false, false, false, false, false] rfl rfl (by kernel_rfl) (by decide) (fun K hK => ?_)
    refine goes_ Try.func41 (by kernel_rfl) rfl #[.int .u32 (lowN (y.R + s0.f1)), .int .i64 (y.R + s0.f1)] (by rfl) rfl rfl (by (try simp only [List.map_toArray, List.map_cons, List.map_nil]); first | done | rfl | (simp only [List.length_drop, List.length_take]; rfl)) ?_
    refine (of12_t (lowN (y.R + s0.f1)) (y.R + s0.f1) (by have := HY.out.R; have := HY.out.H; have := HH.out; omega) rfl _).mono ?_
    rintro e we2 ⟨rfl, rfl⟩
    refine ⟨_, rfl, ?_⟩
    refine hK.out _ _ hHeld (fun hHeld => ?_)
    clear hK K
    refine norm_ (a' := ?_) ?_ ?_
    rotate_left
    · show Act.put _ (some 141) _ = _; simp only [Act.put, List.setIfInBounds_toArray, List.set_cons_zero, List.set_cons_succ, i64_w, i32_w]; rfl
    refine pure_ (i := 20) (N := (some 142)) (v := ?_) (a' := ?_) #[true, true, true, true, true, true, true, true, true, true, true, true, true, true, true, true, true, true, true, true, true, false, false, false, false, false, false, false, false, false, false, false, false, false, false] rfl rfl (by kernel_rfl) (fun _ _ _ h => h) (Or.inl ⟨by rfl, ?_⟩) ?_ ?_
    rotate_left
    · intro w'; go_simp; with_reducible rfl
    rotate_left
    · simp only [Act.put, List.setIfInBounds_toArray, List.set_cons_zero, List.set_cons_succ, i64_w, i32_w]; rfl
    refine pure_ (i := 21) (N := (some 143)) (v := ?_) (a' := ?_) #[true, true, true, true, true, true, true, true, true, true, true, true, true, true, true, true, true, true, true, true, true, true, false, false, false, false, false, false, false, false, false, false, false, false, false] rfl rfl (by kernel_rfl) (fun _ _ _ h => h) (Or.inl ⟨by rfl, ?_⟩) ?_ ?_
    rotate_left
    · intro w'; go_simp; with_reducible rfl
    rotate_left
    · simp only [Act.put, List.setIfInBounds_toArray, List.set_cons_zero, List.set_cons_succ, i64_w, i32_w]; rfl
    refine pure_ (i := 22) (N := (some 144)) (v := ?_) (a' := ?_) #[true, true, true, true, true, true, true, true, true, true, true, true, true, true, true, true, true, true, true, true, true, true, true, false, false, false, false, false, false, false, false, false, false, false, false] rfl rfl (by kernel_rfl) (fun _ _ _ h => h) (Or.inl ⟨by rfl, ?_⟩) ?_ ?_
    rotate_left
    · intro w'; go_simp; with_reducible rfl
    rotate_left
    · simp only [Act.put, List.setIfInBounds_toArray, List.set_cons_zero, List.set_cons_succ, i64_w, i32_w]; rfl
    refine pure_ (i := 23) (N := (some 145)) (v := ?_) (a' := ?_) #[true, true, true, true, true, true, true, true, true, true, true, true, true, true, true, true, true, true, true, true, true, true, true, true, false, false, false, false, false, false, false, false, false, false, false] rfl rfl (by kernel_rfl) (fun _ _ _ h => h) (Or.inl ⟨by rfl, ?_⟩) ?_ ?_
    rotate_left
    · intro w'; go_simp; with_reducible rfl
    rotate_left
    · simp only [Act.put, List.setIfInBounds_toArray, List.set_cons_zero, List.set_cons_succ, i64_w, i32_w]; rfl
    refine take_ (i := 24) (N := (some 146)) (v := ?_) (a' := ?_) #[true, true, true, true, true, true, true, true, true, true, true, true, true, true, true, true, true, true, true, true, true, true, true, true, true, false, false, false, false, false, false, false, false, false, false] rfl rfl (by kernel_rfl) (fun _ _ _ h => h) (Or.inl ⟨by rfl, ?_⟩) hHeld ?_ ?_
    rotate_left
    · rintro w' ⟨s0, s1, s2, s3, s4, s5, s6, s7, s8⟩; go_simp; with_reducible rfl
    rotate_left
    · simp only [Act.put, List.setIfInBounds_toArray, List.set_cons_zero, List.set_cons_succ, i64_w, i32_w]; rfl
    refine one_ (i := 25) (N := (some 147)) #[true, true, true, true, true, true, true, true, true, true, true, true, true, true, true, true, true, true, true, true, true, true, true, true, true, true, false, false, false, false, false, false, false, false, false] rfl rfl (by kernel_rfl) (by decide) (fun K hK => ?_)
    refine goes_ Try.func41 (by kernel_rfl) rfl #[.int .u32 x.r, .int .i64 y2.R] (by rfl) rfl rfl (by (try simp only [List.map_toArray, List.map_cons, List.map_nil]); first | done | rfl | (simp only [List.length_drop, List.length_take]; rfl)) ?_
    refine (of12_t x.r y2.R (by have := HRO.out.R; omega) HR.out.r _).mono ?_
    rintro e we3 ⟨rfl, rfl⟩
    refine ⟨_, rfl, ?_⟩
    refine hK.out _ _ hHeld (fun hHeld => ?_)
    clear hK K
    refine norm_ (a' := ?_) ?_ ?_
    rotate_left
    · show Act.put _ (some 147) _ = _; simp only [Act.put, List.setIfInBounds_toArray, List.set_cons_zero, List.set_cons_succ, i64_w, i32_w]; rfl
    refine pure_ (i := 26) (N := (some 148)) (v := ?_) (a' := ?_) #[true, true, true, true, true, true, true, true, true, true, true, true, true, true, true, true, true, true, true, true, true, true, true, true, true, true, true, false, false, false, false, false, false, false, false] rfl rfl (by kernel_rfl) (fun _ _ _ h => h) (Or.inl ⟨by rfl, ?_⟩) ?_ ?_
    rotate_left
    · intro w'; go_simp; with_reducible rfl
    rotate_left
    · simp only [Act.put, List.setIfInBounds_toArray, List.set_cons_zero, List.set_cons_succ, i64_w, i32_w]; rfl
    refine pure_ (i := 27) (N := (some 149)) (v := ?_) (a' := ?_) #[true, true, true, true, true, true, true, true, true, true, true, true, true, true, true, true, true, true, true, true, true, true, true, true, true, true, true, true, false, false, false, false, false, false, false] rfl rfl (by kernel_rfl) (fun _ _ _ h => h) (Or.inl ⟨by rfl, ?_⟩) ?_ ?_
    rotate_left
    · intro w'; go_simp; with_reducible rfl
    rotate_left
    · simp only [Act.put, List.setIfInBounds_toArray, List.set_cons_zero, List.set_cons_succ, i64_w, i32_w]; rfl
    refine pure_ (i := 28) (N := (some 150)) (v := ?_) (a' := ?_) #[true, true, true, true, true, true, true, true, true, true, true, true, true, true, true, true, true, true, true, true, true, true, true, true, true, true, true, true, true, false, false, false, false, false, false] rfl rfl (by kernel_rfl) (fun _ _ _ h => h) (Or.inl ⟨by rfl, ?_⟩) ?_ ?_
    rotate_left
    · intro w'; go_simp; with_reducible rfl
    rotate_left
    · simp only [Act.put, List.setIfInBounds_toArray, List.set_cons_zero, List.set_cons_succ, i64_w, i32_w]; rfl
    refine pure_ (i := 29) (N := (some 151)) (v := ?_) (a' := ?_) #[true, true, true, true, true, true, true, true, true, true, true, true, true, true, true, true, true, true, true, true, true, true, true, true, true, true, true, true, true, true, false, false, false, false, false] rfl rfl (by kernel_rfl) (fun _ _ _ h => h) (Or.inl ⟨by rfl, ?_⟩) ?_ ?_
    rotate_left
    · intro w'; go_simp; with_reducible rfl
    rotate_left
    · simp only [Act.put, List.setIfInBounds_toArray, List.set_cons_zero, List.set_cons_succ, i64_w, i32_w]; rfl
    refine take_ (i := 30) (N := (some 152)) (v := ?_) (a' := ?_) #[true, true, true, true, true, true, true, true, true, true, true, true, true, true, true, true, true, true, true, true, true, true, true, true, true, true, true, true, true, true, true, false, false, false, false] rfl rfl (by kernel_rfl) (fun _ _ _ h => h) (Or.inl ⟨by rfl, ?_⟩) hHeld ?_ ?_
    rotate_left
    · rintro w' ⟨s0, s1, s2, s3, s4, s5, s6, s7, s8⟩; go_simp; with_reducible rfl
    rotate_left
    · simp only [Act.put, List.setIfInBounds_toArray, List.set_cons_zero, List.set_cons_succ, i64_w, i32_w]; rfl
    refine one_ (i := 31) (N := (some 153)) #[true, true, true, true, true, true, true, true, true, true, true, true, true, true, true, true, true, true, true, true, true, true, true, true, true, true, true, true, true, true, true, true, false, false, false] rfl rfl (by kernel_rfl) (by decide) (fun K hK => ?_)
    refine goes_ Try.func41 (by kernel_rfl) rfl #[.int .u32 (renewF x).mr, .int .i64 y2.MR] (by rfl) rfl rfl (by (try simp only [List.map_toArray, List.map_cons, List.map_nil]); first | done | rfl | (simp only [List.length_drop, List.length_take]; rfl)) ?_
    refine (of12_t (renewF x).mr y2.MR (by have := HRO.out.MR; omega) HR.out.mr _).mono ?_
    rintro e we4 ⟨rfl, rfl⟩
    refine ⟨_, rfl, ?_⟩
    refine hK.out _ _ hHeld (fun hHeld => ?_)
    clear hK K
    refine norm_ (a' := ?_) ?_ ?_
    rotate_left
    · show Act.put _ (some 153) _ = _; simp only [Act.put, List.setIfInBounds_toArray, List.set_cons_zero, List.set_cons_succ, i64_w, i32_w]; rfl
    refine pure_ (i := 32) (N := (some 154)) (v := ?_) (a' := ?_) #[true, true, true, true, true, true, true, true, true, true, true, true, true, true, true, true, true, true, true, true, true, true, true, true, true, true, true, true, true, true, true, true, true, false, false] rfl rfl (by kernel_rfl) (fun _ _ _ h => h) (Or.inl ⟨by rfl, ?_⟩) ?_ ?_
    rotate_left
    · intro w'; go_simp; with_reducible rfl
    rotate_left
    · simp only [Act.put, List.setIfInBounds_toArray, List.set_cons_zero, List.set_cons_succ, i64_w, i32_w]; rfl
    refine one_ (i := 33) (N := none) #[true, true, true, true, true, true, true, true, true, true, true, true, true, true, true, true, true, true, true, true, true, true, true, true, true, true, true, true, true, true, true, true, true, true, false] rfl rfl (by kernel_rfl) (by decide) (fun K hK => ?_)
    obtain ⟨⟨u0, t0⟩, ⟨u1, t1⟩, ⟨u2, t2⟩, ⟨u3, t3⟩, ⟨u4, t4⟩, ⟨u5, t5⟩, ⟨u6, t6⟩⟩ := cells7 HS.out m4
    refine skip_ (w1 := (((((((we4.setCell ⟨b6, 0, none⟩ (.int .i64 y2.R)).setCell ⟨b6, 1, none⟩ (.int .i64 y2.H)).setCell ⟨b6, 2, none⟩ (.int .i64 y2.MR)).setCell ⟨b6, 3, none⟩ (.int .i64 y2.W)).setCell ⟨b6, 4, none⟩ (.slice B1 y2.buf.length e1)).setCell ⟨b6, 5, none⟩ (.slice B2 y2.inb.length e2)).setCell ⟨b6, 6, none⟩ (.slice B3 y2.gaps.length e3))) (by rfl) rfl (by go_simp) ?_
    have hs := set7 (.int .i64 y2.R) (.int .i64 y2.H) (.int .i64 y2.MR) (.int .i64 y2.W) (.slice B1 y2.buf.length e1) (.slice B2 y2.inb.length e2) (.slice B3 y2.gaps.length e3) (SL.pk [4] HS.out)
    clear HS
    have HS := Aside0.mk hs
    clear hs
    refine hK.out _ _ ⟨(cells7 HS.out m1).1.1, (cells7 HS.out m1).2.1.1, (cells7 HS.out m1).2.2.1.1, (cells7 HS.out m1).2.2.2.1.1, (cells7 HS.out m1).2.2.2.2.1.1, (cells7 HS.out m1).2.2.2.2.2.1.1, (cells7 HS.out m1).2.2.2.2.2.2.1, (at2k (SL.reads HS.out m3)).1, (at2k (SL.reads HS.out m3)).2⟩ (fun hHeld => ?_)
    clear hK K
    refine pure_ (i := 34) (N := (some 7)) (v := ?_) (a' := ?_) #[true, true, true, true, true, true, true, true, true, true, true, true, true, true, true, true, true, true, true, true, true, true, true, true, true, true, true, true, true, true, true, true, true, true, true] rfl rfl (by kernel_rfl) (fun _ _ _ h => h) (Or.inl ⟨by rfl, ?_⟩) ?_ ?_
    rotate_left
    · intro w'; go_simp; with_reducible rfl
    rotate_left
    · simp only [Act.put, List.setIfInBounds_toArray, List.set_cons_zero, List.set_cons_succ, i64_w, i32_w]; rfl
    refine done_ (by kernel_rfl) ?_
    go_wp2_with fail
    obtain ⟨⟨p0, r0⟩, ⟨p1, r1⟩, ⟨p2, r2⟩, ⟨p3, r3⟩, ⟨p4, r4⟩, ⟨p5, r5⟩, ⟨p6, r6⟩⟩ := cells7 HS.out m0
    refine bodyPost_ret (v := .tuple #[RefV y2 B1 B2 B3 e1 e2 e3, .bool true]) (by simp [results, Try.results24, go_sem, RefV, p0, p1, p2, p3, p4, p5, p6]) rfl ⟨renewF { x with gaps := post }, _, y2, hd2, rfl, HR.out, ⟨HKP.out.2.2, fun _ => ⟨HKP.out.1, HKP.out.2.1⟩⟩, ?_⟩
    exact SL.sub (SL.pk [4, 2] HS.out) (.cons_cons _ (.cons_cons _ (.cons _ (.cons _ (.cons _ (.cons _ (.cons _ (List.Sublist.refl _))))))))
theorem step_c {w0 W : World} {l : List As} {b : Nat} {x : RS} {v : Value} {y : RR} {hd : List Hd} {s : Int} {k : Nat} (hS : Sim s k x y) (hk : k ≤ 900) (kd N : Int) (raw : Bool) (m : ByteArray) (hN : -9223372036854775808 ≤ N ∧ N ≤ 9223372036854775807) (HS : SL w0 W (RecvA b x :: RefA v y hd :: l)) :
    Calls Try.prog 24 #[.pointer (some ⟨b, 0, none⟩), v, .agg #[.int .i64 kd, .int .i64 N, .bool raw, .string m]] W fun e w' => StepPost w0 l b s k y kd e w' := by
  by_cases h1 : kd = 1
  · rcases (poll_sim hS (nearF N raw y.H) (nearF_range _ _ _)).2 with h | h
    · exact step_poll1 hS hk kd N raw m hN h1 h HS
    · exact step_poll0 hS hk kd N raw m hN h1 h HS
  by_cases h2 : kd = 2
  · exact step_stat hS hk kd N raw m hN h2 HS
  by_cases h3 : kd = 3
  · exact step_gap hS hk kd N raw m hN h3 HS
  by_cases h4 : kd = 4
  · exact step_take hS hk kd N raw m hN h4 HS
  by_cases h5 : kd = 5
  · exact step_clone hS hk kd N raw m hN h5 HS
  exact step_data hS hk kd N raw m hN (by omega) HS
end Go.Proofs.Ytiiljdglbfgdbaa.Rcv
/-! A call of the law's list, as it lies in memory; the document's New. -/
namespace Go.Proofs.Ytiiljdglbfgdbaa.S
open Go Go.RowKit Go.Proofs.YtiiljdglbfgdbaaW.PrintWords Go.Proofs.YtiiljdglbfgdbaaW.PrintLast Go.Proofs.YtiiljdglbfgdbaaW.PrintMore
structure S57 where
  f0 : Int
  f1 : Int
  f2 : Bool
  f3 : ByteArray
def z57 : S57 := ⟨0, 0, false, ⟨#[]⟩⟩
def k57 : Kd S57 := Kd.iso (Kd.pair (Kd.int .i64) (Kd.pair (Kd.int .i64) (Kd.pair Kd.bool Kd.string))) (fun x : S57 => (x.f0, x.f1, x.f2, x.f3))
theorem k57_open {w : World} {x : S57} {cs : List Value} (h : k57.K w x cs) : cs = [.int .i64 x.f0, .int .i64 x.f1, .bool x.f2, .string x.f3] := by
  obtain ⟨_, _, rfl, rfl, _, _, rfl, rfl, _, _, rfl, rfl, rfl⟩ := h
  rfl
theorem at_T57 {w : World} {A : Option Addr} {n : Nat} {xs : List S57} (h : Kd.C k57 w A n xs) (i : Nat) (h1 : i < n) : ∃ ad, A = some ad ∧ w.cell? (ad.add (i * 4)) = some (.int .i64 (xs.getD i z57).f0) ∧ w.cell? ⟨(ad.add (i * 4)).block, (ad.add (i * 4)).off + 1, none⟩ = some (.int .i64 (xs.getD i z57).f1) ∧ w.cell? ⟨(ad.add (i * 4)).block, (ad.add (i * 4)).off + 2, none⟩ = some (.bool (xs.getD i z57).f2) ∧ w.cell? ⟨(ad.add (i * 4)).block, (ad.add (i * 4)).off + 3, none⟩ = some (.string (xs.getD i z57).f3) := by
  obtain ⟨ad, c, e, _, hK, hc0⟩ := Kd.C_get h z57 (i : Int) (Int.natCast_nonneg _) (Int.ofNat_lt.2 h1)
  rw [Int.toNat_natCast] at hK hc0
  have hc : ∀ j u, c[j]? = some u → w.cell? (ad.add (i * 4 + j)) = some u := hc0
  obtain rfl := k57_open hK
  exact ⟨ad, e, hc 0 _ rfl, by rw [← add_field _ _ 1 (by omega)]; exact hc 1 _ rfl, by rw [← add_field _ _ 2 (by omega)]; exact hc 2 _ rfl, by rw [← add_field _ _ 3 (by omega)]; exact hc 3 _ rfl⟩
end Go.Proofs.Ytiiljdglbfgdbaa.S
namespace Go.Proofs.Ytiiljdglbfgdbaa.Rcv
open Go Go.RowKit Go.Proofs.YtiiljdglbfgdbaaW.PrintWords Go.Proofs.YtiiljdglbfgdbaaW.PrintLast Go.Proofs.YtiiljdglbfgdbaaW.PrintMore Go.Proofs.Ytiiljdglbfgdbaa Go.Proofs.Ytiiljdglbfgdbaa.Sl Go.Proofs.Ytiiljdglbfgdbaa.S
abbrev y0R (a0 a1 : Int) : RR := ⟨lowN a0, lowN a0, lowN a0 + max 1 (min a1 64), max 1 (min a1 64), [], [], []⟩
theorem add_imm {w0 W : World} {l : List As} {Φ : World → Prop} (h : SL w0 W l) (hp : ∀ W, Φ W) : SL w0 W (Imm Φ :: l) := ⟨h.1, fun _ => False, fun W' _ => hp W', fun _ hk => hk.elim, h.2.mono (fun _ hk => ⟨hk, fun e => e⟩)⟩
theorem y0_ref (a0 a1 : Int) (W : World) : RefP (RefV (y0R a0 a1) none none none 0 0 0) (y0R a0 a1) [] W :=
  ⟨none, none, none, 0, 0, 0, rfl, ⟨Nat.le_refl _, Nat.le_refl _, Nat.le_refl _⟩, ⟨rfl, Nat.zero_le _, fun h => absurd h (Nat.lt_irrefl _)⟩, ⟨rfl, Nat.zero_le _, fun h => absurd h (Nat.lt_irrefl _)⟩, ⟨rfl, Nat.zero_le _, fun h => absurd h (Nat.lt_irrefl _)⟩, rfl, fun j g hg => by cases hg⟩
set_option maxHeartbeats 2000000 in
set_option maxRecDepth 100000 in
theorem newR_c (a0 a1 : Int) (h : -9223372036854775808 ≤ a0 ∧ a0 ≤ 9223372036854775807) (w : World) : Calls Try.prog 23 #[.int .i64 a0, .int .i64 a1] w fun e w' => e = .returned (RefV (y0R a0 a1) none none none 0 0 0) ∧ Below w.heap.size w w' := by
  have H := Aside0.mk (of1_s a0 h)
  obtain ⟨ww, hww⟩ : ∃ ww, max 1 (min a1 64) = ww := ⟨_, rfl⟩
  have hv : mx 1 (mn a1 64) = ww := by rw [← hww]; unfold mx mn; split <;> split <;> omega
  have hwr : 1 ≤ ww ∧ ww ≤ 64 := by omega
  have e1 : wrap64 (lowN a0 + ww) = lowN a0 + ww := by unfold wrap64 lowN; omega
  unfold RefV y0R
  rw [hww]
  clear h hwr
  go_enter Try.func23, Try.ntmps23
  go_wp2_with (go_at_call 37; (with_reducible refine (H.out _).mono ?_); rintro e w1 ⟨rfl, rfl⟩; skip)
  refine bodyPost_ret (v := .agg #[.int .i64 (lowN a0), .int .i64 (lowN a0), .int .i64 (lowN a0 + ww), .int .i64 ww, .slice none 0 0, .slice none 0 0, .slice none 0 0]) (by simp [results, Try.results23, go_sem]) rfl ⟨rfl, ?_⟩
  (with_reducible repeat (first | exact Below.refl _ _ | refine below_alloc ?_ _ | refine pw_below_drewN ?_ _ | refine below_drew ?_ | refine below_setc ?_ (by first | exact Nat.le_refl _ | exact Nat.le_add_right _ _ | (simp only []; omega)) _))
end Go.Proofs.Ytiiljdglbfgdbaa.Rcv
