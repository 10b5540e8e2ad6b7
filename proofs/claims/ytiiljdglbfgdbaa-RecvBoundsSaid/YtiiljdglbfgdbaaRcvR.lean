/- The document's receiver: Data. -/
import Derived.Test.YtiiljdglbfgdbaaRcvP
import Derived.Test.YtiiljdglbfgdbaaS0
set_option linter.unusedVariables false
set_option linter.unusedSimpArgs false
namespace Go.Proofs.Ytiiljdglbfgdbaa.Rcv
open Go Go.RowKit Go.Proofs.YtiiljdglbfgdbaaW.PrintWords Go.Proofs.YtiiljdglbfgdbaaW.PrintLast Go.Proofs.YtiiljdglbfgdbaaW.PrintMore Go.Proofs.Ytiiljdglbfgdbaa Go.Proofs.Ytiiljdglbfgdbaa.Sl Go.Proofs.Ytiiljdglbfgdbaa.S
attribute [local go_sem] max2_int min2_int max_two min_two
set_option maxHeartbeats 2000000 in
set_option maxRecDepth 100000 in
theorem dataR_rej {w0 W : World} {l : List As} {v : Value} {y : RR} {hd : List Hd} (hy : y.Ok) (x : Int) (hx : 0 ≤ x ∧ x < 16777216) (m : ByteArray) (h : y.R + toN y.R x ≥ y.MR ∨ hasR y.buf (y.R + toN y.R x) = true) (HS : SL w0 W (RefA v y hd :: l)) :
    Calls Try.prog 28 #[v, .int .i64 x, .string m] W fun e w' => e = .returned (.tuple #[v, .slice none 0 0]) ∧ SL w0 w' (RefA v y hd :: l) := by
  obtain ⟨A1, A2, A3, c1, c2, c3, rfl, hh⟩ := HS.know (.head _)
  have HS := Aside0.mk HS
  have hu := Try.underlying52
  have hT : Aside0 (∀ w, Calls Try.prog 46 #[.int .i64 y.R, .int .i64 x] w fun e w' => e = .returned (.int .i64 (toN y.R x)) ∧ w' = w) := ⟨fun w => to1_s _ _ (by have := hy.R; omega) (by omega) w⟩
  have e1 : wrap64 (y.R + toN y.R x) = y.R + toN y.R x := by have := hy.R; unfold wrap64 toN; omega
  have HY := Aside0.mk hy
  clear hh
  unfold RefV
  go_enter Try.func28, Try.ntmps28
  go_wp2_with fail
  go_quiet ((first | (go_at_call 46; with_reducible exact Calls.quiet_of_same (hT.out _))))
  rw [e1]
  obtain ⟨n, hn⟩ : ∃ n, y.R + toN y.R x = n := ⟨_, rfl⟩
  rw [hn] at h ⊢
  clear hT hn e1 hy
  by_cases g1 : n ≥ y.MR
  · have p1 : decide (n ≥ y.MR) = true := decide_eq_true g1
    clear h g1
    go_wp2_with fail
    refine bodyPost_ret (v := .tuple #[RefV y A1 A2 A3 c1 c2 c3, .slice none 0 0]) (by simp [results, Try.results28, go_sem, RefV]) rfl ⟨rfl, ?_⟩
    refine SL.below HS.out ?_
    (with_reducible repeat (first | exact Below.refl _ _ | refine below_alloc ?_ _ | refine pw_below_drewN ?_ _ | refine below_drew ?_ | refine below_setc ?_ (by first | exact Nat.le_refl _ | exact Nat.le_add_right _ _ | (simp only []; omega)) _))
  · have p1 : decide (n ≥ y.MR) = false := decide_eq_false g1
    have hH := h.resolve_left g1
    clear h g1
    have hs2 := Aside0.mk (SL.drewN (SL.new (SL.new HS.out #[.int .i64 y.R, .int .i64 y.H, .int .i64 y.MR, .int .i64 y.W, .slice A1 y.buf.length c1, .slice A2 y.inb.length c2, .slice A3 y.gaps.length c3] 52) #[.int .i64 0, .int .i64 0, .int .i64 0, .int .i64 0, .slice none 0 0, .slice none 0 0, .slice none 0 0] 52) nq)
    rw [show ∀ o, (W.alloc o).heap.size = W.heap.size + 1 from fun o => by simp] at hs2
    clear HS
    have HS := hs2
    clear hs2
    generalize World.drewN _ nq = w1 at *
    obtain ⟨⟨q0, z0⟩, ⟨q1, z1⟩, ⟨q2, z2⟩, ⟨q3, z3⟩, ⟨q4, z4⟩, ⟨q5, z5⟩, ⟨q6, z6⟩⟩ := cells7 HS.out m1
    go_wp2_with (go_at_call 47; (with_reducible refine (has_c HY.out.buf n HS.out m2).mono ?_); rintro e w2 ⟨rfl, hs⟩; clear HS q0 q1 q2 q3 q4 q5 q6 z0 z1 z2 z3 z4 z5 z6; have HS := Aside0.mk hs; clear hs; obtain ⟨⟨q0, z0⟩, ⟨q1, z1⟩, ⟨q2, z2⟩, ⟨q3, z3⟩, ⟨q4, z4⟩, ⟨q5, z5⟩, ⟨q6, z6⟩⟩ := cells7 HS.out m1; obtain ⟨⟨x0, y0⟩, ⟨x1, y1⟩, ⟨x2, y2⟩, ⟨x3, y3⟩, ⟨x4, y4⟩, ⟨x5, y5⟩, ⟨x6, y6⟩⟩ := cells7 HS.out m0)
    have hs2 := Aside0.mk (set7 (.int .i64 y.R) (.int .i64 y.H) (.int .i64 y.MR) (.int .i64 y.W) (.slice A1 y.buf.length c1) (.slice A2 y.inb.length c2) (.slice A3 y.gaps.length c3) HS.out)
    clear q0 q1 q2 q3 q4 q5 q6 z0 z1 z2 z3 z4 z5 z6 x0 x1 x2 x3 x4 x5 x6 y0 y1 y2 y3 y4 y5 y6 HS
    obtain ⟨⟨x0, y0⟩, ⟨x1, y1⟩, ⟨x2, y2⟩, ⟨x3, y3⟩, ⟨x4, y4⟩, ⟨x5, y5⟩, ⟨x6, y6⟩⟩ := cells7 hs2.out m0
    exact bodyPost_ret (v := .tuple #[RefV y A1 A2 A3 c1 c2 c3, .slice none 0 0]) (by simp [results, Try.results28, go_sem, RefV, x0, x1, x2, x3, x4, x5, x6]) rfl ⟨rfl, SL.tail (SL.tail hs2.out)⟩
theorem infoIt : (Try.prog.info? 98).map (fun i => (i.zero, i.size, i.bytes)) = some (some (.agg #[.int .i64 0, .string ⟨#[]⟩]), 2, 24) := by kernel_rfl
theorem infoSl : (Try.prog.info? 22).map (fun i => (i.zero, i.size, i.bytes)) = some (some (.slice none 0 0), 1, 24) := by kernel_rfl
theorem flat_It : Flat kIt := flat_iso (flat_pair (flat_int _) flat_string)
abbrev cellsD (R H MR W : Int) (s1 s2 s3 : Value) : Array Value := #[.int .i64 R, .int .i64 H, .int .i64 MR, .int .i64 W, s1, s2, s3]
abbrev zeroD : Array Value := #[.int .i64 0, .int .i64 0, .int .i64 0, .int .i64 0, .slice none 0 0, .slice none 0 0, .slice none 0 0]
theorem step_appendN {P : Program} {ops : Array Oper} {o : Oper} {a : Act} {Q : Exit → Act → World → Prop} {w0 W : World} {l : List As} {α : Type} {Kc : Act → World → Prop} (d : Kd α) (hf : Flat d) (hw : Region.wanted o (yielded ops a.tmps) = true) (s x : Operand) (t e : TypeId) (z : Value) (bytes : Nat)
    (ho : o.op = .call { callee := .builtin .append, args := #[s, x], argTypes := #[t, t] })
    (ht : P.underlying t = some (.slice e)) (hinfo : (P.info? e).map (fun i => (i.zero, i.size, i.bytes)) = some (some z, d.sz, bytes)) (hz : z.cells.size = d.sz) (hs0 : 0 < d.sz) (hb0 : 0 < bytes)
    (v : Value) (xs ys : List α) (A : Option Addr) (m c : Nat) (hs : a.eval s = v) (hx : a.eval x = .slice A m c)
    (HS : SL w0 W (Row d e v xs :: l)) (HR : d.C W A m ys) (hl : (xs.length + m) * bytes ≤ 140737488355328)
    (h : ∀ v1 w1, SL w0 w1 (Row d e v1 (xs ++ ys) :: l) → Kc (a.put o.dst v1) w1) :
    if Region.wanted o (yielded ops a.tmps) = true then Oper.wp P o a W Kc Q else Kc (a.put o.dst undef) W := by
  obtain ⟨v1, w1, hr, h1⟩ := run_appendN (P := P) d hf t o.type e z bytes ht hinfo hz hs0 hb0 v xs ys A m c HS HR hl
  rw [if_pos hw]
  unfold Oper.wp execOp
  simp only [ho, resolve, invoke, builtin, Sem.run_bind, Sem.run_pure, Result.andThen_ok, List.map_toArray, List.map_cons, List.map_nil, hs, hx, hr]
  exact h v1 w1 h1
theorem refC {w0 W : World} {l : List As} {y : RR} {hd : List Hd} {A1 A2 A3 : Option Addr} {c1 c2 c3 : Nat} (h : SL w0 W l) (hm : RefA (RefV y A1 A2 A3 c1 c2 c3) y hd ∈ l) : kIt.C W A1 y.buf.length y.buf ∧ Kd.string.C W A2 y.inb.length y.inb ∧ kH.C W A3 y.gaps.length hd ∧ InnerP W hd y.gaps := by
  obtain ⟨B1, B2, B3, d1, d2, d3, e, _, h1, h2, h3⟩ := h.know hm
  simp only [RefV, Value.agg.injEq, Array.mk.injEq, List.cons.injEq, Value.slice.injEq, and_true, true_and] at e
  obtain ⟨⟨rfl, rfl⟩, ⟨rfl, rfl⟩, rfl, rfl⟩ := e
  exact ⟨h1, h2, h3⟩
theorem refCW {W : World} {y : RR} {hd : List Hd} {A1 A2 A3 : Option Addr} {c1 c2 c3 : Nat} (h : RefP (RefV y A1 A2 A3 c1 c2 c3) y hd W) : (y.buf.length ≤ c1 ∧ y.inb.length ≤ c2 ∧ y.gaps.length ≤ c3) ∧ kIt.C W A1 y.buf.length y.buf ∧ Kd.string.C W A2 y.inb.length y.inb ∧ kH.C W A3 y.gaps.length hd ∧ InnerP W hd y.gaps := by
  obtain ⟨B1, B2, B3, d1, d2, d3, e, h0, h1, h2, h3⟩ := h
  simp only [RefV, Value.agg.injEq, Array.mk.injEq, List.cons.injEq, Value.slice.injEq, and_true, true_and] at e
  obtain ⟨⟨rfl, rfl⟩, ⟨rfl, rfl⟩, rfl, rfl⟩ := e
  exact ⟨h0, h1, h2, h3⟩
def GapsP (A3 : Option Addr) (c3 : Nat) (hs : List Hd) (gs : List (List Int)) (W : World) : Prop := gs.length ≤ c3 ∧ kH.C W A3 gs.length hs ∧ InnerP W hs gs
theorem row_imm2 {α : Type} {d : Kd α} {e n c : Nat} {A : Option Addr} {xs : List α} {w0 W : World} {l : List As} (h : SL w0 W (Row d e (.slice A n c) xs :: l)) : SL w0 W (Imm (fun W => n ≤ c ∧ d.C W A n xs) :: l) :=
  SL.imm_mono (SL.row_imm h) (fun W => by
    rintro ⟨A', c', e, h1, h2⟩
    injection e with e1 e2 e3
    subst e1
    subst e2
    subst e3
    exact ⟨h1, h2⟩)
theorem refMake {w0 W : World} {l : List As} {z : RR} {hd : List Hd} {A1 A2 A3 : Option Addr} {c1 c2 c3 : Nat} {P : World → Prop} (hP : ∀ W, P W → z.gaps.length ≤ c3 ∧ kH.C W A3 z.gaps.length hd ∧ InnerP W hd z.gaps)
    (h : SL w0 W (Row kIt 98 (.slice A1 z.buf.length c1) z.buf :: Row Kd.string 9 (.slice A2 z.inb.length c2) z.inb :: Imm P :: l)) : SL w0 W (RefA (RefV z A1 A2 A3 c1 c2 c3) z hd :: l) :=
  SL.imm_mono (SL.imm_join (SL.swap (SL.imm_join (row_imm2 (SL.pk [1, 1] (row_imm2 h)))))) (fun W h => ⟨A1, A2, A3, c1, c2, c3, rfl, ⟨h.1.1, h.2.1.1, (hP W h.2.2).1⟩, h.1.2, h.2.1.2, (hP W h.2.2).2.1, (hP W h.2.2).2.2⟩)
set_option maxHeartbeats 8000000 in
set_option maxRecDepth 100000 in
theorem dataR_in {w0 W : World} {l : List As} {v : Value} {y : RR} {hd : List Hd} (hy : y.Ok) (x n : Int) (hx : 0 ≤ x ∧ x < 16777216) (m : ByteArray) (hn : y.R + toN y.R x = n) (h1 : ¬ n ≥ y.MR) (h2 : hasR y.buf n = false) (hl : y.buf.length ≤ 900000) (hi : y.inb.length ≤ 90000) (hg : ¬ n > y.H) (HS : SL w0 W (RefA v y hd :: l)) :
    Calls Try.prog 28 #[v, .int .i64 x, .string m] W fun e w' => ∃ v' vs hd', e = .returned (.tuple #[v', vs]) ∧ SL w0 w' (RefA v' (pullR { y with buf := y.buf ++ [⟨n, m⟩], gaps := y.gaps, H := max y.H (n + 1) }).1 hd' :: Row Kd.string 9 vs (pullR { y with buf := y.buf ++ [⟨n, m⟩], gaps := y.gaps, H := max y.H (n + 1) }).2 :: l) := by
  obtain ⟨A1, A2, A3, c1, c2, c3, rfl, hh⟩ := HS.know (.head _)
  have HS := Aside0.mk HS
  have hu := Try.underlying52
  have hu2 := Try.underlying98
  have hT : Aside0 (∀ w, Calls Try.prog 46 #[.int .i64 y.R, .int .i64 x] w fun e w' => e = .returned (.int .i64 (toN y.R x)) ∧ w' = w) := ⟨fun w => to1_s _ _ (by have := hy.R; omega) (by omega) w⟩
  have e1 : wrap64 n = n := by have := hy.R; unfold wrap64; unfold toN at hn; omega
  have HY := Aside0.mk hy
  have HLI := Aside0.mk (And.intro hl hi)
  have HNR := Aside0.mk (show y.R ≤ n ∧ n < y.MR by unfold toN at hn; omega)
  have HF := Aside0.mk (And.intro h1 (And.intro h2 hg))
  clear hh h1 h2 hg
  unfold RefV
  go_enter Try.func28, Try.ntmps28
  go_wp2_with fail
  go_quiet ((first | (go_at_call 46; with_reducible exact Calls.quiet_of_same (hT.out _))))
  rw [e1]
  obtain ⟨h1, h2, hg⟩ := HF.out
  have hm : (if y.H < n + 1 then n + 1 else y.H) = max y.H (n + 1) := by omega
  have hw1 : wrap64 (n + 1) = n + 1 := by have := HNR.out; have := HY.out.MR; have := HY.out.R; unfold wrap64; omega
  have p1 : decide (n ≥ y.MR) = false := decide_eq_false (by omega)
  have p2 : decide (n > y.H) = false := decide_eq_false (by omega)
  clear hg
  clear hT hn e1 hy h1 hl hi
  have hs2 := Aside0.mk (SL.drewN (SL.new (SL.new HS.out (cellsD y.R y.H y.MR y.W (.slice A1 y.buf.length c1) (.slice A2 y.inb.length c2) (.slice A3 y.gaps.length c3)) 52) zeroD 52) nq)
  rw [show ∀ o, (W.alloc o).heap.size = W.heap.size + 1 from fun o => by simp] at hs2
  clear HS
  have HS := hs2
  clear hs2
  generalize World.drewN _ nq = w1 at *
  have hne : ¬ W.heap.size + 1 = W.heap.size := by omega
  have hne2 : ¬ W.heap.size = W.heap.size + 1 := by omega
  generalize W.heap.size + 1 = b6 at *
  generalize W.heap.size = b3 at *
  obtain ⟨⟨q0, z0⟩, ⟨q1, z1⟩, ⟨q2, z2⟩, ⟨q3, z3⟩, ⟨q4, z4⟩, ⟨q5, z5⟩, ⟨q6, z6⟩⟩ := cells7 HS.out m1
  go_wp2_with (first
    | (go_at_call 47; (with_reducible refine (has_c HY.out.buf n HS.out m2).mono ?_); rintro e w2 ⟨rfl, hs⟩; clear HS q0 z0 q1 z1 q2 z2 q3 z3 q4 z4 q5 z5 q6 z6; have HS := Aside0.mk hs; clear hs; obtain ⟨⟨q0, z0⟩, ⟨q1, z1⟩, ⟨q2, z2⟩, ⟨q3, z3⟩, ⟨q4, z4⟩, ⟨q5, z5⟩, ⟨q6, z6⟩⟩ := cells7 HS.out m1; rw [h2]; have hal4 : ∀ o : Obj, (w2.alloc o).cell? ⟨b3, 4, none⟩ = some (.slice A1 y.buf.length c1) := fun o => pw_cell_below (below_alloc (Below.refl _ _) o) q4; have hs2 := Aside0.mk (SL.lit (d := kIt) (e := 98) (xs := []) (cs := []) HS.out (fun _ _ _ => Reps.none _ _) (by decide)); clear HS; have HS := hs2; clear hs2)
    | ((with_reducible refine gate_builtin (b := .append) (xs := #[.tmp 31, .tmp 33]) rfl ?_); at_builtin; refine wpList_appendN kIt flat_It rfl (.tmp 31) (.tmp 33) 49 98 (.agg #[.int .i64 0, .string ⟨#[]⟩]) 24 rfl Try.underlying49 infoIt rfl (by decide) (by omega) (.slice (some ⟨w2.heap.size, 0, none⟩) 0 0) [] y.buf A1 y.buf.length c1 rfl rfl (HS.out) ((refC HS.out m3).1) (by have := HLI.out; simp only [List.length_nil]; omega) ?_; intro v2 w9 hs; clear HS q0 z0 q1 z1 q2 z2 q3 z3 q4 z4 q5 z5 q6 z6 hal4; have HS := Aside0.mk hs; clear hs; obtain ⟨A5, c5, e5, _⟩ := SL.form HS.out (.head _); subst e5; obtain ⟨⟨q0, z0⟩, ⟨q1, z1⟩, ⟨q2, z2⟩, ⟨q3, z3⟩, ⟨q4, z4⟩, ⟨q5, z5⟩, ⟨q6, z6⟩⟩ := cells7 HS.out m2)
    | ((with_reducible refine gate_builtin (b := .append) (xs := #[.tmp 34, .tmp 38]) rfl ?_); at_builtin; go_loud (refine wpList_append1 kIt rfl (.tmp 34) (.tmp 38) 49 98 (.agg #[.int .i64 0, .string ⟨#[]⟩]) 24 rfl Try.underlying49 infoIt rfl (by decide) (by omega) (.slice A5 ([] ++ y.buf).length c5) ([] ++ y.buf) ⟨n, m⟩ [.int .i64 n, .string m] rfl (by first | rfl | (rw [alc_size]; rfl)) (k98_mkM _ _ _ ⟨n, m⟩) HS.out (by have := HLI.out; simp only [List.length_append, List.length_nil]; omega) ?_; intro v2 w9 hs; clear HS q0 z0 q1 z1 q2 z2 q3 z3 q4 z4 q5 z5 q6 z6; have HS := Aside0.mk hs; clear hs; obtain ⟨A6, c6, e6, _⟩ := SL.form HS.out (.head _); subst e6; obtain ⟨⟨q0, z0⟩, ⟨q1, z1⟩, ⟨q2, z2⟩, ⟨q3, z3⟩, ⟨q4, z4⟩, ⟨q5, z5⟩, ⟨q6, z6⟩⟩ := cells7 HS.out m2)))
  obtain ⟨bf, hbf⟩ : ∃ bf : List It, y.buf ++ [⟨n, m⟩] = bf := ⟨_, rfl⟩
  have hbl : bf.length = y.buf.length + 1 := by rw [← hbf, List.length_append]; rfl
  obtain ⟨Hn, hHn⟩ : ∃ Hn, max y.H (n + 1) = Hn := ⟨_, rfl⟩
  have hs2 := Aside0.mk (SL.lit (d := Kd.string) (e := 9) (xs := []) (cs := []) (SL.set (cs' := cellsD y.R (max y.H (n + 1)) y.MR y.W (.slice A6 (y.buf.length + 1) c6) (.slice A2 y.inb.length c2) (.slice A3 y.gaps.length c3)) (SL.set (cs' := cellsD y.R y.H y.MR y.W (.slice A6 (y.buf.length + 1) c6) (.slice A2 y.inb.length c2) (.slice A3 y.gaps.length c3)) (SL.pk [2] HS.out) 4 (.slice A6 (y.buf.length + 1) c6) rfl) 1 (.int .i64 (max y.H (n + 1))) rfl) (fun _ _ _ => Reps.none _ _) (by decide))
  clear HS q0 z0 q1 z1 q2 z2 q3 z3 q4 z4 q5 z5 q6 z6
  have HS : Aside0 (SL w0 _ (Blk b3 (cellsD y.R Hn y.MR y.W (.slice A6 bf.length c6) (.slice A2 y.inb.length c2) (.slice A3 y.gaps.length c3)) 52 :: Row kIt 98 (.slice A6 bf.length c6) bf :: Row Kd.string 9 (.slice (some ⟨w9.heap.size, 0, none⟩) ([] : List ByteArray).length 0) [] :: Blk b6 zeroD 52 :: RefA (RefV y A1 A2 A3 c1 c2 c3) y hd :: l)) := ⟨by
    have el : (y.buf ++ [(⟨n, m⟩ : It)]).length = y.buf.length + 1 := by simp
    rw [← hHn, ← hbf, el]
    have h := SL.pk [1, 1] hs2.out
    rw [setc_size, setc_size, List.nil_append, el] at h
    exact h⟩
  clear hs2
  obtain ⟨fin, hfin⟩ : ∃ fin, runR (bf.length + 1) y.R bf [] = fin := ⟨_, rfl⟩
  have HFIN := Aside0.mk hfin
  have HBF := Aside0.mk (And.intro hbf (And.intro hHn hbl))
  clear hfin hbf hHn hbl hw1 hm p1 p2
  go_loopg [9, 10] (bf.length + 1) (fun kq v9 v10 wr => ∃ (kk : Nat) (R : Int) (b : List It) (o : List ByteArray) (ag : Bool) (Ab : Option Addr) (cb : Nat) (Ao : Option Addr) (co : Nat), kk = kq ∧ v9 = .slice Ao o.length co ∧ v10 = .bool ag ∧ Aside0 (o.length + b.length ≤ 900001) ∧ Aside0 (y.R ≤ R ∧ R ≤ y.R + o.length) ∧ Aside0 ((ag = true ∧ b.length < kk ∧ runR kk R b o = fin) ∨ (ag = false ∧ (R, b, o) = fin)) ∧ Aside0 (SL w0 wr (Blk b3 (cellsD R Hn y.MR y.W (.slice Ab b.length cb) (.slice A2 y.inb.length c2) (.slice A3 y.gaps.length c3)) 52 :: Row kIt 98 (.slice Ab b.length cb) b :: Row Kd.string 9 (.slice Ao o.length co) o :: Blk b6 zeroD 52 :: RefA (RefV y A1 A2 A3 c1 c2 c3) y hd :: l)))
  case atStart => exact ⟨_, y.R, bf, [], true, A6, c6, some ⟨_, 0, none⟩, 0, rfl, rfl, rfl, ⟨by have := HLI.out; have := HBF.out.2.2; simp only [List.length_nil]; omega⟩, ⟨by simp⟩, ⟨Or.inl ⟨rfl, Nat.lt_succ_self _, HFIN.out⟩⟩, HS⟩
  case round =>
    clear HS
    obtain ⟨kk, R, b, o, ag, Ab, cb, Ao, co, hkk, rfl, rfl, HB, HR, HK, HS⟩ := hrel
    have HKK := Aside0.mk hkk
    clear hkk
    obtain ⟨⟨q0, z0⟩, ⟨q1, z1⟩, ⟨q2, z2⟩, ⟨q3, z3⟩, ⟨q4, z4⟩, ⟨q5, z5⟩, ⟨q6, z6⟩⟩ := cells7 HS.out m0
    have hal0 : ∀ o : Obj, (wr.alloc o).cell? ⟨b3, 0, none⟩ = some (.int .i64 R) := fun o => pw_cell_below (below_alloc (Below.refl _ _) o) q0; have hal4 : ∀ o : Obj, (wr.alloc o).cell? ⟨b3, 4, none⟩ = some (.slice Ab b.length cb) := fun o => pw_cell_below (below_alloc (Below.refl _ _) o) q4; have hal5 : ∀ o : Obj, (wr.alloc o).cell? ⟨b3, 5, none⟩ = some (.slice A2 y.inb.length c2) := fun o => pw_cell_below (below_alloc (Below.refl _ _) o) q5
    cases ag with
    | false =>
      have hk := HK.out.resolve_left (fun e => by cases e.1)
      have HK2 := Aside0.mk hk.2
      clear hk HK
      have hs2 := Aside0.mk (SL.lit (d := Kd.string) (e := 9) (xs := []) (cs := []) HS.out (fun _ _ _ => Reps.none _ _) (by decide))
      clear HS
      have HS := hs2
      clear hs2
      go_wp2_with (first
        | ((with_reducible refine gate_builtin (b := .append) (xs := #[.tmp 104, .tmp 106]) rfl ?_); at_builtin; refine wpList_appendN Kd.string flat_string rfl (.tmp 104) (.tmp 106) 30 9 (.string ⟨#[]⟩) 16 rfl Try.underlying30 infoS rfl (by decide) (by omega) (.slice (some ⟨wr.heap.size, 0, none⟩) 0 0) [] y.inb A2 y.inb.length c2 rfl rfl (HS.out) ((refC HS.out m5).2.1) (by have := HLI.out; simp only [List.length_nil]; omega) ?_; intro v2 w9 hs; clear HS q0 z0 q1 z1 q2 z2 q3 z3 q4 z4 q5 z5 q6 z6 hal0 hal4 hal5; have HS := Aside0.mk hs; clear hs; obtain ⟨A7, c7, e7, _⟩ := SL.form HS.out (.head _); subst e7; obtain ⟨⟨q0, z0⟩, ⟨q1, z1⟩, ⟨q2, z2⟩, ⟨q3, z3⟩, ⟨q4, z4⟩, ⟨q5, z5⟩, ⟨q6, z6⟩⟩ := cells7 HS.out m1)
        | ((with_reducible refine gate_builtin (b := .append) (xs := #[.tmp 107, .tmp 108]) rfl ?_); at_builtin; refine wpList_appendN Kd.string flat_string rfl (.tmp 107) (.tmp 108) 30 9 (.string ⟨#[]⟩) 16 rfl Try.underlying30 infoS rfl (by decide) (by omega) (.slice A7 ([] ++ y.inb).length c7) ([] ++ y.inb) o Ao o.length co rfl rfl (HS.out) (SL.reads HS.out m3) (by have := HLI.out; have := HB.out; simp only [List.length_append, List.length_nil]; omega) ?_; intro v2 w9 hs; clear HS q0 z0 q1 z1 q2 z2 q3 z3 q4 z4 q5 z5 q6 z6; have HS := Aside0.mk hs; clear hs; obtain ⟨A8, c8, e8, _⟩ := SL.form HS.out (.head _); subst e8; obtain ⟨⟨q0, z0⟩, ⟨q1, z1⟩, ⟨q2, z2⟩, ⟨q3, z3⟩, ⟨q4, z4⟩, ⟨q5, z5⟩, ⟨q6, z6⟩⟩ := cells7 HS.out m1; obtain ⟨⟨x0, y0⟩, ⟨x1, y1⟩, ⟨x2, y2⟩, ⟨x3, y3⟩, ⟨x4, y4⟩, ⟨x5, y5⟩, ⟨x6, y6⟩⟩ := cells7 HS.out m4))
      have HP : Aside0 (pullR { y with buf := y.buf ++ [⟨n, m⟩], gaps := y.gaps, H := max y.H (n + 1) } = ({ y with R := R, H := Hn, buf := b, inb := y.inb ++ o, gaps := y.gaps }, o)) := ⟨by
        have e := HK2.out.trans HFIN.out.symm
        unfold pullR
        simp only
        rw [HBF.out.1, HBF.out.2.1, ← e]⟩
      have hs2 := Aside0.mk (set7 (.int .i64 R) (.int .i64 Hn) (.int .i64 y.MR) (.int .i64 y.W) (.slice Ab b.length cb) (.slice A8 (y.inb ++ o).length c8) (.slice A3 y.gaps.length c3) (SL.pk [4] (SL.set (cs' := cellsD R Hn y.MR y.W (.slice Ab b.length cb) (.slice A8 (y.inb ++ o).length c8) (.slice A3 y.gaps.length c3)) (SL.pk [1] HS.out) 5 (.slice A8 (y.inb ++ o).length c8) rfl)))
      clear q0 z0 q1 z1 q2 z2 q3 z3 q4 z4 q5 z5 q6 z6 x0 y0 x1 y1 x2 y2 x3 y3 x4 y4 x5 y5 x6 y6 HS
      rw [List.length_append] at hs2
      obtain ⟨⟨x0, y0⟩, ⟨x1, y1⟩, ⟨x2, y2⟩, ⟨x3, y3⟩, ⟨x4, y4⟩, ⟨x5, y5⟩, ⟨x6, y6⟩⟩ := cells7 hs2.out m0
      refine bodyPost_ret (v := .tuple #[RefV { y with R := R, H := Hn, buf := b, inb := y.inb ++ o, gaps := y.gaps } Ab A8 A3 cb c8 c3, .slice Ao o.length co]) (by simp [results, Try.results28, go_sem, RefV, x0, x1, x2, x3, x4, x5, x6]) rfl ⟨_, _, hd, rfl, ?_⟩
      rw [HP.out]
      refine refMake (z := { y with R := R, H := Hn, buf := b, inb := y.inb ++ o, gaps := y.gaps }) (A1 := Ab) (A2 := A8) (P := RefP (RefV y A1 A2 A3 c1 c2 c3) y hd) (fun W h => ⟨(refCW h).1.2.2, (refCW h).2.2.2⟩) ?_
      show SL w0 _ (Row kIt 98 (.slice Ab b.length cb) b :: Row Kd.string 9 (.slice A8 (y.inb ++ o).length c8) (y.inb ++ o) :: Imm (RefP (RefV y A1 A2 A3 c1 c2 c3) y hd) :: Row Kd.string 9 (.slice Ao o.length co) o :: l)
      exact SL.pk [1, 0, 1] (SL.tail (SL.tail hs2.out))
    | true =>
      have hk := HK.out.resolve_right (fun e => by cases e.1)
      have HK2 := Aside0.mk hk.2
      clear hk HK
      have hs2 : Aside0 (SL w0 _ (Blk b3 (cellsD R Hn y.MR y.W (.slice Ab b.length cb) (.slice A2 y.inb.length c2) (.slice A3 y.gaps.length c3)) 52 :: Row kIt 98 (.slice Ab b.length cb) b :: Row Kd.string 9 (.slice Ao (o ++ (none : Option ByteArray).toList).length co) (o ++ (none : Option ByteArray).toList) :: Row kIt 98 (.slice (some ⟨wr.heap.size, 0, none⟩) ([] : List It).length 0) [] :: Blk b6 zeroD 52 :: RefA (RefV y A1 A2 A3 c1 c2 c3) y hd :: l)) := ⟨by
        have h := SL.pk [1, 1, 1] (SL.lit (d := kIt) (e := 98) (xs := []) (cs := []) HS.out (fun _ _ _ => Reps.none _ _) (by decide))
        rw [show o ++ (none : Option ByteArray).toList = o from List.append_nil o]
        exact h⟩
      clear HS
      have HS := hs2
      clear hs2
      go_wp2_with fail
      clear q0 z0 q1 z1 q2 z2 q3 z3 q4 z4 q5 z5 q6 z6 hal0 hal4 hal5
      obtain ⟨fs, hfs⟩ : ∃ fs, scanR R b none [] = fs := ⟨_, rfl⟩
      have HFS := Aside0.mk hfs
      clear hfs
      go_loopg [9, 10, 11, 74] b.length (fun kq v9 v10 v11 v74 wr => ∃ (i : Nat) (mo : Option ByteArray) (r : List It) (Ao : Option Addr) (co : Nat) (Ar : Option Addr) (cr : Nat), i + kq = b.length ∧ v9 = .slice Ao (o ++ mo.toList).length co ∧ v10 = .bool mo.isSome ∧ v11 = .slice Ar r.length cr ∧ v74 = .int .i64 i ∧ Aside0 (scanR R (b.drop i) mo r = fs) ∧ Aside0 (r.length ≤ i) ∧ Aside0 (SL w0 wr (Blk b3 (cellsD R Hn y.MR y.W (.slice Ab b.length cb) (.slice A2 y.inb.length c2) (.slice A3 y.gaps.length c3)) 52 :: Row kIt 98 (.slice Ab b.length cb) b :: Row Kd.string 9 (.slice Ao (o ++ mo.toList).length co) (o ++ mo.toList) :: Row kIt 98 (.slice Ar r.length cr) r :: Blk b6 zeroD 52 :: RefA (RefV y A1 A2 A3 c1 c2 c3) y hd :: l)))
      case atStart => exact ⟨0, none, [], Ao, co, some ⟨_, 0, none⟩, 0, by omega, by simp, rfl, rfl, rfl, HFS, ⟨Nat.le_refl _⟩, HS⟩
      case round =>
        clear HS
        obtain ⟨i, mo, r, Ao, co, Ar, cr, hi, rfl, rfl, rfl, rfl, HSC, HRL, HS⟩ := hrel
        obtain ⟨⟨q0, z0⟩, ⟨q1, z1⟩, ⟨q2, z2⟩, ⟨q3, z3⟩, ⟨q4, z4⟩, ⟨q5, z5⟩, ⟨q6, z6⟩⟩ := cells7 HS.out m0
        have hal0 : ∀ o : Obj, (wr.alloc o).cell? ⟨b3, 0, none⟩ = some (.int .i64 R) := fun o => pw_cell_below (below_alloc (Below.refl _ _) o) q0; have hal4 : ∀ o : Obj, (wr.alloc o).cell? ⟨b3, 4, none⟩ = some (.slice Ab b.length cb) := fun o => pw_cell_below (below_alloc (Below.refl _ _) o) q4; have hal5 : ∀ o : Obj, (wr.alloc o).cell? ⟨b3, 5, none⟩ = some (.slice A2 y.inb.length c2) := fun o => pw_cell_below (below_alloc (Below.refl _ _) o) q5
        have hwR : wrap64 (R + 1) = R + 1 := by have := HR.out; have := HB.out; have := HY.out.R; unfold wrap64; omega
        by_cases hib : i < b.length
        case neg =>
          have p4 : decide ((i : Int) < (b.length : Int)) = false := decide_eq_false (by omega)
          have hsc := HSC.out
          rw [List.drop_eq_nil_of_le (by omega), scanR] at hsc
          have HSC := Aside0.mk hsc
          clear hsc hi
          cases mo with
          | some m2 =>
            simp only [Option.isSome_some]
            go_wp2_with fail
            have hlen : r.length + 1 = b.length := by
              rcases scanR_len R b [] with ⟨e1, _⟩ | ⟨m3, _, e2⟩
              · rw [HFS.out, ← HSC.out] at e1
                cases e1
              · rw [HFS.out, ← HSC.out] at e2
                simpa using e2
            have hk3 := HK2.out
            have hk4 := HKK.out
            obtain ⟨k5, hk5⟩ : ∃ k5, kk = k5 + 1 := ⟨kk - 1, by omega⟩
            rw [hk5, runR, HFS.out, ← HSC.out] at hk3
            go_roundg k5
            case measure => omega
            case rel =>
              refine ⟨k5, R + 1, r, o ++ (some m2).toList, true, Ar, cr, Ao, co, rfl, rfl, rfl, ⟨?_⟩, ⟨?_⟩, ⟨Or.inl ⟨rfl, ?_, hk3.2⟩⟩, ⟨?_⟩⟩
              · have := HB.out; simp only [Option.toList_some, List.length_append, List.length_singleton]; omega
              · have := HR.out; simp only [Option.toList_some, List.length_append, List.length_singleton]; omega
              · have := hk3.1; omega
              · exact SL.pk [0, 1] (SL.tail (SL.pk [1] (SL.set (cs' := cellsD (R + 1) Hn y.MR y.W (.slice Ar r.length cr) (.slice A2 y.inb.length c2) (.slice A3 y.gaps.length c3)) (SL.set (cs' := cellsD R Hn y.MR y.W (.slice Ar r.length cr) (.slice A2 y.inb.length c2) (.slice A3 y.gaps.length c3)) HS.out 4 (.slice Ar r.length cr) rfl) 0 (.int .i64 (R + 1)) rfl)))
          | none =>
            simp only [Option.isSome_none]
            go_wp2_with fail
            have hlen : r.length = b.length := by
              rcases scanR_len R b [] with ⟨_, e2⟩ | ⟨m3, e1, _⟩
              · rw [HFS.out, ← HSC.out] at e2
                rw [show r = [] ++ b from e2]
                rfl
              · rw [HFS.out, ← HSC.out] at e1
                cases e1
            have hk3 := HK2.out
            have hk4 := HKK.out
            obtain ⟨k5, hk5⟩ : ∃ k5, kk = k5 + 1 := ⟨kk - 1, by omega⟩
            rw [hk5, runR, HFS.out, ← HSC.out] at hk3
            go_roundg k5
            case measure => omega
            case rel =>
              refine ⟨k5, R, r, o ++ (none : Option ByteArray).toList, false, Ar, cr, Ao, co, rfl, rfl, rfl, ⟨?_⟩, ⟨?_⟩, ⟨Or.inr ⟨rfl, by rw [show o ++ (none : Option ByteArray).toList = o from List.append_nil o]; exact hk3.2⟩⟩, ⟨?_⟩⟩
              · have := HB.out; simp only [Option.toList_none, List.length_append, List.length_nil]; omega
              · have := HR.out; simp only [Option.toList_none, List.length_append, List.length_nil]; omega
              · exact SL.pk [0, 1] (SL.tail (SL.pk [1] (SL.set (cs' := cellsD R Hn y.MR y.W (.slice Ar r.length cr) (.slice A2 y.inb.length c2) (.slice A3 y.gaps.length c3)) HS.out 4 (.slice Ar r.length cr) rfl)))
        case pos =>
          have p4 : decide ((i : Int) < (b.length : Int)) = true := decide_eq_true (by omega)
          obtain ⟨ad, eA, g0, g1⟩ := at_T98 (SL.reads HS.out m1) (i : Int) (by omega) (by omega)
          subst eA
          obtain ⟨p, hp⟩ : ∃ p, rd_T98 b (i : Int) = p := ⟨_, rfl⟩
          rw [hp] at g0 g1
          rw [Int.toNat_natCast] at g0 g1
          have hp2 : b.drop i = p :: b.drop (i + 1) := by
            rw [List.drop_eq_getElem_cons hib, ← hp]
            unfold rd_T98
            rw [Int.toNat_natCast, List.getD_eq_getElem?_getD, List.getElem?_eq_getElem hib]
            rfl
          have hsc := HSC.out
          rw [hp2, scanR] at hsc
          have HW8 : Aside0 (wrap64 ((i : Int) + 1) = ((i + 1 : Nat) : Int)) := ⟨by have := HB.out; unfold wrap64; omega⟩
          have HI := Aside0.mk hi
          have HIL := Aside0.mk hib
          clear HSC hp hp2 hi
          have HSr : Aside0 (SL w0 wr (Row kIt 98 (.slice Ar r.length cr) r :: Blk b3 (cellsD R Hn y.MR y.W (.slice (some ad) b.length cb) (.slice A2 y.inb.length c2) (.slice A3 y.gaps.length c3)) 52 :: Row kIt 98 (.slice (some ad) b.length cb) b :: Row Kd.string 9 (.slice Ao (o ++ mo.toList).length co) (o ++ mo.toList) :: Blk b6 zeroD 52 :: RefA (RefV y A1 A2 A3 c1 c2 c3) y hd :: l)) := ⟨SL.pk [3] HS.out⟩
          have HSo : Aside0 (SL w0 wr (Row Kd.string 9 (.slice Ao (o ++ mo.toList).length co) (o ++ mo.toList) :: Blk b3 (cellsD R Hn y.MR y.W (.slice (some ad) b.length cb) (.slice A2 y.inb.length c2) (.slice A3 y.gaps.length c3)) 52 :: Row kIt 98 (.slice (some ad) b.length cb) b :: Row kIt 98 (.slice Ar r.length cr) r :: Blk b6 zeroD 52 :: RefA (RefV y A1 A2 A3 c1 c2 c3) y hd :: l)) := ⟨SL.pk [2] HS.out⟩
          cases mo with
          | some m2 =>
            simp only [Option.isSome_some]
            rw [if_neg (by simp)] at hsc
            have HSC := Aside0.mk hsc
            clear hsc
            go_wp2_with (first
              | ((with_reducible refine gate_builtin (b := .append) (xs := #[.tmp 92, .tmp 94]) rfl ?_); at_builtin; go_loud (refine wpList_append1 kIt rfl (.tmp 92) (.tmp 94) 49 98 (.agg #[.int .i64 0, .string ⟨#[]⟩]) 24 rfl Try.underlying49 infoIt rfl (by decide) (by omega) (.slice Ar r.length cr) r p [.int .i64 p.f0, .string p.f1] rfl (by first | rfl | (rw [alc_size]; rfl)) (k98_mkM _ _ _ p) (by repeat (first | (with_reducible exact HSr.out) | (with_reducible apply SL.alloc))) (by have := HRL.out; have := HB.out; have := HIL.out; omega) ?_; intro v2 w9 hs; clear HS HSr q0 z0 q1 z1 q2 z2 q3 z3 q4 z4 q5 z5 q6 z6 hal0 hal4 hal5; have HS := Aside0.mk hs; clear hs; obtain ⟨A9, c9, e9, _⟩ := SL.form HS.out (.head _); subst e9)))
            go_roundg (b.length - (i + 1))
            case measure => have := HI.out; omega
            case rel =>
              refine ⟨i + 1, some m2, r ++ [p], Ao, co, A9, c9, by have := HIL.out; omega, by simp, rfl, by rw [List.length_append]; rfl, by rw [HW8.out], HSC, ⟨by have := HRL.out; rw [List.length_append, List.length_singleton]; omega⟩, ⟨SL.pk [1, 1, 1] HS.out⟩⟩
          | none =>
            simp only [Option.isSome_none]
            by_cases hpR : p.f0 = R
            · rw [if_pos ⟨rfl, hpR⟩] at hsc
              have HSC := Aside0.mk hsc
              have p6 : (p.f0 == R) = true := beq_iff_eq.2 hpR
              clear hsc hpR
              go_wp2_with (first
                | ((with_reducible refine gate_builtin (b := .append) (xs := #[.tmp 87, .tmp 90]) rfl ?_); at_builtin; go_loud (refine wpList_append1 Kd.string rfl (.tmp 87) (.tmp 90) 30 9 (.string ⟨#[]⟩) 16 rfl Try.underlying30 infoS rfl (by decide) (by omega) (.slice Ao (o ++ (none : Option ByteArray).toList).length co) (o ++ (none : Option ByteArray).toList) p.f1 [.string p.f1] rfl (by first | rfl | (rw [alc_size]; rfl)) (rfl) (by repeat (first | (with_reducible exact HSo.out) | (with_reducible apply SL.alloc))) (by have := HB.out; simp only [List.length_append, Option.toList_none, List.length_nil]; omega) ?_; intro v2 w9 hs; clear HS HSo q0 z0 q1 z1 q2 z2 q3 z3 q4 z4 q5 z5 q6 z6 hal0 hal4 hal5; have HS := Aside0.mk hs; clear hs; obtain ⟨A9, c9, e9, _⟩ := SL.form HS.out (.head _); subst e9)))
              have eo : o ++ (none : Option ByteArray).toList ++ [p.f1] = o ++ (some p.f1).toList := by simp
              have hs2 := HS.out
              rw [eo] at hs2
              go_roundg (b.length - (i + 1))
              case measure => have := HI.out; omega
              case rel =>
                refine ⟨i + 1, some p.f1, r, A9, c9, Ar, cr, by have := HIL.out; omega, by simp, rfl, rfl, by rw [HW8.out], HSC, ⟨by have := HRL.out; omega⟩, ⟨SL.pk [1, 1, 0] hs2⟩⟩
            · rw [if_neg (fun e => hpR e.2)] at hsc
              have HSC := Aside0.mk hsc
              have p6 : (p.f0 == R) = false := beq_eq_false_iff_ne.2 hpR
              clear hsc hpR
              go_wp2_with (first
                | ((with_reducible refine gate_builtin (b := .append) (xs := #[.tmp 92, .tmp 94]) rfl ?_); at_builtin; go_loud (refine wpList_append1 kIt rfl (.tmp 92) (.tmp 94) 49 98 (.agg #[.int .i64 0, .string ⟨#[]⟩]) 24 rfl Try.underlying49 infoIt rfl (by decide) (by omega) (.slice Ar r.length cr) r p [.int .i64 p.f0, .string p.f1] rfl (by first | rfl | (rw [alc_size]; rfl)) (k98_mkM _ _ _ p) (by repeat (first | (with_reducible exact HSr.out) | (with_reducible apply SL.alloc))) (by have := HRL.out; have := HB.out; have := HIL.out; omega) ?_; intro v2 w9 hs; clear HS HSr q0 z0 q1 z1 q2 z2 q3 z3 q4 z4 q5 z5 q6 z6 hal0 hal4 hal5; have HS := Aside0.mk hs; clear hs; obtain ⟨A9, c9, e9, _⟩ := SL.form HS.out (.head _); subst e9)))
              go_roundg (b.length - (i + 1))
              case measure => have := HI.out; omega
              case rel =>
                refine ⟨i + 1, none, r ++ [p], Ao, co, A9, c9, by have := HIL.out; omega, by simp, rfl, by rw [List.length_append]; rfl, by rw [HW8.out], HSC, ⟨by have := HRL.out; rw [List.length_append, List.length_singleton]; omega⟩, ⟨SL.pk [1, 1, 1] HS.out⟩⟩
set_option maxHeartbeats 8000000 in
set_option maxRecDepth 100000 in
theorem dataR_full {w0 W : World} {l : List As} {v : Value} {y : RR} {hd : List Hd} (hy : y.Ok) (x n : Int) (hx : 0 ≤ x ∧ x < 16777216) (m : ByteArray) (hn : y.R + toN y.R x = n) (h1 : ¬ n ≥ y.MR) (h2 : hasR y.buf n = false) (hl : y.buf.length ≤ 900000) (hi : y.inb.length ≤ 90000) (hg : n > y.H ∧ ¬ y.gaps.length < 8) (HS : SL w0 W (RefA v y hd :: l)) :
    Calls Try.prog 28 #[v, .int .i64 x, .string m] W fun e w' => ∃ v' vs hd', e = .returned (.tuple #[v', vs]) ∧ SL w0 w' (RefA v' (pullR { y with buf := y.buf ++ [⟨n, m⟩], gaps := y.gaps, H := max y.H (n + 1) }).1 hd' :: Row Kd.string 9 vs (pullR { y with buf := y.buf ++ [⟨n, m⟩], gaps := y.gaps, H := max y.H (n + 1) }).2 :: l) := by
  obtain ⟨A1, A2, A3, c1, c2, c3, rfl, hh⟩ := HS.know (.head _)
  have HS := Aside0.mk HS
  have hu := Try.underlying52
  have hu2 := Try.underlying98
  have hT : Aside0 (∀ w, Calls Try.prog 46 #[.int .i64 y.R, .int .i64 x] w fun e w' => e = .returned (.int .i64 (toN y.R x)) ∧ w' = w) := ⟨fun w => to1_s _ _ (by have := hy.R; omega) (by omega) w⟩
  have e1 : wrap64 n = n := by have := hy.R; unfold wrap64; unfold toN at hn; omega
  have HY := Aside0.mk hy
  have HLI := Aside0.mk (And.intro hl hi)
  have HNR := Aside0.mk (show y.R ≤ n ∧ n < y.MR by unfold toN at hn; omega)
  have HF := Aside0.mk (And.intro h1 (And.intro h2 hg))
  clear hh h1 h2 hg
  unfold RefV
  go_enter Try.func28, Try.ntmps28
  go_wp2_with fail
  go_quiet ((first | (go_at_call 46; with_reducible exact Calls.quiet_of_same (hT.out _))))
  rw [e1]
  obtain ⟨h1, h2, hg⟩ := HF.out
  have hm : (if y.H < n + 1 then n + 1 else y.H) = max y.H (n + 1) := by omega
  have hw1 : wrap64 (n + 1) = n + 1 := by have := HNR.out; have := HY.out.MR; have := HY.out.R; unfold wrap64; omega
  have p1 : decide (n ≥ y.MR) = false := decide_eq_false (by omega)
  have p2 : decide (n > y.H) = true := decide_eq_true hg.1
  have p3 : decide ((y.gaps.length : Int) < 8) = false := decide_eq_false (by omega)
  clear hg
  clear hT hn e1 hy h1 hl hi
  have hs2 := Aside0.mk (SL.drewN (SL.new (SL.new HS.out (cellsD y.R y.H y.MR y.W (.slice A1 y.buf.length c1) (.slice A2 y.inb.length c2) (.slice A3 y.gaps.length c3)) 52) zeroD 52) nq)
  rw [show ∀ o, (W.alloc o).heap.size = W.heap.size + 1 from fun o => by simp] at hs2
  clear HS
  have HS := hs2
  clear hs2
  generalize World.drewN _ nq = w1 at *
  have hne : ¬ W.heap.size + 1 = W.heap.size := by omega
  have hne2 : ¬ W.heap.size = W.heap.size + 1 := by omega
  generalize W.heap.size + 1 = b6 at *
  generalize W.heap.size = b3 at *
  obtain ⟨⟨q0, z0⟩, ⟨q1, z1⟩, ⟨q2, z2⟩, ⟨q3, z3⟩, ⟨q4, z4⟩, ⟨q5, z5⟩, ⟨q6, z6⟩⟩ := cells7 HS.out m1
  go_wp2_with (first
    | (go_at_call 47; (with_reducible refine (has_c HY.out.buf n HS.out m2).mono ?_); rintro e w2 ⟨rfl, hs⟩; clear HS q0 z0 q1 z1 q2 z2 q3 z3 q4 z4 q5 z5 q6 z6; have HS := Aside0.mk hs; clear hs; obtain ⟨⟨q0, z0⟩, ⟨q1, z1⟩, ⟨q2, z2⟩, ⟨q3, z3⟩, ⟨q4, z4⟩, ⟨q5, z5⟩, ⟨q6, z6⟩⟩ := cells7 HS.out m1; rw [h2]; have hal4 : ∀ o : Obj, (w2.alloc o).cell? ⟨b3, 4, none⟩ = some (.slice A1 y.buf.length c1) := fun o => pw_cell_below (below_alloc (Below.refl _ _) o) q4; have hs2 := Aside0.mk (SL.lit (d := kIt) (e := 98) (xs := []) (cs := []) HS.out (fun _ _ _ => Reps.none _ _) (by decide)); clear HS; have HS := hs2; clear hs2)
    | ((with_reducible refine gate_builtin (b := .append) (xs := #[.tmp 31, .tmp 33]) rfl ?_); at_builtin; refine wpList_appendN kIt flat_It rfl (.tmp 31) (.tmp 33) 49 98 (.agg #[.int .i64 0, .string ⟨#[]⟩]) 24 rfl Try.underlying49 infoIt rfl (by decide) (by omega) (.slice (some ⟨w2.heap.size, 0, none⟩) 0 0) [] y.buf A1 y.buf.length c1 rfl rfl (HS.out) ((refC HS.out m3).1) (by have := HLI.out; simp only [List.length_nil]; omega) ?_; intro v2 w9 hs; clear HS q0 z0 q1 z1 q2 z2 q3 z3 q4 z4 q5 z5 q6 z6 hal4; have HS := Aside0.mk hs; clear hs; obtain ⟨A5, c5, e5, _⟩ := SL.form HS.out (.head _); subst e5; obtain ⟨⟨q0, z0⟩, ⟨q1, z1⟩, ⟨q2, z2⟩, ⟨q3, z3⟩, ⟨q4, z4⟩, ⟨q5, z5⟩, ⟨q6, z6⟩⟩ := cells7 HS.out m2)
    | ((with_reducible refine gate_builtin (b := .append) (xs := #[.tmp 34, .tmp 38]) rfl ?_); at_builtin; go_loud (refine wpList_append1 kIt rfl (.tmp 34) (.tmp 38) 49 98 (.agg #[.int .i64 0, .string ⟨#[]⟩]) 24 rfl Try.underlying49 infoIt rfl (by decide) (by omega) (.slice A5 ([] ++ y.buf).length c5) ([] ++ y.buf) ⟨n, m⟩ [.int .i64 n, .string m] rfl (by first | rfl | (rw [alc_size]; rfl)) (k98_mkM _ _ _ ⟨n, m⟩) HS.out (by have := HLI.out; simp only [List.length_append, List.length_nil]; omega) ?_; intro v2 w9 hs; clear HS q0 z0 q1 z1 q2 z2 q3 z3 q4 z4 q5 z5 q6 z6; have HS := Aside0.mk hs; clear hs; obtain ⟨A6, c6, e6, _⟩ := SL.form HS.out (.head _); subst e6; obtain ⟨⟨q0, z0⟩, ⟨q1, z1⟩, ⟨q2, z2⟩, ⟨q3, z3⟩, ⟨q4, z4⟩, ⟨q5, z5⟩, ⟨q6, z6⟩⟩ := cells7 HS.out m2)))
  obtain ⟨bf, hbf⟩ : ∃ bf : List It, y.buf ++ [⟨n, m⟩] = bf := ⟨_, rfl⟩
  have hbl : bf.length = y.buf.length + 1 := by rw [← hbf, List.length_append]; rfl
  obtain ⟨Hn, hHn⟩ : ∃ Hn, max y.H (n + 1) = Hn := ⟨_, rfl⟩
  have hs2 := Aside0.mk (SL.lit (d := Kd.string) (e := 9) (xs := []) (cs := []) (SL.set (cs' := cellsD y.R (max y.H (n + 1)) y.MR y.W (.slice A6 (y.buf.length + 1) c6) (.slice A2 y.inb.length c2) (.slice A3 y.gaps.length c3)) (SL.set (cs' := cellsD y.R y.H y.MR y.W (.slice A6 (y.buf.length + 1) c6) (.slice A2 y.inb.length c2) (.slice A3 y.gaps.length c3)) (SL.pk [2] HS.out) 4 (.slice A6 (y.buf.length + 1) c6) rfl) 1 (.int .i64 (max y.H (n + 1))) rfl) (fun _ _ _ => Reps.none _ _) (by decide))
  clear HS q0 z0 q1 z1 q2 z2 q3 z3 q4 z4 q5 z5 q6 z6
  have HS : Aside0 (SL w0 _ (Blk b3 (cellsD y.R Hn y.MR y.W (.slice A6 bf.length c6) (.slice A2 y.inb.length c2) (.slice A3 y.gaps.length c3)) 52 :: Row kIt 98 (.slice A6 bf.length c6) bf :: Row Kd.string 9 (.slice (some ⟨w9.heap.size, 0, none⟩) ([] : List ByteArray).length 0) [] :: Blk b6 zeroD 52 :: RefA (RefV y A1 A2 A3 c1 c2 c3) y hd :: l)) := ⟨by
    have el : (y.buf ++ [(⟨n, m⟩ : It)]).length = y.buf.length + 1 := by simp
    rw [← hHn, ← hbf, el]
    have h := SL.pk [1, 1] hs2.out
    rw [setc_size, setc_size, List.nil_append, el] at h
    exact h⟩
  clear hs2
  obtain ⟨fin, hfin⟩ : ∃ fin, runR (bf.length + 1) y.R bf [] = fin := ⟨_, rfl⟩
  have HFIN := Aside0.mk hfin
  have HBF := Aside0.mk (And.intro hbf (And.intro hHn hbl))
  clear hfin hbf hHn hbl hw1 hm p1 p2 p3
  go_loopg [9, 10] (bf.length + 1) (fun kq v9 v10 wr => ∃ (kk : Nat) (R : Int) (b : List It) (o : List ByteArray) (ag : Bool) (Ab : Option Addr) (cb : Nat) (Ao : Option Addr) (co : Nat), kk = kq ∧ v9 = .slice Ao o.length co ∧ v10 = .bool ag ∧ Aside0 (o.length + b.length ≤ 900001) ∧ Aside0 (y.R ≤ R ∧ R ≤ y.R + o.length) ∧ Aside0 ((ag = true ∧ b.length < kk ∧ runR kk R b o = fin) ∨ (ag = false ∧ (R, b, o) = fin)) ∧ Aside0 (SL w0 wr (Blk b3 (cellsD R Hn y.MR y.W (.slice Ab b.length cb) (.slice A2 y.inb.length c2) (.slice A3 y.gaps.length c3)) 52 :: Row kIt 98 (.slice Ab b.length cb) b :: Row Kd.string 9 (.slice Ao o.length co) o :: Blk b6 zeroD 52 :: RefA (RefV y A1 A2 A3 c1 c2 c3) y hd :: l)))
  case atStart => exact ⟨_, y.R, bf, [], true, A6, c6, some ⟨_, 0, none⟩, 0, rfl, rfl, rfl, ⟨by have := HLI.out; have := HBF.out.2.2; simp only [List.length_nil]; omega⟩, ⟨by simp⟩, ⟨Or.inl ⟨rfl, Nat.lt_succ_self _, HFIN.out⟩⟩, HS⟩
  case round =>
    clear HS
    obtain ⟨kk, R, b, o, ag, Ab, cb, Ao, co, hkk, rfl, rfl, HB, HR, HK, HS⟩ := hrel
    have HKK := Aside0.mk hkk
    clear hkk
    obtain ⟨⟨q0, z0⟩, ⟨q1, z1⟩, ⟨q2, z2⟩, ⟨q3, z3⟩, ⟨q4, z4⟩, ⟨q5, z5⟩, ⟨q6, z6⟩⟩ := cells7 HS.out m0
    have hal0 : ∀ o : Obj, (wr.alloc o).cell? ⟨b3, 0, none⟩ = some (.int .i64 R) := fun o => pw_cell_below (below_alloc (Below.refl _ _) o) q0; have hal4 : ∀ o : Obj, (wr.alloc o).cell? ⟨b3, 4, none⟩ = some (.slice Ab b.length cb) := fun o => pw_cell_below (below_alloc (Below.refl _ _) o) q4; have hal5 : ∀ o : Obj, (wr.alloc o).cell? ⟨b3, 5, none⟩ = some (.slice A2 y.inb.length c2) := fun o => pw_cell_below (below_alloc (Below.refl _ _) o) q5
    cases ag with
    | false =>
      have hk := HK.out.resolve_left (fun e => by cases e.1)
      have HK2 := Aside0.mk hk.2
      clear hk HK
      have hs2 := Aside0.mk (SL.lit (d := Kd.string) (e := 9) (xs := []) (cs := []) HS.out (fun _ _ _ => Reps.none _ _) (by decide))
      clear HS
      have HS := hs2
      clear hs2
      go_wp2_with (first
        | ((with_reducible refine gate_builtin (b := .append) (xs := #[.tmp 104, .tmp 106]) rfl ?_); at_builtin; refine wpList_appendN Kd.string flat_string rfl (.tmp 104) (.tmp 106) 30 9 (.string ⟨#[]⟩) 16 rfl Try.underlying30 infoS rfl (by decide) (by omega) (.slice (some ⟨wr.heap.size, 0, none⟩) 0 0) [] y.inb A2 y.inb.length c2 rfl rfl (HS.out) ((refC HS.out m5).2.1) (by have := HLI.out; simp only [List.length_nil]; omega) ?_; intro v2 w9 hs; clear HS q0 z0 q1 z1 q2 z2 q3 z3 q4 z4 q5 z5 q6 z6 hal0 hal4 hal5; have HS := Aside0.mk hs; clear hs; obtain ⟨A7, c7, e7, _⟩ := SL.form HS.out (.head _); subst e7; obtain ⟨⟨q0, z0⟩, ⟨q1, z1⟩, ⟨q2, z2⟩, ⟨q3, z3⟩, ⟨q4, z4⟩, ⟨q5, z5⟩, ⟨q6, z6⟩⟩ := cells7 HS.out m1)
        | ((with_reducible refine gate_builtin (b := .append) (xs := #[.tmp 107, .tmp 108]) rfl ?_); at_builtin; refine wpList_appendN Kd.string flat_string rfl (.tmp 107) (.tmp 108) 30 9 (.string ⟨#[]⟩) 16 rfl Try.underlying30 infoS rfl (by decide) (by omega) (.slice A7 ([] ++ y.inb).length c7) ([] ++ y.inb) o Ao o.length co rfl rfl (HS.out) (SL.reads HS.out m3) (by have := HLI.out; have := HB.out; simp only [List.length_append, List.length_nil]; omega) ?_; intro v2 w9 hs; clear HS q0 z0 q1 z1 q2 z2 q3 z3 q4 z4 q5 z5 q6 z6; have HS := Aside0.mk hs; clear hs; obtain ⟨A8, c8, e8, _⟩ := SL.form HS.out (.head _); subst e8; obtain ⟨⟨q0, z0⟩, ⟨q1, z1⟩, ⟨q2, z2⟩, ⟨q3, z3⟩, ⟨q4, z4⟩, ⟨q5, z5⟩, ⟨q6, z6⟩⟩ := cells7 HS.out m1; obtain ⟨⟨x0, y0⟩, ⟨x1, y1⟩, ⟨x2, y2⟩, ⟨x3, y3⟩, ⟨x4, y4⟩, ⟨x5, y5⟩, ⟨x6, y6⟩⟩ := cells7 HS.out m4))
      have HP : Aside0 (pullR { y with buf := y.buf ++ [⟨n, m⟩], gaps := y.gaps, H := max y.H (n + 1) } = ({ y with R := R, H := Hn, buf := b, inb := y.inb ++ o, gaps := y.gaps }, o)) := ⟨by
        have e := HK2.out.trans HFIN.out.symm
        unfold pullR
        simp only
        rw [HBF.out.1, HBF.out.2.1, ← e]⟩
      have hs2 := Aside0.mk (set7 (.int .i64 R) (.int .i64 Hn) (.int .i64 y.MR) (.int .i64 y.W) (.slice Ab b.length cb) (.slice A8 (y.inb ++ o).length c8) (.slice A3 y.gaps.length c3) (SL.pk [4] (SL.set (cs' := cellsD R Hn y.MR y.W (.slice Ab b.length cb) (.slice A8 (y.inb ++ o).length c8) (.slice A3 y.gaps.length c3)) (SL.pk [1] HS.out) 5 (.slice A8 (y.inb ++ o).length c8) rfl)))
      clear q0 z0 q1 z1 q2 z2 q3 z3 q4 z4 q5 z5 q6 z6 x0 y0 x1 y1 x2 y2 x3 y3 x4 y4 x5 y5 x6 y6 HS
      rw [List.length_append] at hs2
      obtain ⟨⟨x0, y0⟩, ⟨x1, y1⟩, ⟨x2, y2⟩, ⟨x3, y3⟩, ⟨x4, y4⟩, ⟨x5, y5⟩, ⟨x6, y6⟩⟩ := cells7 hs2.out m0
      refine bodyPost_ret (v := .tuple #[RefV { y with R := R, H := Hn, buf := b, inb := y.inb ++ o, gaps := y.gaps } Ab A8 A3 cb c8 c3, .slice Ao o.length co]) (by simp [results, Try.results28, go_sem, RefV, x0, x1, x2, x3, x4, x5, x6]) rfl ⟨_, _, hd, rfl, ?_⟩
      rw [HP.out]
      refine refMake (z := { y with R := R, H := Hn, buf := b, inb := y.inb ++ o, gaps := y.gaps }) (A1 := Ab) (A2 := A8) (P := RefP (RefV y A1 A2 A3 c1 c2 c3) y hd) (fun W h => ⟨(refCW h).1.2.2, (refCW h).2.2.2⟩) ?_
      show SL w0 _ (Row kIt 98 (.slice Ab b.length cb) b :: Row Kd.string 9 (.slice A8 (y.inb ++ o).length c8) (y.inb ++ o) :: Imm (RefP (RefV y A1 A2 A3 c1 c2 c3) y hd) :: Row Kd.string 9 (.slice Ao o.length co) o :: l)
      exact SL.pk [1, 0, 1] (SL.tail (SL.tail hs2.out))
    | true =>
      have hk := HK.out.resolve_right (fun e => by cases e.1)
      have HK2 := Aside0.mk hk.2
      clear hk HK
      have hs2 : Aside0 (SL w0 _ (Blk b3 (cellsD R Hn y.MR y.W (.slice Ab b.length cb) (.slice A2 y.inb.length c2) (.slice A3 y.gaps.length c3)) 52 :: Row kIt 98 (.slice Ab b.length cb) b :: Row Kd.string 9 (.slice Ao (o ++ (none : Option ByteArray).toList).length co) (o ++ (none : Option ByteArray).toList) :: Row kIt 98 (.slice (some ⟨wr.heap.size, 0, none⟩) ([] : List It).length 0) [] :: Blk b6 zeroD 52 :: RefA (RefV y A1 A2 A3 c1 c2 c3) y hd :: l)) := ⟨by
        have h := SL.pk [1, 1, 1] (SL.lit (d := kIt) (e := 98) (xs := []) (cs := []) HS.out (fun _ _ _ => Reps.none _ _) (by decide))
        rw [show o ++ (none : Option ByteArray).toList = o from List.append_nil o]
        exact h⟩
      clear HS
      have HS := hs2
      clear hs2
      go_wp2_with fail
      clear q0 z0 q1 z1 q2 z2 q3 z3 q4 z4 q5 z5 q6 z6 hal0 hal4 hal5
      obtain ⟨fs, hfs⟩ : ∃ fs, scanR R b none [] = fs := ⟨_, rfl⟩
      have HFS := Aside0.mk hfs
      clear hfs
      go_loopg [9, 10, 11, 74] b.length (fun kq v9 v10 v11 v74 wr => ∃ (i : Nat) (mo : Option ByteArray) (r : List It) (Ao : Option Addr) (co : Nat) (Ar : Option Addr) (cr : Nat), i + kq = b.length ∧ v9 = .slice Ao (o ++ mo.toList).length co ∧ v10 = .bool mo.isSome ∧ v11 = .slice Ar r.length cr ∧ v74 = .int .i64 i ∧ Aside0 (scanR R (b.drop i) mo r = fs) ∧ Aside0 (r.length ≤ i) ∧ Aside0 (SL w0 wr (Blk b3 (cellsD R Hn y.MR y.W (.slice Ab b.length cb) (.slice A2 y.inb.length c2) (.slice A3 y.gaps.length c3)) 52 :: Row kIt 98 (.slice Ab b.length cb) b :: Row Kd.string 9 (.slice Ao (o ++ mo.toList).length co) (o ++ mo.toList) :: Row kIt 98 (.slice Ar r.length cr) r :: Blk b6 zeroD 52 :: RefA (RefV y A1 A2 A3 c1 c2 c3) y hd :: l)))
      case atStart => exact ⟨0, none, [], Ao, co, some ⟨_, 0, none⟩, 0, by omega, by simp, rfl, rfl, rfl, HFS, ⟨Nat.le_refl _⟩, HS⟩
      case round =>
        clear HS
        obtain ⟨i, mo, r, Ao, co, Ar, cr, hi, rfl, rfl, rfl, rfl, HSC, HRL, HS⟩ := hrel
        obtain ⟨⟨q0, z0⟩, ⟨q1, z1⟩, ⟨q2, z2⟩, ⟨q3, z3⟩, ⟨q4, z4⟩, ⟨q5, z5⟩, ⟨q6, z6⟩⟩ := cells7 HS.out m0
        have hal0 : ∀ o : Obj, (wr.alloc o).cell? ⟨b3, 0, none⟩ = some (.int .i64 R) := fun o => pw_cell_below (below_alloc (Below.refl _ _) o) q0; have hal4 : ∀ o : Obj, (wr.alloc o).cell? ⟨b3, 4, none⟩ = some (.slice Ab b.length cb) := fun o => pw_cell_below (below_alloc (Below.refl _ _) o) q4; have hal5 : ∀ o : Obj, (wr.alloc o).cell? ⟨b3, 5, none⟩ = some (.slice A2 y.inb.length c2) := fun o => pw_cell_below (below_alloc (Below.refl _ _) o) q5
        have hwR : wrap64 (R + 1) = R + 1 := by have := HR.out; have := HB.out; have := HY.out.R; unfold wrap64; omega
        by_cases hib : i < b.length
        case neg =>
          have p4 : decide ((i : Int) < (b.length : Int)) = false := decide_eq_false (by omega)
          have hsc := HSC.out
          rw [List.drop_eq_nil_of_le (by omega), scanR] at hsc
          have HSC := Aside0.mk hsc
          clear hsc hi
          cases mo with
          | some m2 =>
            simp only [Option.isSome_some]
            go_wp2_with fail
            have hlen : r.length + 1 = b.length := by
              rcases scanR_len R b [] with ⟨e1, _⟩ | ⟨m3, _, e2⟩
              · rw [HFS.out, ← HSC.out] at e1
                cases e1
              · rw [HFS.out, ← HSC.out] at e2
                simpa using e2
            have hk3 := HK2.out
            have hk4 := HKK.out
            obtain ⟨k5, hk5⟩ : ∃ k5, kk = k5 + 1 := ⟨kk - 1, by omega⟩
            rw [hk5, runR, HFS.out, ← HSC.out] at hk3
            go_roundg k5
            case measure => omega
            case rel =>
              refine ⟨k5, R + 1, r, o ++ (some m2).toList, true, Ar, cr, Ao, co, rfl, rfl, rfl, ⟨?_⟩, ⟨?_⟩, ⟨Or.inl ⟨rfl, ?_, hk3.2⟩⟩, ⟨?_⟩⟩
              · have := HB.out; simp only [Option.toList_some, List.length_append, List.length_singleton]; omega
              · have := HR.out; simp only [Option.toList_some, List.length_append, List.length_singleton]; omega
              · have := hk3.1; omega
              · exact SL.pk [0, 1] (SL.tail (SL.pk [1] (SL.set (cs' := cellsD (R + 1) Hn y.MR y.W (.slice Ar r.length cr) (.slice A2 y.inb.length c2) (.slice A3 y.gaps.length c3)) (SL.set (cs' := cellsD R Hn y.MR y.W (.slice Ar r.length cr) (.slice A2 y.inb.length c2) (.slice A3 y.gaps.length c3)) HS.out 4 (.slice Ar r.length cr) rfl) 0 (.int .i64 (R + 1)) rfl)))
          | none =>
            simp only [Option.isSome_none]
            go_wp2_with fail
            have hlen : r.length = b.length := by
              rcases scanR_len R b [] with ⟨_, e2⟩ | ⟨m3, e1, _⟩
              · rw [HFS.out, ← HSC.out] at e2
                rw [show r = [] ++ b from e2]
                rfl
              · rw [HFS.out, ← HSC.out] at e1
                cases e1
            have hk3 := HK2.out
            have hk4 := HKK.out
            obtain ⟨k5, hk5⟩ : ∃ k5, kk = k5 + 1 := ⟨kk - 1, by omega⟩
            rw [hk5, runR, HFS.out, ← HSC.out] at hk3
            go_roundg k5
            case measure => omega
            case rel =>
              refine ⟨k5, R, r, o ++ (none : Option ByteArray).toList, false, Ar, cr, Ao, co, rfl, rfl, rfl, ⟨?_⟩, ⟨?_⟩, ⟨Or.inr ⟨rfl, by rw [show o ++ (none : Option ByteArray).toList = o from List.append_nil o]; exact hk3.2⟩⟩, ⟨?_⟩⟩
              · have := HB.out; simp only [Option.toList_none, List.length_append, List.length_nil]; omega
              · have := HR.out; simp only [Option.toList_none, List.length_append, List.length_nil]; omega
              · exact SL.pk [0, 1] (SL.tail (SL.pk [1] (SL.set (cs' := cellsD R Hn y.MR y.W (.slice Ar r.length cr) (.slice A2 y.inb.length c2) (.slice A3 y.gaps.length c3)) HS.out 4 (.slice Ar r.length cr) rfl)))
        case pos =>
          have p4 : decide ((i : Int) < (b.length : Int)) = true := decide_eq_true (by omega)
          obtain ⟨ad, eA, g0, g1⟩ := at_T98 (SL.reads HS.out m1) (i : Int) (by omega) (by omega)
          subst eA
          obtain ⟨p, hp⟩ : ∃ p, rd_T98 b (i : Int) = p := ⟨_, rfl⟩
          rw [hp] at g0 g1
          rw [Int.toNat_natCast] at g0 g1
          have hp2 : b.drop i = p :: b.drop (i + 1) := by
            rw [List.drop_eq_getElem_cons hib, ← hp]
            unfold rd_T98
            rw [Int.toNat_natCast, List.getD_eq_getElem?_getD, List.getElem?_eq_getElem hib]
            rfl
          have hsc := HSC.out
          rw [hp2, scanR] at hsc
          have HW8 : Aside0 (wrap64 ((i : Int) + 1) = ((i + 1 : Nat) : Int)) := ⟨by have := HB.out; unfold wrap64; omega⟩
          have HI := Aside0.mk hi
          have HIL := Aside0.mk hib
          clear HSC hp hp2 hi
          have HSr : Aside0 (SL w0 wr (Row kIt 98 (.slice Ar r.length cr) r :: Blk b3 (cellsD R Hn y.MR y.W (.slice (some ad) b.length cb) (.slice A2 y.inb.length c2) (.slice A3 y.gaps.length c3)) 52 :: Row kIt 98 (.slice (some ad) b.length cb) b :: Row Kd.string 9 (.slice Ao (o ++ mo.toList).length co) (o ++ mo.toList) :: Blk b6 zeroD 52 :: RefA (RefV y A1 A2 A3 c1 c2 c3) y hd :: l)) := ⟨SL.pk [3] HS.out⟩
          have HSo : Aside0 (SL w0 wr (Row Kd.string 9 (.slice Ao (o ++ mo.toList).length co) (o ++ mo.toList) :: Blk b3 (cellsD R Hn y.MR y.W (.slice (some ad) b.length cb) (.slice A2 y.inb.length c2) (.slice A3 y.gaps.length c3)) 52 :: Row kIt 98 (.slice (some ad) b.length cb) b :: Row kIt 98 (.slice Ar r.length cr) r :: Blk b6 zeroD 52 :: RefA (RefV y A1 A2 A3 c1 c2 c3) y hd :: l)) := ⟨SL.pk [2] HS.out⟩
          cases mo with
          | some m2 =>
            simp only [Option.isSome_some]
            rw [if_neg (by simp)] at hsc
            have HSC := Aside0.mk hsc
            clear hsc
            go_wp2_with (first
              | ((with_reducible refine gate_builtin (b := .append) (xs := #[.tmp 92, .tmp 94]) rfl ?_); at_builtin; go_loud (refine wpList_append1 kIt rfl (.tmp 92) (.tmp 94) 49 98 (.agg #[.int .i64 0, .string ⟨#[]⟩]) 24 rfl Try.underlying49 infoIt rfl (by decide) (by omega) (.slice Ar r.length cr) r p [.int .i64 p.f0, .string p.f1] rfl (by first | rfl | (rw [alc_size]; rfl)) (k98_mkM _ _ _ p) (by repeat (first | (with_reducible exact HSr.out) | (with_reducible apply SL.alloc))) (by have := HRL.out; have := HB.out; have := HIL.out; omega) ?_; intro v2 w9 hs; clear HS HSr q0 z0 q1 z1 q2 z2 q3 z3 q4 z4 q5 z5 q6 z6 hal0 hal4 hal5; have HS := Aside0.mk hs; clear hs; obtain ⟨A9, c9, e9, _⟩ := SL.form HS.out (.head _); subst e9)))
            go_roundg (b.length - (i + 1))
            case measure => have := HI.out; omega
            case rel =>
              refine ⟨i + 1, some m2, r ++ [p], Ao, co, A9, c9, by have := HIL.out; omega, by simp, rfl, by rw [List.length_append]; rfl, by rw [HW8.out], HSC, ⟨by have := HRL.out; rw [List.length_append, List.length_singleton]; omega⟩, ⟨SL.pk [1, 1, 1] HS.out⟩⟩
          | none =>
            simp only [Option.isSome_none]
            by_cases hpR : p.f0 = R
            · rw [if_pos ⟨rfl, hpR⟩] at hsc
              have HSC := Aside0.mk hsc
              have p6 : (p.f0 == R) = true := beq_iff_eq.2 hpR
              clear hsc hpR
              go_wp2_with (first
                | ((with_reducible refine gate_builtin (b := .append) (xs := #[.tmp 87, .tmp 90]) rfl ?_); at_builtin; go_loud (refine wpList_append1 Kd.string rfl (.tmp 87) (.tmp 90) 30 9 (.string ⟨#[]⟩) 16 rfl Try.underlying30 infoS rfl (by decide) (by omega) (.slice Ao (o ++ (none : Option ByteArray).toList).length co) (o ++ (none : Option ByteArray).toList) p.f1 [.string p.f1] rfl (by first | rfl | (rw [alc_size]; rfl)) (rfl) (by repeat (first | (with_reducible exact HSo.out) | (with_reducible apply SL.alloc))) (by have := HB.out; simp only [List.length_append, Option.toList_none, List.length_nil]; omega) ?_; intro v2 w9 hs; clear HS HSo q0 z0 q1 z1 q2 z2 q3 z3 q4 z4 q5 z5 q6 z6 hal0 hal4 hal5; have HS := Aside0.mk hs; clear hs; obtain ⟨A9, c9, e9, _⟩ := SL.form HS.out (.head _); subst e9)))
              have eo : o ++ (none : Option ByteArray).toList ++ [p.f1] = o ++ (some p.f1).toList := by simp
              have hs2 := HS.out
              rw [eo] at hs2
              go_roundg (b.length - (i + 1))
              case measure => have := HI.out; omega
              case rel =>
                refine ⟨i + 1, some p.f1, r, A9, c9, Ar, cr, by have := HIL.out; omega, by simp, rfl, rfl, by rw [HW8.out], HSC, ⟨by have := HRL.out; omega⟩, ⟨SL.pk [1, 1, 0] hs2⟩⟩
            · rw [if_neg (fun e => hpR e.2)] at hsc
              have HSC := Aside0.mk hsc
              have p6 : (p.f0 == R) = false := beq_eq_false_iff_ne.2 hpR
              clear hsc hpR
              go_wp2_with (first
                | ((with_reducible refine gate_builtin (b := .append) (xs := #[.tmp 92, .tmp 94]) rfl ?_); at_builtin; go_loud (refine wpList_append1 kIt rfl (.tmp 92) (.tmp 94) 49 98 (.agg #[.int .i64 0, .string ⟨#[]⟩]) 24 rfl Try.underlying49 infoIt rfl (by decide) (by omega) (.slice Ar r.length cr) r p [.int .i64 p.f0, .string p.f1] rfl (by first | rfl | (rw [alc_size]; rfl)) (k98_mkM _ _ _ p) (by repeat (first | (with_reducible exact HSr.out) | (with_reducible apply SL.alloc))) (by have := HRL.out; have := HB.out; have := HIL.out; omega) ?_; intro v2 w9 hs; clear HS HSr q0 z0 q1 z1 q2 z2 q3 z3 q4 z4 q5 z5 q6 z6 hal0 hal4 hal5; have HS := Aside0.mk hs; clear hs; obtain ⟨A9, c9, e9, _⟩ := SL.form HS.out (.head _); subst e9)))
              go_roundg (b.length - (i + 1))
              case measure => have := HI.out; omega
              case rel =>
                refine ⟨i + 1, none, r ++ [p], Ao, co, A9, c9, by have := HIL.out; omega, by simp, rfl, by rw [List.length_append]; rfl, by rw [HW8.out], HSC, ⟨by have := HRL.out; rw [List.length_append, List.length_singleton]; omega⟩, ⟨SL.pk [1, 1, 1] HS.out⟩⟩
set_option maxHeartbeats 8000000 in
set_option maxRecDepth 100000 in
theorem dataR_gap {w0 W : World} {l : List As} {v : Value} {y : RR} {hd : List Hd} (hy : y.Ok) (x n : Int) (hx : 0 ≤ x ∧ x < 16777216) (m : ByteArray) (hn : y.R + toN y.R x = n) (h1 : ¬ n ≥ y.MR) (h2 : hasR y.buf n = false) (hl : y.buf.length ≤ 900000) (hi : y.inb.length ≤ 90000) (hg : n > y.H ∧ y.gaps.length < 8) (HS : SL w0 W (RefA v y hd :: l)) :
    Calls Try.prog 28 #[v, .int .i64 x, .string m] W fun e w' => ∃ v' vs hd', e = .returned (.tuple #[v', vs]) ∧ SL w0 w' (RefA v' (pullR { y with buf := y.buf ++ [⟨n, m⟩], gaps := y.gaps ++ [[y.H, n]], H := max y.H (n + 1) }).1 hd' :: Row Kd.string 9 vs (pullR { y with buf := y.buf ++ [⟨n, m⟩], gaps := y.gaps ++ [[y.H, n]], H := max y.H (n + 1) }).2 :: l) := by
  obtain ⟨A1, A2, A3, c1, c2, c3, rfl, hh⟩ := HS.know (.head _)
  have HS := Aside0.mk HS
  have hu := Try.underlying52
  have hu2 := Try.underlying98
  have hT : Aside0 (∀ w, Calls Try.prog 46 #[.int .i64 y.R, .int .i64 x] w fun e w' => e = .returned (.int .i64 (toN y.R x)) ∧ w' = w) := ⟨fun w => to1_s _ _ (by have := hy.R; omega) (by omega) w⟩
  have e1 : wrap64 n = n := by have := hy.R; unfold wrap64; unfold toN at hn; omega
  have HY := Aside0.mk hy
  have HLI := Aside0.mk (And.intro hl hi)
  have HNR := Aside0.mk (show y.R ≤ n ∧ n < y.MR by unfold toN at hn; omega)
  have HF := Aside0.mk (And.intro h1 (And.intro h2 hg))
  clear hh h1 h2 hg
  unfold RefV
  go_enter Try.func28, Try.ntmps28
  go_wp2_with fail
  go_quiet ((first | (go_at_call 46; with_reducible exact Calls.quiet_of_same (hT.out _))))
  rw [e1]
  obtain ⟨h1, h2, hg⟩ := HF.out
  have hm : (if y.H < n + 1 then n + 1 else y.H) = max y.H (n + 1) := by omega
  have hw1 : wrap64 (n + 1) = n + 1 := by have := HNR.out; have := HY.out.MR; have := HY.out.R; unfold wrap64; omega
  have p1 : decide (n ≥ y.MR) = false := decide_eq_false (by omega)
  have p2 : decide (n > y.H) = true := decide_eq_true hg.1
  have p3 : decide ((y.gaps.length : Int) < 8) = true := decide_eq_true (by omega)
  clear hg
  clear hT hn e1 hy h1 hl hi
  have hs2 := Aside0.mk (SL.drewN (SL.new (SL.new HS.out (cellsD y.R y.H y.MR y.W (.slice A1 y.buf.length c1) (.slice A2 y.inb.length c2) (.slice A3 y.gaps.length c3)) 52) zeroD 52) nq)
  rw [show ∀ o, (W.alloc o).heap.size = W.heap.size + 1 from fun o => by simp] at hs2
  clear HS
  have HS := hs2
  clear hs2
  generalize World.drewN _ nq = w1 at *
  have hne : ¬ W.heap.size + 1 = W.heap.size := by omega
  have hne2 : ¬ W.heap.size = W.heap.size + 1 := by omega
  generalize W.heap.size + 1 = b6 at *
  generalize W.heap.size = b3 at *
  obtain ⟨⟨q0, z0⟩, ⟨q1, z1⟩, ⟨q2, z2⟩, ⟨q3, z3⟩, ⟨q4, z4⟩, ⟨q5, z5⟩, ⟨q6, z6⟩⟩ := cells7 HS.out m1
  go_wp2_with (first
    | (go_at_call 47; (with_reducible refine (has_c HY.out.buf n HS.out m2).mono ?_); rintro e w2 ⟨rfl, hs⟩; clear HS q0 z0 q1 z1 q2 z2 q3 z3 q4 z4 q5 z5 q6 z6; have HS := Aside0.mk hs; clear hs; obtain ⟨⟨q0, z0⟩, ⟨q1, z1⟩, ⟨q2, z2⟩, ⟨q3, z3⟩, ⟨q4, z4⟩, ⟨q5, z5⟩, ⟨q6, z6⟩⟩ := cells7 HS.out m1; rw [h2]; have hal4 : ∀ o : Obj, (w2.alloc o).cell? ⟨b3, 4, none⟩ = some (.slice A1 y.buf.length c1) := fun o => pw_cell_below (below_alloc (Below.refl _ _) o) q4; have hs2 := Aside0.mk (SL.lit (d := kIt) (e := 98) (xs := []) (cs := []) HS.out (fun _ _ _ => Reps.none _ _) (by decide)); clear HS; have HS := hs2; clear hs2)
    | ((with_reducible refine gate_builtin (b := .append) (xs := #[.tmp 31, .tmp 33]) rfl ?_); at_builtin; refine wpList_appendN kIt flat_It rfl (.tmp 31) (.tmp 33) 49 98 (.agg #[.int .i64 0, .string ⟨#[]⟩]) 24 rfl Try.underlying49 infoIt rfl (by decide) (by omega) (.slice (some ⟨w2.heap.size, 0, none⟩) 0 0) [] y.buf A1 y.buf.length c1 rfl rfl (HS.out) ((refC HS.out m3).1) (by have := HLI.out; simp only [List.length_nil]; omega) ?_; intro v2 w9 hs; clear HS q0 z0 q1 z1 q2 z2 q3 z3 q4 z4 q5 z5 q6 z6 hal4; have HS := Aside0.mk hs; clear hs; obtain ⟨A5, c5, e5, _⟩ := SL.form HS.out (.head _); subst e5; obtain ⟨⟨q0, z0⟩, ⟨q1, z1⟩, ⟨q2, z2⟩, ⟨q3, z3⟩, ⟨q4, z4⟩, ⟨q5, z5⟩, ⟨q6, z6⟩⟩ := cells7 HS.out m2)
    | ((with_reducible refine gate_builtin (b := .append) (xs := #[.tmp 34, .tmp 38]) rfl ?_); at_builtin; go_loud (refine wpList_append1 kIt rfl (.tmp 34) (.tmp 38) 49 98 (.agg #[.int .i64 0, .string ⟨#[]⟩]) 24 rfl Try.underlying49 infoIt rfl (by decide) (by omega) (.slice A5 ([] ++ y.buf).length c5) ([] ++ y.buf) ⟨n, m⟩ [.int .i64 n, .string m] rfl (by first | rfl | (rw [alc_size]; rfl)) (k98_mkM _ _ _ ⟨n, m⟩) HS.out (by have := HLI.out; simp only [List.length_append, List.length_nil]; omega) ?_; intro v2 w9 hs; clear HS q0 z0 q1 z1 q2 z2 q3 z3 q4 z4 q5 z5 q6 z6; have HS := Aside0.mk hs; clear hs; obtain ⟨A6, c6, e6, _⟩ := SL.form HS.out (.head _); subst e6; obtain ⟨⟨q0, z0⟩, ⟨q1, z1⟩, ⟨q2, z2⟩, ⟨q3, z3⟩, ⟨q4, z4⟩, ⟨q5, z5⟩, ⟨q6, z6⟩⟩ := cells7 HS.out m2)))
  have hs2 : Aside0 (SL w0 _ (Pure True :: Pure True :: Blk b3 (cellsD y.R y.H y.MR y.W (.slice A6 (y.buf.length + 1) c6) (.slice A2 y.inb.length c2) (.slice A3 y.gaps.length c3)) 52 :: Row kIt 98 (.slice A6 (y.buf ++ [(⟨n, m⟩ : It)]).length c6) (y.buf ++ [(⟨n, m⟩ : It)]) :: Blk b6 zeroD 52 :: RefA (RefV y A1 A2 A3 c1 c2 c3) y hd :: l)) := ⟨SL.add_pure (SL.add_pure (by
    have el : (y.buf ++ [(⟨n, m⟩ : It)]).length = y.buf.length + 1 := by simp
    have h := SL.set (cs' := cellsD y.R y.H y.MR y.W (.slice A6 (y.buf.length + 1) c6) (.slice A2 y.inb.length c2) (.slice A3 y.gaps.length c3)) (SL.pk [2] HS.out) 4 (.slice A6 (y.buf.length + 1) c6) rfl
    exact h) trivial) trivial⟩
  clear HS q0 z0 q1 z1 q2 z2 q3 z3 q4 z4 q5 z5 q6 z6
  have HS := hs2
  clear hs2
  generalize World.setCell _ _ _ = w10 at HS ⊢
  obtain ⟨⟨q0, z0⟩, ⟨q1, z1⟩, ⟨q2, z2⟩, ⟨q3, z3⟩, ⟨q4, z4⟩, ⟨q5, z5⟩, ⟨q6, z6⟩⟩ := cells7 HS.out m2
  refine start_ (n := 12) (S := fun w' => w'.cell? ⟨b3, 6, none⟩ = some (.slice A3 y.gaps.length c3) ∧ w'.cell? ⟨b3, 1, none⟩ = some (.int .i64 y.H)) (ds := [11]) #[false, false, false, false, false, false, false, false, false, false, false, false] (by kernel_rfl) rfl rfl ⟨q6, q1⟩ (fun hHeld => ?_)
  have hs2 := Aside0.mk (SL.drew HS.out)
  clear HS q0 z0 q1 z1 q2 z2 q3 z3 q4 z4 q5 z5 q6 z6
  have HS := hs2
  clear hs2
  generalize (w10 : World).drew = w11 at HS hHeld ⊢
  refine pure_ (i := 1) (N := some 52) (v := ?_) (a' := ?_) #[false, true, false, false, false, false, false, false, false, false, false, false] rfl rfl (by kernel_rfl) (fun _ _ _ h => h) (Or.inl ⟨by rfl, ?_⟩) ?_ ?_
  rotate_left
  · intro w'; go_simp; with_reducible rfl
  rotate_left
  · simp only [Act.put, List.setIfInBounds_toArray, List.set_cons_zero, List.set_cons_succ, i64_w, i32_w]; rfl
  refine take_ (i := 2) (N := some 53) (v := ?_) (a' := ?_) #[false, true, true, false, false, false, false, false, false, false, false, false] rfl rfl (by kernel_rfl) (fun _ _ _ h => h) (Or.inl ⟨by rfl, ?_⟩) hHeld ?_ ?_
  rotate_left
  · rintro w' ⟨s0, s1⟩; go_simp; with_reducible rfl
  rotate_left
  · simp only [Act.put, List.setIfInBounds_toArray, List.set_cons_zero, List.set_cons_succ, i64_w, i32_w]; rfl
  refine pure_ (i := 4) (N := some 55) (v := ?_) (a' := ?_) #[false, true, true, false, true, false, false, false, false, false, false, false] rfl rfl (by kernel_rfl) (fun _ _ _ h => h) (Or.inl ⟨by rfl, ?_⟩) ?_ ?_
  rotate_left
  · intro w'; go_simp; with_reducible rfl
  rotate_left
  · simp only [Act.put, List.setIfInBounds_toArray, List.set_cons_zero, List.set_cons_succ, i64_w, i32_w]; rfl
  refine take_ (i := 5) (N := some 56) (v := ?_) (a' := ?_) #[false, true, true, false, true, true, false, false, false, false, false, false] rfl rfl (by kernel_rfl) (fun _ _ _ h => h) (Or.inl ⟨by rfl, ?_⟩) hHeld ?_ ?_
  rotate_left
  · rintro w' ⟨s0, s1⟩; go_simp; with_reducible rfl
  rotate_left
  · simp only [Act.put, List.setIfInBounds_toArray, List.set_cons_zero, List.set_cons_succ, i64_w, i32_w]; rfl
  refine pure_ (i := 6) (N := some 57) (v := ?_) (a' := ?_) #[false, true, true, false, true, true, true, false, false, false, false, false] rfl rfl (by kernel_rfl) (fun _ _ _ h => h) (Or.inl ⟨by rfl, ?_⟩) ?_ ?_
  rotate_left
  · intro w'; go_simp; with_reducible rfl
  rotate_left
  · simp only [Act.put, List.setIfInBounds_toArray, List.set_cons_zero, List.set_cons_succ, i64_w, i32_w]; rfl
  refine join_ (σ := Value × Value × Value × Value) 3 #[true, true, true, true, true, true, true, true, true, false, false, false] (fun s => [(51, s.1), (54, s.2.1), (58, s.2.2.1), (59, s.2.2.2)]) (fun s w' => ∃ (A7 : Option Addr) (c7 : Nat) (A8 : Option Addr) (c8 : Nat) (A9 : Option Addr) (c9 : Nat), s.2.1 = .slice A7 hd.length c7 ∧ s.2.2.1 = .slice A8 2 c8 ∧ s.2.2.2 = .slice A9 1 c9 ∧ (w'.cell? ⟨b3, 6, none⟩ = some (.slice A3 y.gaps.length c3) ∧ w'.cell? ⟨b3, 1, none⟩ = some (.int .i64 y.H)) ∧ SL w0 w' (Row kH 22 (.slice A7 hd.length c7) hd :: All [Row kH 22 (.slice A9 1 c9) [⟨A8, 2, c8⟩], Row (Kd.int .i64) 3 (.slice A8 2 c8) [y.H, n]] :: Blk b3 (cellsD y.R y.H y.MR y.W (.slice A6 (y.buf.length + 1) c6) (.slice A2 y.inb.length c2) (.slice A3 y.gaps.length c3)) 52 :: Row kIt 98 (.slice A6 (y.buf ++ [(⟨n, m⟩ : It)]).length c6) (y.buf ++ [(⟨n, m⟩ : It)]) :: Blk b6 zeroD 52 :: RefA (RefV y A1 A2 A3 c1 c2 c3) y hd :: l)) ?_ ?_
  · rintro ⟨v51, v54, v58, v59⟩ w12 ⟨A7, c7, A8, c8, A9, c9, e1, e2, e3, hHeld, hs⟩
    simp only at e1 e2 e3
    subst e1
    subst e2
    subst e3
    clear HS
    have HS := Aside0.mk hs
    clear hs
    have hs2 := Aside0.mk (SL.pk [2] (SL.open_all (SL.swap HS.out)))
    clear HS
    have HS : Aside0 (SL w0 w12 (Row kH 22 (.slice A7 hd.length c7) hd :: Row kH 22 (.slice A9 1 c9) [⟨A8, 2, c8⟩] :: Row (Kd.int .i64) 3 (.slice A8 2 c8) [y.H, n] :: Blk b3 (cellsD y.R y.H y.MR y.W (.slice A6 (y.buf.length + 1) c6) (.slice A2 y.inb.length c2) (.slice A3 y.gaps.length c3)) 52 :: Row kIt 98 (.slice A6 (y.buf ++ [(⟨n, m⟩ : It)]).length c6) (y.buf ++ [(⟨n, m⟩ : It)]) :: Blk b6 zeroD 52 :: RefA (RefV y A1 A2 A3 c1 c2 c3) y hd :: l)) := hs2
    clear hs2
    refine norm_ (a' := ?_) ?_ ?_
    rotate_left
    · show putAll _ _ = _; simp only [putAll, Act.put, List.setIfInBounds_toArray, List.set_cons_zero, List.set_cons_succ, i64_w, i32_w]; rfl
    refine one_ (i := 9) (N := some 60) #[true, true, true, true, true, true, true, true, true, true, false, false] rfl rfl (by kernel_rfl) (by decide) (fun K hK => ?_)
    refine step_appendN kH flat_H (by rfl) (.tmp 54) (.tmp 59) 50 22 (.slice none 0 0) 24 rfl Try.underlying50 infoSl rfl (by decide) (by omega) (.slice A7 hd.length c7) hd [⟨A8, 2, c8⟩] A9 1 c9 rfl rfl HS.out (SL.reads HS.out m1) (by have := HY.out.gaps; have := (refC HS.out m6).2.2.2.1; omega) ?_
    intro v2 w13 hs
    have hIn := (refC HS.out m6).2.2.2.1
    clear HS hHeld
    have HS := Aside0.mk hs
    clear hs
    obtain ⟨A3g, c3g, e7, _⟩ := SL.form HS.out (.head _)
    subst e7
    obtain ⟨hdg, hhdg⟩ : ∃ h, hd ++ [(⟨A8, 2, c8⟩ : Hd)] = h := ⟨_, rfl⟩
    have hng : y.gaps.length + 1 = hdg.length := by rw [← hhdg, List.length_append, hIn]; rfl
    have hs2 : Aside0 (SL w0 w13 (Blk b3 (cellsD y.R y.H y.MR y.W (.slice A6 (y.buf.length + 1) c6) (.slice A2 y.inb.length c2) (.slice A3 y.gaps.length c3)) 52 :: Row kIt 98 (.slice A6 (y.buf ++ [(⟨n, m⟩ : It)]).length c6) (y.buf ++ [(⟨n, m⟩ : It)]) :: Blk b6 zeroD 52 :: Imm (fun W => RefP (RefV y A1 A2 A3 c1 c2 c3) y hd W ∧ GapsP A3g c3g hdg (y.gaps ++ [[y.H, n]]) W) :: l)) := ⟨by
      subst hhdg
      have el3 : (hd ++ [(⟨A8, 2, c8⟩ : Hd)]).length = (y.gaps ++ [[y.H, n]]).length := by rw [List.length_append, List.length_append, hIn]; rfl
      have h1 := SL.pk [2, 0] (row_imm2 HS.out)
      have h4 := SL.tail (SL.pk [1] (SL.imm_join (row_imm2 h1)))
      have h7 := SL.imm_join (SL.pk [0, 3] h4)
      refine SL.pk [1, 1, 1] (SL.imm_mono h7 (fun W h => ?_))
      have h0 := refCW h.2
      refine ⟨h.2, ?_, ?_, InnerP.snoc h0.2.2.2.2 rfl h.1.1.1 h.1.1.2⟩
      · rw [← el3]; exact h.1.2.1
      · rw [← el3]; exact h.1.2.2⟩
    have HNG : Aside0 (y.gaps.length + 1 = hdg.length) := ⟨hng⟩
    have hgl : (hd ++ [(⟨A8, 2, c8⟩ : Hd)]).length = hdg.length := by rw [hhdg]
    rw [hgl]
    generalize hdg.length = ng at HNG ⊢
    clear HS hng hhdg hgl hIn
    have HS := hs2
    clear hs2
    obtain ⟨⟨q0, z0⟩, ⟨q1, z1⟩, ⟨q2, z2⟩, ⟨q3, z3⟩, ⟨q4, z4⟩, ⟨q5, z5⟩, ⟨q6, z6⟩⟩ := cells7 HS.out m0
    refine hK.out _ _ ⟨q6, q1⟩ (fun hHeld => ?_)
    clear hK K
    refine norm_ (a' := ?_) ?_ ?_
    rotate_left
    · show Act.put _ _ _ = _; simp only [Act.put, List.setIfInBounds_toArray, List.set_cons_zero, List.set_cons_succ, i64_w, i32_w]; rfl
    refine pure_ (i := 10) (N := some 61) (v := ?_) (a' := ?_) #[true, true, true, true, true, true, true, true, true, true, true, false] rfl rfl (by kernel_rfl) (fun _ _ _ h => h) (Or.inl ⟨by rfl, ?_⟩) ?_ ?_
    rotate_left
    · intro w'; go_simp; with_reducible rfl
    rotate_left
    · simp only [Act.put, List.setIfInBounds_toArray, List.set_cons_zero, List.set_cons_succ, i64_w, i32_w]; rfl
    refine last_ (i := 11) (N := none) #[true, true, true, true, true, true, true, true, true, true, true, true] rfl rfl (by kernel_rfl) (by decide) (fun K hK => ?_)
    refine skip_ (w1 := w13.setCell ⟨b3, 6, none⟩ (.slice A3g ng c3g)) (by rfl) rfl (by go_simp) ?_
    refine hK.out _ _ ?_
    clear hK K hHeld
    refine done_ (by kernel_rfl) ?_
    have hs2 := Aside0.mk (SL.set (cs' := cellsD y.R y.H y.MR y.W (.slice A6 (y.buf.length + 1) c6) (.slice A2 y.inb.length c2) (.slice A3g ng c3g)) HS.out 6 (.slice A3g ng c3g) rfl)
    clear HS q0 z0 q1 z1 q2 z2 q3 z3 q4 z4 q5 z5 q6 z6
    have HS := hs2
    clear hs2
    generalize World.setCell _ _ _ = w14 at HS ⊢
    obtain ⟨⟨q0, z0⟩, ⟨q1, z1⟩, ⟨q2, z2⟩, ⟨q3, z3⟩, ⟨q4, z4⟩, ⟨q5, z5⟩, ⟨q6, z6⟩⟩ := cells7 HS.out m0
    go_wp2_with fail
    obtain ⟨bf, hbf⟩ : ∃ bf : List It, y.buf ++ [⟨n, m⟩] = bf := ⟨_, rfl⟩
    have hbl : bf.length = y.buf.length + 1 := by rw [← hbf, List.length_append]; rfl
    obtain ⟨Hn, hHn⟩ : ∃ Hn, max y.H (n + 1) = Hn := ⟨_, rfl⟩
    have hs2 := Aside0.mk (SL.lit (d := Kd.string) (e := 9) (xs := []) (cs := []) (SL.set (cs' := cellsD y.R (max y.H (n + 1)) y.MR y.W (.slice A6 (y.buf.length + 1) c6) (.slice A2 y.inb.length c2) (.slice A3g ng c3g)) HS.out 1 (.int .i64 (max y.H (n + 1))) rfl) (fun _ _ _ => Reps.none _ _) (by decide))
    clear HS q0 z0 q1 z1 q2 z2 q3 z3 q4 z4 q5 z5 q6 z6
    have HS : Aside0 (SL w0 _ (Blk b3 (cellsD y.R Hn y.MR y.W (.slice A6 bf.length c6) (.slice A2 y.inb.length c2) (.slice A3g ng c3g)) 52 :: Row kIt 98 (.slice A6 bf.length c6) bf :: Row Kd.string 9 (.slice (some ⟨w14.heap.size, 0, none⟩) ([] : List ByteArray).length 0) [] :: Blk b6 zeroD 52 :: Imm (fun W => RefP (RefV y A1 A2 A3 c1 c2 c3) y hd W ∧ GapsP A3g c3g hdg (y.gaps ++ [[y.H, n]]) W) :: l)) := ⟨by
      have el : (y.buf ++ [(⟨n, m⟩ : It)]).length = y.buf.length + 1 := by simp
      rw [← hHn, ← hbf, el]
      have h := SL.pk [1, 1] hs2.out
      rw [setc_size, el] at h
      exact h⟩
    clear hs2
    obtain ⟨fin, hfin⟩ : ∃ fin, runR (bf.length + 1) y.R bf [] = fin := ⟨_, rfl⟩
    have HFIN := Aside0.mk hfin
    have HBF := Aside0.mk (And.intro hbf (And.intro hHn hbl))
    clear hfin hbf hHn hbl hw1 hm p1 p2 p3
    go_loopg [9, 10] (bf.length + 1) (fun kq v9 v10 wr => ∃ (kk : Nat) (R : Int) (b : List It) (o : List ByteArray) (ag : Bool) (Ab : Option Addr) (cb : Nat) (Ao : Option Addr) (co : Nat), kk = kq ∧ v9 = .slice Ao o.length co ∧ v10 = .bool ag ∧ Aside0 (o.length + b.length ≤ 900001) ∧ Aside0 (y.R ≤ R ∧ R ≤ y.R + o.length) ∧ Aside0 ((ag = true ∧ b.length < kk ∧ runR kk R b o = fin) ∨ (ag = false ∧ (R, b, o) = fin)) ∧ Aside0 (SL w0 wr (Blk b3 (cellsD R Hn y.MR y.W (.slice Ab b.length cb) (.slice A2 y.inb.length c2) (.slice A3g ng c3g)) 52 :: Row kIt 98 (.slice Ab b.length cb) b :: Row Kd.string 9 (.slice Ao o.length co) o :: Blk b6 zeroD 52 :: Imm (fun W => RefP (RefV y A1 A2 A3 c1 c2 c3) y hd W ∧ GapsP A3g c3g hdg (y.gaps ++ [[y.H, n]]) W) :: l)))
    case atStart => exact ⟨_, y.R, bf, [], true, A6, c6, some ⟨_, 0, none⟩, 0, rfl, rfl, rfl, ⟨by have := HLI.out; have := HBF.out.2.2; simp only [List.length_nil]; omega⟩, ⟨by simp⟩, ⟨Or.inl ⟨rfl, Nat.lt_succ_self _, HFIN.out⟩⟩, HS⟩
    case round =>
      clear HS
      obtain ⟨kk, R, b, o, ag, Ab, cb, Ao, co, hkk, rfl, rfl, HB, HR, HK, HS⟩ := hrel
      have HKK := Aside0.mk hkk
      clear hkk
      obtain ⟨⟨q0, z0⟩, ⟨q1, z1⟩, ⟨q2, z2⟩, ⟨q3, z3⟩, ⟨q4, z4⟩, ⟨q5, z5⟩, ⟨q6, z6⟩⟩ := cells7 HS.out m0
      have hal0 : ∀ o : Obj, (wr.alloc o).cell? ⟨b3, 0, none⟩ = some (.int .i64 R) := fun o => pw_cell_below (below_alloc (Below.refl _ _) o) q0; have hal4 : ∀ o : Obj, (wr.alloc o).cell? ⟨b3, 4, none⟩ = some (.slice Ab b.length cb) := fun o => pw_cell_below (below_alloc (Below.refl _ _) o) q4; have hal5 : ∀ o : Obj, (wr.alloc o).cell? ⟨b3, 5, none⟩ = some (.slice A2 y.inb.length c2) := fun o => pw_cell_below (below_alloc (Below.refl _ _) o) q5
      cases ag with
      | false =>
        have hk := HK.out.resolve_left (fun e => by cases e.1)
        have HK2 := Aside0.mk hk.2
        clear hk HK
        have hs2 := Aside0.mk (SL.lit (d := Kd.string) (e := 9) (xs := []) (cs := []) HS.out (fun _ _ _ => Reps.none _ _) (by decide))
        clear HS
        have HS := hs2
        clear hs2
        go_wp2_with (first
          | ((with_reducible refine gate_builtin (b := .append) (xs := #[.tmp 104, .tmp 106]) rfl ?_); at_builtin; refine wpList_appendN Kd.string flat_string rfl (.tmp 104) (.tmp 106) 30 9 (.string ⟨#[]⟩) 16 rfl Try.underlying30 infoS rfl (by decide) (by omega) (.slice (some ⟨wr.heap.size, 0, none⟩) 0 0) [] y.inb A2 y.inb.length c2 rfl rfl (HS.out) ((refCW (HS.out.know m5).1).2.2.1) (by have := HLI.out; simp only [List.length_nil]; omega) ?_; intro v2 w9 hs; clear HS q0 z0 q1 z1 q2 z2 q3 z3 q4 z4 q5 z5 q6 z6 hal0 hal4 hal5; have HS := Aside0.mk hs; clear hs; obtain ⟨A7, c7, e7, _⟩ := SL.form HS.out (.head _); subst e7; obtain ⟨⟨q0, z0⟩, ⟨q1, z1⟩, ⟨q2, z2⟩, ⟨q3, z3⟩, ⟨q4, z4⟩, ⟨q5, z5⟩, ⟨q6, z6⟩⟩ := cells7 HS.out m1)
          | ((with_reducible refine gate_builtin (b := .append) (xs := #[.tmp 107, .tmp 108]) rfl ?_); at_builtin; refine wpList_appendN Kd.string flat_string rfl (.tmp 107) (.tmp 108) 30 9 (.string ⟨#[]⟩) 16 rfl Try.underlying30 infoS rfl (by decide) (by omega) (.slice A7 ([] ++ y.inb).length c7) ([] ++ y.inb) o Ao o.length co rfl rfl (HS.out) (SL.reads HS.out m3) (by have := HLI.out; have := HB.out; simp only [List.length_append, List.length_nil]; omega) ?_; intro v2 w9 hs; clear HS q0 z0 q1 z1 q2 z2 q3 z3 q4 z4 q5 z5 q6 z6; have HS := Aside0.mk hs; clear hs; obtain ⟨A8, c8, e8, _⟩ := SL.form HS.out (.head _); subst e8; obtain ⟨⟨q0, z0⟩, ⟨q1, z1⟩, ⟨q2, z2⟩, ⟨q3, z3⟩, ⟨q4, z4⟩, ⟨q5, z5⟩, ⟨q6, z6⟩⟩ := cells7 HS.out m1; obtain ⟨⟨x0, y0⟩, ⟨x1, y1⟩, ⟨x2, y2⟩, ⟨x3, y3⟩, ⟨x4, y4⟩, ⟨x5, y5⟩, ⟨x6, y6⟩⟩ := cells7 HS.out m4))
        have HP : Aside0 (pullR { y with buf := y.buf ++ [⟨n, m⟩], gaps := y.gaps ++ [[y.H, n]], H := max y.H (n + 1) } = ({ y with R := R, H := Hn, buf := b, inb := y.inb ++ o, gaps := y.gaps ++ [[y.H, n]] }, o)) := ⟨by
          have e := HK2.out.trans HFIN.out.symm
          unfold pullR
          simp only
          rw [HBF.out.1, HBF.out.2.1, ← e]⟩
        have hs2 := Aside0.mk (set7 (.int .i64 R) (.int .i64 Hn) (.int .i64 y.MR) (.int .i64 y.W) (.slice Ab b.length cb) (.slice A8 (y.inb ++ o).length c8) (.slice A3g ng c3g) (SL.pk [4] (SL.set (cs' := cellsD R Hn y.MR y.W (.slice Ab b.length cb) (.slice A8 (y.inb ++ o).length c8) (.slice A3g ng c3g)) (SL.pk [1] HS.out) 5 (.slice A8 (y.inb ++ o).length c8) rfl)))
        clear q0 z0 q1 z1 q2 z2 q3 z3 q4 z4 q5 z5 q6 z6 x0 y0 x1 y1 x2 y2 x3 y3 x4 y4 x5 y5 x6 y6 HS
        rw [List.length_append] at hs2
        obtain ⟨⟨x0, y0⟩, ⟨x1, y1⟩, ⟨x2, y2⟩, ⟨x3, y3⟩, ⟨x4, y4⟩, ⟨x5, y5⟩, ⟨x6, y6⟩⟩ := cells7 hs2.out m0
        refine bodyPost_ret (v := .tuple #[RefV { y with R := R, H := Hn, buf := b, inb := y.inb ++ o, gaps := y.gaps ++ [[y.H, n]] } Ab A8 A3g cb c8 c3g, .slice Ao o.length co]) (by simp [results, Try.results28, go_sem, RefV, x0, x1, x2, x3, x4, x5, x6, HNG.out]) rfl ⟨_, _, hdg, rfl, ?_⟩
        rw [HP.out]
        refine refMake (z := { y with R := R, H := Hn, buf := b, inb := y.inb ++ o, gaps := y.gaps ++ [[y.H, n]] }) (A1 := Ab) (A2 := A8) (P := fun W => RefP (RefV y A1 A2 A3 c1 c2 c3) y hd W ∧ GapsP A3g c3g hdg (y.gaps ++ [[y.H, n]]) W) (fun W h => h.2) ?_
        show SL w0 _ (Row kIt 98 (.slice Ab b.length cb) b :: Row Kd.string 9 (.slice A8 (y.inb ++ o).length c8) (y.inb ++ o) :: Imm (fun W => RefP (RefV y A1 A2 A3 c1 c2 c3) y hd W ∧ GapsP A3g c3g hdg (y.gaps ++ [[y.H, n]]) W) :: Row Kd.string 9 (.slice Ao o.length co) o :: l)
        exact SL.pk [1, 0, 1] (SL.tail (SL.tail hs2.out))
      | true =>
        have hk := HK.out.resolve_right (fun e => by cases e.1)
        have HK2 := Aside0.mk hk.2
        clear hk HK
        have hs2 : Aside0 (SL w0 _ (Blk b3 (cellsD R Hn y.MR y.W (.slice Ab b.length cb) (.slice A2 y.inb.length c2) (.slice A3g ng c3g)) 52 :: Row kIt 98 (.slice Ab b.length cb) b :: Row Kd.string 9 (.slice Ao (o ++ (none : Option ByteArray).toList).length co) (o ++ (none : Option ByteArray).toList) :: Row kIt 98 (.slice (some ⟨wr.heap.size, 0, none⟩) ([] : List It).length 0) [] :: Blk b6 zeroD 52 :: Imm (fun W => RefP (RefV y A1 A2 A3 c1 c2 c3) y hd W ∧ GapsP A3g c3g hdg (y.gaps ++ [[y.H, n]]) W) :: l)) := ⟨by
          have h := SL.pk [1, 1, 1] (SL.lit (d := kIt) (e := 98) (xs := []) (cs := []) HS.out (fun _ _ _ => Reps.none _ _) (by decide))
          rw [show o ++ (none : Option ByteArray).toList = o from List.append_nil o]
          exact h⟩
        clear HS
        have HS := hs2
        clear hs2
        go_wp2_with fail
        clear q0 z0 q1 z1 q2 z2 q3 z3 q4 z4 q5 z5 q6 z6 hal0 hal4 hal5
        obtain ⟨fs, hfs⟩ : ∃ fs, scanR R b none [] = fs := ⟨_, rfl⟩
        have HFS := Aside0.mk hfs
        clear hfs
        go_loopg [9, 10, 11, 74] b.length (fun kq v9 v10 v11 v74 wr => ∃ (i : Nat) (mo : Option ByteArray) (r : List It) (Ao : Option Addr) (co : Nat) (Ar : Option Addr) (cr : Nat), i + kq = b.length ∧ v9 = .slice Ao (o ++ mo.toList).length co ∧ v10 = .bool mo.isSome ∧ v11 = .slice Ar r.length cr ∧ v74 = .int .i64 i ∧ Aside0 (scanR R (b.drop i) mo r = fs) ∧ Aside0 (r.length ≤ i) ∧ Aside0 (SL w0 wr (Blk b3 (cellsD R Hn y.MR y.W (.slice Ab b.length cb) (.slice A2 y.inb.length c2) (.slice A3g ng c3g)) 52 :: Row kIt 98 (.slice Ab b.length cb) b :: Row Kd.string 9 (.slice Ao (o ++ mo.toList).length co) (o ++ mo.toList) :: Row kIt 98 (.slice Ar r.length cr) r :: Blk b6 zeroD 52 :: Imm (fun W => RefP (RefV y A1 A2 A3 c1 c2 c3) y hd W ∧ GapsP A3g c3g hdg (y.gaps ++ [[y.H, n]]) W) :: l)))
        case atStart => exact ⟨0, none, [], Ao, co, some ⟨_, 0, none⟩, 0, by omega, by simp, rfl, rfl, rfl, HFS, ⟨Nat.le_refl _⟩, HS⟩
        case round =>
          clear HS
          obtain ⟨i, mo, r, Ao, co, Ar, cr, hi, rfl, rfl, rfl, rfl, HSC, HRL, HS⟩ := hrel
          obtain ⟨⟨q0, z0⟩, ⟨q1, z1⟩, ⟨q2, z2⟩, ⟨q3, z3⟩, ⟨q4, z4⟩, ⟨q5, z5⟩, ⟨q6, z6⟩⟩ := cells7 HS.out m0
          have hal0 : ∀ o : Obj, (wr.alloc o).cell? ⟨b3, 0, none⟩ = some (.int .i64 R) := fun o => pw_cell_below (below_alloc (Below.refl _ _) o) q0; have hal4 : ∀ o : Obj, (wr.alloc o).cell? ⟨b3, 4, none⟩ = some (.slice Ab b.length cb) := fun o => pw_cell_below (below_alloc (Below.refl _ _) o) q4; have hal5 : ∀ o : Obj, (wr.alloc o).cell? ⟨b3, 5, none⟩ = some (.slice A2 y.inb.length c2) := fun o => pw_cell_below (below_alloc (Below.refl _ _) o) q5
          have hwR : wrap64 (R + 1) = R + 1 := by have := HR.out; have := HB.out; have := HY.out.R; unfold wrap64; omega
          by_cases hib : i < b.length
          case neg =>
            have p4 : decide ((i : Int) < (b.length : Int)) = false := decide_eq_false (by omega)
            have hsc := HSC.out
            rw [List.drop_eq_nil_of_le (by omega), scanR] at hsc
            have HSC := Aside0.mk hsc
            clear hsc hi
            cases mo with
            | some m2 =>
              simp only [Option.isSome_some]
              go_wp2_with fail
              have hlen : r.length + 1 = b.length := by
                rcases scanR_len R b [] with ⟨e1, _⟩ | ⟨m3, _, e2⟩
                · rw [HFS.out, ← HSC.out] at e1
                  cases e1
                · rw [HFS.out, ← HSC.out] at e2
                  simpa using e2
              have hk3 := HK2.out
              have hk4 := HKK.out
              obtain ⟨k5, hk5⟩ : ∃ k5, kk = k5 + 1 := ⟨kk - 1, by omega⟩
              rw [hk5, runR, HFS.out, ← HSC.out] at hk3
              go_roundg k5
              case measure => omega
              case rel =>
                refine ⟨k5, R + 1, r, o ++ (some m2).toList, true, Ar, cr, Ao, co, rfl, rfl, rfl, ⟨?_⟩, ⟨?_⟩, ⟨Or.inl ⟨rfl, ?_, hk3.2⟩⟩, ⟨?_⟩⟩
                · have := HB.out; simp only [Option.toList_some, List.length_append, List.length_singleton]; omega
                · have := HR.out; simp only [Option.toList_some, List.length_append, List.length_singleton]; omega
                · have := hk3.1; omega
                · exact SL.pk [0, 1] (SL.tail (SL.pk [1] (SL.set (cs' := cellsD (R + 1) Hn y.MR y.W (.slice Ar r.length cr) (.slice A2 y.inb.length c2) (.slice A3g ng c3g)) (SL.set (cs' := cellsD R Hn y.MR y.W (.slice Ar r.length cr) (.slice A2 y.inb.length c2) (.slice A3g ng c3g)) HS.out 4 (.slice Ar r.length cr) rfl) 0 (.int .i64 (R + 1)) rfl)))
            | none =>
              simp only [Option.isSome_none]
              go_wp2_with fail
              have hlen : r.length = b.length := by
                rcases scanR_len R b [] with ⟨_, e2⟩ | ⟨m3, e1, _⟩
                · rw [HFS.out, ← HSC.out] at e2
                  rw [show r = [] ++ b from e2]
                  rfl
                · rw [HFS.out, ← HSC.out] at e1
                  cases e1
              have hk3 := HK2.out
              have hk4 := HKK.out
              obtain ⟨k5, hk5⟩ : ∃ k5, kk = k5 + 1 := ⟨kk - 1, by omega⟩
              rw [hk5, runR, HFS.out, ← HSC.out] at hk3
              go_roundg k5
              case measure => omega
              case rel =>
                refine ⟨k5, R, r, o ++ (none : Option ByteArray).toList, false, Ar, cr, Ao, co, rfl, rfl, rfl, ⟨?_⟩, ⟨?_⟩, ⟨Or.inr ⟨rfl, by rw [show o ++ (none : Option ByteArray).toList = o from List.append_nil o]; exact hk3.2⟩⟩, ⟨?_⟩⟩
                · have := HB.out; simp only [Option.toList_none, List.length_append, List.length_nil]; omega
                · have := HR.out; simp only [Option.toList_none, List.length_append, List.length_nil]; omega
                · exact SL.pk [0, 1] (SL.tail (SL.pk [1] (SL.set (cs' := cellsD R Hn y.MR y.W (.slice Ar r.length cr) (.slice A2 y.inb.length c2) (.slice A3g ng c3g)) HS.out 4 (.slice Ar r.length cr) rfl)))
          case pos =>
            have p4 : decide ((i : Int) < (b.length : Int)) = true := decide_eq_true (by omega)
            obtain ⟨ad, eA, g0, g1⟩ := at_T98 (SL.reads HS.out m1) (i : Int) (by omega) (by omega)
            subst eA
            obtain ⟨p, hp⟩ : ∃ p, rd_T98 b (i : Int) = p := ⟨_, rfl⟩
            rw [hp] at g0 g1
            rw [Int.toNat_natCast] at g0 g1
            have hp2 : b.drop i = p :: b.drop (i + 1) := by
              rw [List.drop_eq_getElem_cons hib, ← hp]
              unfold rd_T98
              rw [Int.toNat_natCast, List.getD_eq_getElem?_getD, List.getElem?_eq_getElem hib]
              rfl
            have hsc := HSC.out
            rw [hp2, scanR] at hsc
            have HW8 : Aside0 (wrap64 ((i : Int) + 1) = ((i + 1 : Nat) : Int)) := ⟨by have := HB.out; unfold wrap64; omega⟩
            have HI := Aside0.mk hi
            have HIL := Aside0.mk hib
            clear HSC hp hp2 hi
            have HSr : Aside0 (SL w0 wr (Row kIt 98 (.slice Ar r.length cr) r :: Blk b3 (cellsD R Hn y.MR y.W (.slice (some ad) b.length cb) (.slice A2 y.inb.length c2) (.slice A3g ng c3g)) 52 :: Row kIt 98 (.slice (some ad) b.length cb) b :: Row Kd.string 9 (.slice Ao (o ++ mo.toList).length co) (o ++ mo.toList) :: Blk b6 zeroD 52 :: Imm (fun W => RefP (RefV y A1 A2 A3 c1 c2 c3) y hd W ∧ GapsP A3g c3g hdg (y.gaps ++ [[y.H, n]]) W) :: l)) := ⟨SL.pk [3] HS.out⟩
            have HSo : Aside0 (SL w0 wr (Row Kd.string 9 (.slice Ao (o ++ mo.toList).length co) (o ++ mo.toList) :: Blk b3 (cellsD R Hn y.MR y.W (.slice (some ad) b.length cb) (.slice A2 y.inb.length c2) (.slice A3g ng c3g)) 52 :: Row kIt 98 (.slice (some ad) b.length cb) b :: Row kIt 98 (.slice Ar r.length cr) r :: Blk b6 zeroD 52 :: Imm (fun W => RefP (RefV y A1 A2 A3 c1 c2 c3) y hd W ∧ GapsP A3g c3g hdg (y.gaps ++ [[y.H, n]]) W) :: l)) := ⟨SL.pk [2] HS.out⟩
            cases mo with
            | some m2 =>
              simp only [Option.isSome_some]
              rw [if_neg (by simp)] at hsc
              have HSC := Aside0.mk hsc
              clear hsc
              go_wp2_with (first
                | ((with_reducible refine gate_builtin (b := .append) (xs := #[.tmp 92, .tmp 94]) rfl ?_); at_builtin; go_loud (refine wpList_append1 kIt rfl (.tmp 92) (.tmp 94) 49 98 (.agg #[.int .i64 0, .string ⟨#[]⟩]) 24 rfl Try.underlying49 infoIt rfl (by decide) (by omega) (.slice Ar r.length cr) r p [.int .i64 p.f0, .string p.f1] rfl (by first | rfl | (rw [alc_size]; rfl)) (k98_mkM _ _ _ p) (by repeat (first | (with_reducible exact HSr.out) | (with_reducible apply SL.alloc))) (by have := HRL.out; have := HB.out; have := HIL.out; omega) ?_; intro v2 w9 hs; clear HS HSr q0 z0 q1 z1 q2 z2 q3 z3 q4 z4 q5 z5 q6 z6 hal0 hal4 hal5; have HS := Aside0.mk hs; clear hs; obtain ⟨A9, c9, e9, _⟩ := SL.form HS.out (.head _); subst e9)))
              go_roundg (b.length - (i + 1))
              case measure => have := HI.out; omega
              case rel =>
                refine ⟨i + 1, some m2, r ++ [p], Ao, co, A9, c9, by have := HIL.out; omega, by simp, rfl, by rw [List.length_append]; rfl, by rw [HW8.out], HSC, ⟨by have := HRL.out; rw [List.length_append, List.length_singleton]; omega⟩, ⟨SL.pk [1, 1, 1] HS.out⟩⟩
            | none =>
              simp only [Option.isSome_none]
              by_cases hpR : p.f0 = R
              · rw [if_pos ⟨rfl, hpR⟩] at hsc
                have HSC := Aside0.mk hsc
                have p6 : (p.f0 == R) = true := beq_iff_eq.2 hpR
                clear hsc hpR
                go_wp2_with (first
                  | ((with_reducible refine gate_builtin (b := .append) (xs := #[.tmp 87, .tmp 90]) rfl ?_); at_builtin; go_loud (refine wpList_append1 Kd.string rfl (.tmp 87) (.tmp 90) 30 9 (.string ⟨#[]⟩) 16 rfl Try.underlying30 infoS rfl (by decide) (by omega) (.slice Ao (o ++ (none : Option ByteArray).toList).length co) (o ++ (none : Option ByteArray).toList) p.f1 [.string p.f1] rfl (by first | rfl | (rw [alc_size]; rfl)) (rfl) (by repeat (first | (with_reducible exact HSo.out) | (with_reducible apply SL.alloc))) (by have := HB.out; simp only [List.length_append, Option.toList_none, List.length_nil]; omega) ?_; intro v2 w9 hs; clear HS HSo q0 z0 q1 z1 q2 z2 q3 z3 q4 z4 q5 z5 q6 z6 hal0 hal4 hal5; have HS := Aside0.mk hs; clear hs; obtain ⟨A9, c9, e9, _⟩ := SL.form HS.out (.head _); subst e9)))
                have eo : o ++ (none : Option ByteArray).toList ++ [p.f1] = o ++ (some p.f1).toList := by simp
                have hs2 := HS.out
                rw [eo] at hs2
                go_roundg (b.length - (i + 1))
                case measure => have := HI.out; omega
                case rel =>
                  refine ⟨i + 1, some p.f1, r, A9, c9, Ar, cr, by have := HIL.out; omega, by simp, rfl, rfl, by rw [HW8.out], HSC, ⟨by have := HRL.out; omega⟩, ⟨SL.pk [1, 1, 0] hs2⟩⟩
              · rw [if_neg (fun e => hpR e.2)] at hsc
                have HSC := Aside0.mk hsc
                have p6 : (p.f0 == R) = false := beq_eq_false_iff_ne.2 hpR
                clear hsc hpR
                go_wp2_with (first
                  | ((with_reducible refine gate_builtin (b := .append) (xs := #[.tmp 92, .tmp 94]) rfl ?_); at_builtin; go_loud (refine wpList_append1 kIt rfl (.tmp 92) (.tmp 94) 49 98 (.agg #[.int .i64 0, .string ⟨#[]⟩]) 24 rfl Try.underlying49 infoIt rfl (by decide) (by omega) (.slice Ar r.length cr) r p [.int .i64 p.f0, .string p.f1] rfl (by first | rfl | (rw [alc_size]; rfl)) (k98_mkM _ _ _ p) (by repeat (first | (with_reducible exact HSr.out) | (with_reducible apply SL.alloc))) (by have := HRL.out; have := HB.out; have := HIL.out; omega) ?_; intro v2 w9 hs; clear HS HSr q0 z0 q1 z1 q2 z2 q3 z3 q4 z4 q5 z5 q6 z6 hal0 hal4 hal5; have HS := Aside0.mk hs; clear hs; obtain ⟨A9, c9, e9, _⟩ := SL.form HS.out (.head _); subst e9)))
                go_roundg (b.length - (i + 1))
                case measure => have := HI.out; omega
                case rel =>
                  refine ⟨i + 1, none, r ++ [p], Ao, co, A9, c9, by have := HIL.out; omega, by simp, rfl, by rw [List.length_append]; rfl, by rw [HW8.out], HSC, ⟨by have := HRL.out; rw [List.length_append, List.length_singleton]; omega⟩, ⟨SL.pk [1, 1, 1] HS.out⟩⟩
  intro hcont
  refine two_ (i := 0) (j := 7) (Ni := some 51) (Nj := some 58) #[true, true, true, false, true, true, true, false, false, false, false, false] #[false, true, true, false, true, true, true, true, false, false, false, false] rfl rfl rfl rfl (by kernel_rfl) (by decide) (by decide) ?_ ?_
  · intro K hK
    refine val_ (v := .slice (some ⟨w11.heap.size, 0, none⟩) 0 0) (w1 := w11.alloc (.cells #[] 22)) (by rfl) rfl (by go_simp) ?_
    have hs := SL.pk [1] (SL.lit (d := kH) (e := 22) (xs := []) (cs := []) HS.out (fun _ _ _ => Reps.none _ _) (by decide))
    have hs2 := Aside0.mk (SL.tail hs)
    clear HS hs
    have HS := hs2
    clear hs2
    refine hK.out _ _ ⟨(cells7 HS.out m2).2.2.2.2.2.2.1, (cells7 HS.out m2).2.1.1⟩ (fun hHeld => ?_)
    clear hK K
    refine norm_ (a' := ?_) ?_ ?_
    rotate_left
    · show Act.put _ _ _ = _; simp only [Act.put, List.setIfInBounds_toArray, List.set_cons_zero, List.set_cons_succ, i64_w, i32_w]; rfl
    generalize World.alloc _ _ = wa10 at HS hHeld ⊢
    generalize Value.slice (some ⟨_, 0, none⟩) 0 0 = v51 at HS ⊢
    refine two_ (i := 3) (j := 7) (Ni := some 54) (Nj := some 58) #[true, true, true, true, true, true, true, false, false, false, false, false] #[true, true, true, false, true, true, true, true, false, false, false, false] rfl rfl rfl rfl (by kernel_rfl) (by decide) (by decide) ?_ ?_
    · intro K hK
      refine step_appendN kH flat_H (by rfl) (.tmp 51) (.tmp 53) 50 22 (.slice none 0 0) 24 rfl Try.underlying50 infoSl rfl (by decide) (by omega) v51 [] hd A3 y.gaps.length c3 rfl rfl HS.out (refC HS.out m5).2.2.1 (by have := HY.out.gaps; simp only [List.length_nil]; omega) ?_
      intro v2 wa20 hs
      clear HS
      have HS := Aside0.mk hs
      clear hs
      obtain ⟨A7, c7, e7, _⟩ := SL.form HS.out (.head _)
      subst e7
      refine hK.out _ _ ⟨(cells7 HS.out m2).2.2.2.2.2.2.1, (cells7 HS.out m2).2.1.1⟩ (fun hHeld => ?_)
      clear hK K
      refine norm_ (a' := ?_) ?_ ?_
      rotate_left
      · show Act.put _ _ _ = _; simp only [Act.put, List.setIfInBounds_toArray, List.set_cons_zero, List.set_cons_succ, i64_w, i32_w]; rfl
      refine one_ (i := 7) (N := some 58) #[true, true, true, true, true, true, true, true, false, false, false, false] rfl rfl (by kernel_rfl) (by decide) ?_
      intro K hK
      refine val_ (v := .slice (some ⟨wa20.heap.size, 0, none⟩) 2 2) (w1 := wa20.alloc (.cells #[.int .i64 y.H, .int .i64 n] 3)) (by rfl) rfl (by go_simp) ?_
      have hs := SL.pk [2] (SL.lit (d := Kd.int .i64) (e := 3) (xs := [y.H, n]) (cs := [.int .i64 y.H, .int .i64 n]) HS.out (fun _ _ _ => ((Reps.none _ _).snoc (p := y.H) (c := [.int .i64 y.H]) rfl rfl).snoc (p := n) (c := [.int .i64 n]) rfl rfl) (by show (2 : Nat) ≤ _; decide))
      have hs2 := Aside0.mk (SL.swap (SL.tail hs))
      clear HS hs
      have HS := hs2
      clear hs2
      refine hK.out _ _ ⟨(cells7 HS.out m2).2.2.2.2.2.2.1, (cells7 HS.out m2).2.1.1⟩ (fun hHeld => ?_)
      clear hK K
      refine norm_ (a' := ?_) ?_ ?_
      rotate_left
      · show Act.put _ _ _ = _; simp only [Act.put, List.setIfInBounds_toArray, List.set_cons_zero, List.set_cons_succ, i64_w, i32_w]; rfl
      generalize World.alloc _ _ = wa21 at HS hHeld ⊢
      generalize Array.size (World.heap _) = b58 at HS ⊢
      refine one_ (i := 8) (N := some 59) #[true, true, true, true, true, true, true, true, true, false, false, false] rfl rfl (by kernel_rfl) (by decide) ?_
      intro K hK
      refine val_ (v := .slice (some ⟨wa21.heap.size, 0, none⟩) 1 1) (w1 := wa21.alloc (.cells #[.slice (some ⟨b58, 0, none⟩) 2 2] 22)) (by rfl) rfl (by go_simp) ?_
      have hs := SL.lit (d := kH) (e := 22) (xs := ([⟨some ⟨b58, 0, none⟩, 2, 2⟩] : List Hd)) (cs := [.slice (some ⟨b58, 0, none⟩) 2 2]) HS.out (fun _ _ _ => (Reps.none _ _).snoc rfl rfl) (by show (1 : Nat) ≤ _; decide)
      have hs2 := Aside0.mk (SL.swap (SL.shut_all (l := [_, _]) (SL.pk [0, 1] hs)))
      clear HS hs
      have HS := hs2
      clear hs2
      refine hK.out _ _ ⟨(cells7 HS.out m2).2.2.2.2.2.2.1, (cells7 HS.out m2).2.1.1⟩ (fun hHeld => ?_)
      clear hK K
      refine norm_ (a' := ?_) ?_ ?_
      rotate_left
      · show Act.put _ _ _ = _; simp only [Act.put, List.setIfInBounds_toArray, List.set_cons_zero, List.set_cons_succ, i64_w, i32_w]; rfl
      generalize World.alloc _ _ = wa22 at HS hHeld ⊢
      exact norm_ (by rfl) (hcont ⟨_, _, _, _⟩ _ ⟨_, _, _, _, _, _, rfl, rfl, rfl, hHeld, HS.out⟩)
    · intro K hK
      refine val_ (v := .slice (some ⟨wa10.heap.size, 0, none⟩) 2 2) (w1 := wa10.alloc (.cells #[.int .i64 y.H, .int .i64 n] 3)) (by rfl) rfl (by go_simp) ?_
      have hs := SL.pk [2] (SL.lit (d := Kd.int .i64) (e := 3) (xs := [y.H, n]) (cs := [.int .i64 y.H, .int .i64 n]) HS.out (fun _ _ _ => ((Reps.none _ _).snoc (p := y.H) (c := [.int .i64 y.H]) rfl rfl).snoc (p := n) (c := [.int .i64 n]) rfl rfl) (by show (2 : Nat) ≤ _; decide))
      have hs2 := Aside0.mk (SL.swap (SL.tail hs))
      clear HS hs
      have HS := hs2
      clear hs2
      refine hK.out _ _ ⟨(cells7 HS.out m2).2.2.2.2.2.2.1, (cells7 HS.out m2).2.1.1⟩ (fun hHeld => ?_)
      clear hK K
      refine norm_ (a' := ?_) ?_ ?_
      rotate_left
      · show Act.put _ _ _ = _; simp only [Act.put, List.setIfInBounds_toArray, List.set_cons_zero, List.set_cons_succ, i64_w, i32_w]; rfl
      generalize World.alloc _ _ = wa11 at HS hHeld ⊢
      generalize Array.size (World.heap _) = b58 at HS ⊢
      refine two_ (i := 3) (j := 8) (Ni := some 54) (Nj := some 59) #[true, true, true, true, true, true, true, true, false, false, false, false] #[true, true, true, false, true, true, true, true, true, false, false, false] rfl rfl rfl rfl (by kernel_rfl) (by decide) (by decide) ?_ ?_
      · intro K hK
        refine step_appendN kH flat_H (by rfl) (.tmp 51) (.tmp 53) 50 22 (.slice none 0 0) 24 rfl Try.underlying50 infoSl rfl (by decide) (by omega) v51 [] hd A3 y.gaps.length c3 rfl rfl HS.out (refC HS.out m5).2.2.1 (by have := HY.out.gaps; simp only [List.length_nil]; omega) ?_
        intro v2 wa21 hs
        clear HS
        have HS := Aside0.mk hs
        clear hs
        obtain ⟨A7, c7, e7, _⟩ := SL.form HS.out (.head _)
        subst e7
        refine hK.out _ _ ⟨(cells7 HS.out m2).2.2.2.2.2.2.1, (cells7 HS.out m2).2.1.1⟩ (fun hHeld => ?_)
        clear hK K
        refine norm_ (a' := ?_) ?_ ?_
        rotate_left
        · show Act.put _ _ _ = _; simp only [Act.put, List.setIfInBounds_toArray, List.set_cons_zero, List.set_cons_succ, i64_w, i32_w]; rfl
        refine one_ (i := 8) (N := some 59) #[true, true, true, true, true, true, true, true, true, false, false, false] rfl rfl (by kernel_rfl) (by decide) ?_
        intro K hK
        refine val_ (v := .slice (some ⟨wa21.heap.size, 0, none⟩) 1 1) (w1 := wa21.alloc (.cells #[.slice (some ⟨b58, 0, none⟩) 2 2] 22)) (by rfl) rfl (by go_simp) ?_
        have hs := SL.lit (d := kH) (e := 22) (xs := ([⟨some ⟨b58, 0, none⟩, 2, 2⟩] : List Hd)) (cs := [.slice (some ⟨b58, 0, none⟩) 2 2]) HS.out (fun _ _ _ => (Reps.none _ _).snoc rfl rfl) (by show (1 : Nat) ≤ _; decide)
        have hs2 := Aside0.mk (SL.swap (SL.shut_all (l := [_, _]) (SL.pk [0, 1] hs)))
        clear HS hs
        have HS := hs2
        clear hs2
        refine hK.out _ _ ⟨(cells7 HS.out m2).2.2.2.2.2.2.1, (cells7 HS.out m2).2.1.1⟩ (fun hHeld => ?_)
        clear hK K
        refine norm_ (a' := ?_) ?_ ?_
        rotate_left
        · show Act.put _ _ _ = _; simp only [Act.put, List.setIfInBounds_toArray, List.set_cons_zero, List.set_cons_succ, i64_w, i32_w]; rfl
        generalize World.alloc _ _ = wa22 at HS hHeld ⊢
        exact norm_ (by rfl) (hcont ⟨_, _, _, _⟩ _ ⟨_, _, _, _, _, _, rfl, rfl, rfl, hHeld, HS.out⟩)
      · intro K hK
        refine val_ (v := .slice (some ⟨wa11.heap.size, 0, none⟩) 1 1) (w1 := wa11.alloc (.cells #[.slice (some ⟨b58, 0, none⟩) 2 2] 22)) (by rfl) rfl (by go_simp) ?_
        have hs := SL.lit (d := kH) (e := 22) (xs := ([⟨some ⟨b58, 0, none⟩, 2, 2⟩] : List Hd)) (cs := [.slice (some ⟨b58, 0, none⟩) 2 2]) HS.out (fun _ _ _ => (Reps.none _ _).snoc rfl rfl) (by show (1 : Nat) ≤ _; decide)
        have hs2 := Aside0.mk (SL.swap (SL.shut_all (l := [_, _]) (SL.pk [0, 1] hs)))
        clear HS hs
        have HS := hs2
        clear hs2
        refine hK.out _ _ ⟨(cells7 HS.out m2).2.2.2.2.2.2.1, (cells7 HS.out m2).2.1.1⟩ (fun hHeld => ?_)
        clear hK K
        refine norm_ (a' := ?_) ?_ ?_
        rotate_left
        · show Act.put _ _ _ = _; simp only [Act.put, List.setIfInBounds_toArray, List.set_cons_zero, List.set_cons_succ, i64_w, i32_w]; rfl
        generalize World.alloc _ _ = wa12 at HS hHeld ⊢
        refine one_ (i := 3) (N := some 54) #[true, true, true, true, true, true, true, true, true, false, false, false] rfl rfl (by kernel_rfl) (by decide) ?_
        intro K hK
        refine step_appendN kH flat_H (by rfl) (.tmp 51) (.tmp 53) 50 22 (.slice none 0 0) 24 rfl Try.underlying50 infoSl rfl (by decide) (by omega) v51 [] hd A3 y.gaps.length c3 rfl rfl HS.out (refC HS.out m5).2.2.1 (by have := HY.out.gaps; simp only [List.length_nil]; omega) ?_
        intro v2 wa22 hs
        clear HS
        have HS := Aside0.mk hs
        clear hs
        obtain ⟨A7, c7, e7, _⟩ := SL.form HS.out (.head _)
        subst e7
        refine hK.out _ _ ⟨(cells7 HS.out m2).2.2.2.2.2.2.1, (cells7 HS.out m2).2.1.1⟩ (fun hHeld => ?_)
        clear hK K
        refine norm_ (a' := ?_) ?_ ?_
        rotate_left
        · show Act.put _ _ _ = _; simp only [Act.put, List.setIfInBounds_toArray, List.set_cons_zero, List.set_cons_succ, i64_w, i32_w]; rfl
        exact norm_ (by rfl) (hcont ⟨_, _, _, _⟩ _ ⟨_, _, _, _, _, _, rfl, rfl, rfl, hHeld, HS.out⟩)
  · intro K hK
    refine val_ (v := .slice (some ⟨w11.heap.size, 0, none⟩) 2 2) (w1 := w11.alloc (.cells #[.int .i64 y.H, .int .i64 n] 3)) (by rfl) rfl (by go_simp) ?_
    have hs := SL.pk [2] (SL.lit (d := Kd.int .i64) (e := 3) (xs := [y.H, n]) (cs := [.int .i64 y.H, .int .i64 n]) HS.out (fun _ _ _ => ((Reps.none _ _).snoc (p := y.H) (c := [.int .i64 y.H]) rfl rfl).snoc (p := n) (c := [.int .i64 n]) rfl rfl) (by show (2 : Nat) ≤ _; decide))
    have hs2 := Aside0.mk (SL.swap (SL.tail hs))
    clear HS hs
    have HS := hs2
    clear hs2
    refine hK.out _ _ ⟨(cells7 HS.out m2).2.2.2.2.2.2.1, (cells7 HS.out m2).2.1.1⟩ (fun hHeld => ?_)
    clear hK K
    refine norm_ (a' := ?_) ?_ ?_
    rotate_left
    · show Act.put _ _ _ = _; simp only [Act.put, List.setIfInBounds_toArray, List.set_cons_zero, List.set_cons_succ, i64_w, i32_w]; rfl
    generalize World.alloc _ _ = wa01 at HS hHeld ⊢
    generalize Array.size (World.heap _) = b58 at HS ⊢
    refine two_ (i := 0) (j := 8) (Ni := some 51) (Nj := some 59) #[true, true, true, false, true, true, true, true, false, false, false, false] #[false, true, true, false, true, true, true, true, true, false, false, false] rfl rfl rfl rfl (by kernel_rfl) (by decide) (by decide) ?_ ?_
    · intro K hK
      refine val_ (v := .slice (some ⟨wa01.heap.size, 0, none⟩) 0 0) (w1 := wa01.alloc (.cells #[] 22)) (by rfl) rfl (by go_simp) ?_
      have hs := SL.pk [1] (SL.lit (d := kH) (e := 22) (xs := []) (cs := []) HS.out (fun _ _ _ => Reps.none _ _) (by decide))
      have hs2 := Aside0.mk (SL.tail hs)
      clear HS hs
      have HS := hs2
      clear hs2
      refine hK.out _ _ ⟨(cells7 HS.out m2).2.2.2.2.2.2.1, (cells7 HS.out m2).2.1.1⟩ (fun hHeld => ?_)
      clear hK K
      refine norm_ (a' := ?_) ?_ ?_
      rotate_left
      · show Act.put _ _ _ = _; simp only [Act.put, List.setIfInBounds_toArray, List.set_cons_zero, List.set_cons_succ, i64_w, i32_w]; rfl
      generalize World.alloc _ _ = wa11 at HS hHeld ⊢
      generalize Value.slice (some ⟨_, 0, none⟩) 0 0 = v51 at HS ⊢
      refine two_ (i := 3) (j := 8) (Ni := some 54) (Nj := some 59) #[true, true, true, true, true, true, true, true, false, false, false, false] #[true, true, true, false, true, true, true, true, true, false, false, false] rfl rfl rfl rfl (by kernel_rfl) (by decide) (by decide) ?_ ?_
      · intro K hK
        refine step_appendN kH flat_H (by rfl) (.tmp 51) (.tmp 53) 50 22 (.slice none 0 0) 24 rfl Try.underlying50 infoSl rfl (by decide) (by omega) v51 [] hd A3 y.gaps.length c3 rfl rfl HS.out (refC HS.out m5).2.2.1 (by have := HY.out.gaps; simp only [List.length_nil]; omega) ?_
        intro v2 wa21 hs
        clear HS
        have HS := Aside0.mk hs
        clear hs
        obtain ⟨A7, c7, e7, _⟩ := SL.form HS.out (.head _)
        subst e7
        refine hK.out _ _ ⟨(cells7 HS.out m2).2.2.2.2.2.2.1, (cells7 HS.out m2).2.1.1⟩ (fun hHeld => ?_)
        clear hK K
        refine norm_ (a' := ?_) ?_ ?_
        rotate_left
        · show Act.put _ _ _ = _; simp only [Act.put, List.setIfInBounds_toArray, List.set_cons_zero, List.set_cons_succ, i64_w, i32_w]; rfl
        refine one_ (i := 8) (N := some 59) #[true, true, true, true, true, true, true, true, true, false, false, false] rfl rfl (by kernel_rfl) (by decide) ?_
        intro K hK
        refine val_ (v := .slice (some ⟨wa21.heap.size, 0, none⟩) 1 1) (w1 := wa21.alloc (.cells #[.slice (some ⟨b58, 0, none⟩) 2 2] 22)) (by rfl) rfl (by go_simp) ?_
        have hs := SL.lit (d := kH) (e := 22) (xs := ([⟨some ⟨b58, 0, none⟩, 2, 2⟩] : List Hd)) (cs := [.slice (some ⟨b58, 0, none⟩) 2 2]) HS.out (fun _ _ _ => (Reps.none _ _).snoc rfl rfl) (by show (1 : Nat) ≤ _; decide)
        have hs2 := Aside0.mk (SL.swap (SL.shut_all (l := [_, _]) (SL.pk [0, 1] hs)))
        clear HS hs
        have HS := hs2
        clear hs2
        refine hK.out _ _ ⟨(cells7 HS.out m2).2.2.2.2.2.2.1, (cells7 HS.out m2).2.1.1⟩ (fun hHeld => ?_)
        clear hK K
        refine norm_ (a' := ?_) ?_ ?_
        rotate_left
        · show Act.put _ _ _ = _; simp only [Act.put, List.setIfInBounds_toArray, List.set_cons_zero, List.set_cons_succ, i64_w, i32_w]; rfl
        generalize World.alloc _ _ = wa22 at HS hHeld ⊢
        exact norm_ (by rfl) (hcont ⟨_, _, _, _⟩ _ ⟨_, _, _, _, _, _, rfl, rfl, rfl, hHeld, HS.out⟩)
      · intro K hK
        refine val_ (v := .slice (some ⟨wa11.heap.size, 0, none⟩) 1 1) (w1 := wa11.alloc (.cells #[.slice (some ⟨b58, 0, none⟩) 2 2] 22)) (by rfl) rfl (by go_simp) ?_
        have hs := SL.lit (d := kH) (e := 22) (xs := ([⟨some ⟨b58, 0, none⟩, 2, 2⟩] : List Hd)) (cs := [.slice (some ⟨b58, 0, none⟩) 2 2]) HS.out (fun _ _ _ => (Reps.none _ _).snoc rfl rfl) (by show (1 : Nat) ≤ _; decide)
        have hs2 := Aside0.mk (SL.swap (SL.shut_all (l := [_, _]) (SL.pk [0, 1] hs)))
        clear HS hs
        have HS := hs2
        clear hs2
        refine hK.out _ _ ⟨(cells7 HS.out m2).2.2.2.2.2.2.1, (cells7 HS.out m2).2.1.1⟩ (fun hHeld => ?_)
        clear hK K
        refine norm_ (a' := ?_) ?_ ?_
        rotate_left
        · show Act.put _ _ _ = _; simp only [Act.put, List.setIfInBounds_toArray, List.set_cons_zero, List.set_cons_succ, i64_w, i32_w]; rfl
        generalize World.alloc _ _ = wa12 at HS hHeld ⊢
        refine one_ (i := 3) (N := some 54) #[true, true, true, true, true, true, true, true, true, false, false, false] rfl rfl (by kernel_rfl) (by decide) ?_
        intro K hK
        refine step_appendN kH flat_H (by rfl) (.tmp 51) (.tmp 53) 50 22 (.slice none 0 0) 24 rfl Try.underlying50 infoSl rfl (by decide) (by omega) v51 [] hd A3 y.gaps.length c3 rfl rfl HS.out (refC HS.out m5).2.2.1 (by have := HY.out.gaps; simp only [List.length_nil]; omega) ?_
        intro v2 wa22 hs
        clear HS
        have HS := Aside0.mk hs
        clear hs
        obtain ⟨A7, c7, e7, _⟩ := SL.form HS.out (.head _)
        subst e7
        refine hK.out _ _ ⟨(cells7 HS.out m2).2.2.2.2.2.2.1, (cells7 HS.out m2).2.1.1⟩ (fun hHeld => ?_)
        clear hK K
        refine norm_ (a' := ?_) ?_ ?_
        rotate_left
        · show Act.put _ _ _ = _; simp only [Act.put, List.setIfInBounds_toArray, List.set_cons_zero, List.set_cons_succ, i64_w, i32_w]; rfl
        exact norm_ (by rfl) (hcont ⟨_, _, _, _⟩ _ ⟨_, _, _, _, _, _, rfl, rfl, rfl, hHeld, HS.out⟩)
    · intro K hK
      refine val_ (v := .slice (some ⟨wa01.heap.size, 0, none⟩) 1 1) (w1 := wa01.alloc (.cells #[.slice (some ⟨b58, 0, none⟩) 2 2] 22)) (by rfl) rfl (by go_simp) ?_
      have hs := SL.lit (d := kH) (e := 22) (xs := ([⟨some ⟨b58, 0, none⟩, 2, 2⟩] : List Hd)) (cs := [.slice (some ⟨b58, 0, none⟩) 2 2]) HS.out (fun _ _ _ => (Reps.none _ _).snoc rfl rfl) (by show (1 : Nat) ≤ _; decide)
      have hs2 := Aside0.mk (SL.swap (SL.shut_all (l := [_, _]) (SL.pk [0, 1] hs)))
      clear HS hs
      have HS := hs2
      clear hs2
      refine hK.out _ _ ⟨(cells7 HS.out m2).2.2.2.2.2.2.1, (cells7 HS.out m2).2.1.1⟩ (fun hHeld => ?_)
      clear hK K
      refine norm_ (a' := ?_) ?_ ?_
      rotate_left
      · show Act.put _ _ _ = _; simp only [Act.put, List.setIfInBounds_toArray, List.set_cons_zero, List.set_cons_succ, i64_w, i32_w]; rfl
      generalize World.alloc _ _ = wa02 at HS hHeld ⊢
      refine one_ (i := 0) (N := some 51) #[true, true, true, false, true, true, true, true, true, false, false, false] rfl rfl (by kernel_rfl) (by decide) ?_
      intro K hK
      refine val_ (v := .slice (some ⟨wa02.heap.size, 0, none⟩) 0 0) (w1 := wa02.alloc (.cells #[] 22)) (by rfl) rfl (by go_simp) ?_
      have hs := SL.pk [1] (SL.lit (d := kH) (e := 22) (xs := []) (cs := []) HS.out (fun _ _ _ => Reps.none _ _) (by decide))
      have hs2 := Aside0.mk (SL.tail hs)
      clear HS hs
      have HS := hs2
      clear hs2
      refine hK.out _ _ ⟨(cells7 HS.out m2).2.2.2.2.2.2.1, (cells7 HS.out m2).2.1.1⟩ (fun hHeld => ?_)
      clear hK K
      refine norm_ (a' := ?_) ?_ ?_
      rotate_left
      · show Act.put _ _ _ = _; simp only [Act.put, List.setIfInBounds_toArray, List.set_cons_zero, List.set_cons_succ, i64_w, i32_w]; rfl
      generalize World.alloc _ _ = wa12 at HS hHeld ⊢
      generalize Value.slice (some ⟨_, 0, none⟩) 0 0 = v51 at HS ⊢
      refine one_ (i := 3) (N := some 54) #[true, true, true, true, true, true, true, true, true, false, false, false] rfl rfl (by kernel_rfl) (by decide) ?_
      intro K hK
      refine step_appendN kH flat_H (by rfl) (.tmp 51) (.tmp 53) 50 22 (.slice none 0 0) 24 rfl Try.underlying50 infoSl rfl (by decide) (by omega) v51 [] hd A3 y.gaps.length c3 rfl rfl HS.out (refC HS.out m5).2.2.1 (by have := HY.out.gaps; simp only [List.length_nil]; omega) ?_
      intro v2 wa22 hs
      clear HS
      have HS := Aside0.mk hs
      clear hs
      obtain ⟨A7, c7, e7, _⟩ := SL.form HS.out (.head _)
      subst e7
      refine hK.out _ _ ⟨(cells7 HS.out m2).2.2.2.2.2.2.1, (cells7 HS.out m2).2.1.1⟩ (fun hHeld => ?_)
      clear hK K
      refine norm_ (a' := ?_) ?_ ?_
      rotate_left
      · show Act.put _ _ _ = _; simp only [Act.put, List.setIfInBounds_toArray, List.set_cons_zero, List.set_cons_succ, i64_w, i32_w]; rfl
      exact norm_ (by rfl) (hcont ⟨_, _, _, _⟩ _ ⟨_, _, _, _, _, _, rfl, rfl, rfl, hHeld, HS.out⟩)
theorem dataR_c {w0 W : World} {l : List As} {v : Value} {y : RR} {hd : List Hd} (hy : y.Ok) (x : Int) (hx : 0 ≤ x ∧ x < 16777216) (m : ByteArray) (hl : y.buf.length ≤ 900000) (hi : y.inb.length ≤ 90000) (HS : SL w0 W (RefA v y hd :: l)) :
    Calls Try.prog 28 #[v, .int .i64 x, .string m] W fun e w' => ∃ v' vs hd', e = .returned (.tuple #[v', vs]) ∧ SL w0 w' (RefA v' (dataR y x m).1 hd' :: Row Kd.string 9 vs (dataR y x m).2 :: l) := by
  by_cases h : y.R + toN y.R x ≥ y.MR ∨ hasR y.buf (y.R + toN y.R x) = true
  · have e : dataR y x m = (y, []) := by unfold dataR; rw [if_pos h]
    rw [e]
    exact (dataR_rej hy x hx m h HS).mono fun e w' h => ⟨v, _, hd, h.1, SL.swap (SL.addNil Kd.string 9 h.2)⟩
  · have e : dataR y x m = pullR (keepR y (y.R + toN y.R x) m) := by unfold dataR; rw [if_neg h]
    rw [e]
    obtain ⟨n, hn⟩ : ∃ n, y.R + toN y.R x = n := ⟨_, rfl⟩
    rw [hn] at h ⊢
    have h1 : ¬ n ≥ y.MR := fun e => h (Or.inl e)
    have h2 : hasR y.buf n = false := by
      cases hb : hasR y.buf n with
      | true => exact absurd (Or.inr hb) h
      | false => rfl
    by_cases g1 : n > y.H
    · by_cases g2 : y.gaps.length < 8
      · have e2 : keepR y n m = { y with buf := y.buf ++ [⟨n, m⟩], gaps := y.gaps ++ [[y.H, n]], H := max y.H (n + 1) } := by unfold keepR; rw [if_pos ⟨g1, g2⟩]
        rw [e2]
        exact dataR_gap hy x n hx m hn h1 h2 hl hi ⟨g1, g2⟩ HS
      · have e2 : keepR y n m = { y with buf := y.buf ++ [⟨n, m⟩], gaps := y.gaps, H := max y.H (n + 1) } := by unfold keepR; rw [if_neg (fun e => g2 e.2)]
        rw [e2]
        exact dataR_full hy x n hx m hn h1 h2 hl hi ⟨g1, g2⟩ HS
    · have e2 : keepR y n m = { y with buf := y.buf ++ [⟨n, m⟩], gaps := y.gaps, H := max y.H (n + 1) } := by unfold keepR; rw [if_neg (fun e => g1 e.1)]
      rw [e2]
      exact dataR_in hy x n hx m hn h1 h2 hl hi g1 HS
end Go.Proofs.Ytiiljdglbfgdbaa.Rcv
