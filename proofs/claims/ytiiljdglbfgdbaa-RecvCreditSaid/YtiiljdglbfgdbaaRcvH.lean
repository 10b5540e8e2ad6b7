/- The receiver's methods, eighth part: still. -/
import Derived.Test.YtiiljdglbfgdbaaRcvG
import Derived.Test.YtiiljdglbfgdbaaS0
set_option linter.unusedVariables false
set_option linter.unusedSimpArgs false
namespace Go.Proofs.Ytiiljdglbfgdbaa.Rcv
open Go Go.RowKit Go.Proofs.YtiiljdglbfgdbaaW.PrintWords Go.Proofs.YtiiljdglbfgdbaaW.PrintLast Go.Proofs.YtiiljdglbfgdbaaW.PrintMore Go.Proofs.Ytiiljdglbfgdbaa Go.Proofs.Ytiiljdglbfgdbaa.Sl Go.Proofs.Ytiiljdglbfgdbaa.S Go.Proofs.Ytiiljdglbfgdbaa.SpanTh Go.Proofs.Ytiiljdglbfgdbaa.SpanEv
theorem Miss.len2 {x : RS} {s : List S105} (h : Miss x s) : (s.length : Int) ≤ toN x.r x.h := by
  have h1 := norm_len h.1
  have h2 := rise_len (listL s) 0 (toN x.r x.h) (rise_listL h.1) (fun n hn => ((h.2.2 n).1 ((mem_listL s n).1 hn)).1)
  have : 0 ≤ toN x.r x.h := by unfold toN; omega
  omega
/-- What is missing still of a gap. -/
def StillR (x : RS) (g : Gp) (t : List S105) : Prop := Norm t ∧ Small t ∧ ∀ n, Mem n t ↔ toN x.r g.f1 ≤ toN x.r x.h ∧ (0 ≤ n ∧ n < toN x.r x.h) ∧ (∀ p ∈ x.buf, toN x.r p.1 ≠ n) ∧ toN x.r g.f1 - toN g.f0 g.f1 ≤ n ∧ n < toN x.r g.f1
theorem StillR.both {x : RS} {g : Gp} {s : List S105} (hs : Miss x s) (h : toN x.r g.f1 ≤ toN x.r x.h) : StillR x g (ofL (meets s (ofL [⟨toN x.r g.f1 - toN g.f0 g.f1, toN x.r g.f1⟩]))) := by
  have h1 : Small [(⟨toN x.r g.f1 - toN g.f0 g.f1, toN x.r g.f1⟩ : S105)] := by
    intro y hy
    rw [List.mem_singleton] at hy
    subst hy
    simp only [mostL, toN]
    omega
  obtain ⟨h2, h3, h4⟩ := both_spec hs.2.1 (ofL_small [(⟨toN x.r g.f1 - toN g.f0 g.f1, toN x.r g.f1⟩ : S105)])
  refine ⟨h2, h3, fun n => ?_⟩
  rw [h4, ofL_mem h1, mem_one, hs.2.2]
  exact ⟨fun ⟨⟨a, b⟩, c⟩ => ⟨h, a, b, c⟩, fun ⟨_, a, b, c⟩ => ⟨⟨a, b⟩, c⟩⟩
theorem StillR.far {x : RS} {g : Gp} (h : ¬ toN x.r g.f1 ≤ toN x.r x.h) : StillR x g [] :=
  ⟨norm_nil, fun _ h => (by cases h), fun n => ⟨fun h => absurd h (mem_nil n), fun h1 => absurd h1.1 h⟩⟩
theorem ofL_len1 (y : S105) : (ofL [y]).length ≤ 1 := by
  unfold ofL keptL
  simp only [List.map_cons, List.map_nil, List.filter_cons, List.filter_nil]
  split
  · rw [List.mergeSort_singleton]; exact Nat.le_refl _
  · rw [List.mergeSort_nil]; exact Nat.zero_le _
set_option maxHeartbeats 2000000 in
set_option maxRecDepth 100000 in
theorem still_far {w0 W : World} {l : List As} {b : Nat} {x : RS} (HS : SL w0 W (RecvA b x :: l)) (g : Gp) (h : toN x.r g.f1 > toN x.r x.h) :
    Calls Try.prog 32 #[.pointer (some ⟨b, 0, none⟩), .agg #[.int .u32 g.f0, .int .u32 g.f1]] W fun e w' => e = .returned (.slice none 0 0) ∧ SL w0 w' (RecvA b x :: l) := by
  have hg : decide (toN x.r g.f1 > toN x.r x.h) = true := decide_eq_true h
  clear h
  obtain ⟨bm, Ai, ci, Ag, cg, hci, hcg, h⟩ := RecvA.open_ HS
  have HS := Aside0.mk h
  have hu := Try.underlying73
  have hu2 := Try.underlying76
  clear h hci hcg
  go_enter Try.func32, Try.ntmps32
  go_wp2_with fail
  have hs_ := Aside0.mk (SL.new HS.out #[.int .u32 g.f0, .int .u32 g.f1] 76); clear HS; have HS := hs_; clear hs_
  obtain ⟨⟨q0, z0⟩, ⟨q1, z1⟩, ⟨q2, z2⟩, ⟨q3, z3⟩, ⟨q4, z4⟩, ⟨q5, z5⟩, ⟨q6, z6⟩⟩ := cellsAt (SL.tail HS.out)
  obtain ⟨x0, y0⟩ := SL.cell HS.out (.head _) 0 (v := .int .u32 g.f0) rfl
  obtain ⟨x1, y1⟩ := SL.cell HS.out (.head _) 1 (v := .int .u32 g.f1) rfl
  have HB : W.alloc (.cells #[.int .u32 g.f0, .int .u32 g.f1] 76) = W.alloc (.cells #[.int .u32 g.f0, .int .u32 g.f1] 76) := rfl
  generalize W.alloc (.cells #[.int .u32 g.f0, .int .u32 g.f1] 76) = w1 at *
  clear HB
  go_quiet ((first | (go_at_call 17; with_reducible exact Calls.quiet_of_same (to_c _ _ _))))
  go_wp2_with fail
  have hs_ := Aside0.mk (SL.drewN HS.out nq); clear HS; have HS := hs_; clear hs_
  clear q0 z0 q1 z1 q2 z2 q3 z3 q4 z4 q5 z5 q6 z6 x0 y0 x1 y1
  generalize w1.drewN nq = w2 at *
  obtain ⟨⟨q0, z0⟩, ⟨q1, z1⟩, ⟨q2, z2⟩, ⟨q3, z3⟩, ⟨q4, z4⟩, ⟨q5, z5⟩, ⟨q6, z6⟩⟩ := cellsAt (SL.tail HS.out)
  obtain ⟨x0, y0⟩ := SL.cell HS.out (.head _) 0 (v := .int .u32 g.f0) rfl
  obtain ⟨x1, y1⟩ := SL.cell HS.out (.head _) 1 (v := .int .u32 g.f1) rfl
  go_quiet ((first | (go_at_call 17; with_reducible exact Calls.quiet_of_same (to_c _ _ _))))
  go_wp2
  go_ret
  exact ⟨rfl, RecvA.shut (SL.tail (by (with_reducible repeat (first | apply SL.alloc | apply SL.drewN | apply SL.drew)); exact HS.out))⟩
set_option maxHeartbeats 2000000 in
set_option maxRecDepth 100000 in
theorem still_in {w0 W : World} {l : List As} {b : Nat} {x : RS} (HS : SL w0 W (RecvA b x :: l)) (g : Gp) (h : toN x.r g.f1 ≤ toN x.r x.h) (hh : toN x.r x.h ≤ 64) :
    Calls Try.prog 32 #[.pointer (some ⟨b, 0, none⟩), .agg #[.int .u32 g.f0, .int .u32 g.f1]] W fun e w' => ∃ A' c' t, e = .returned (.slice A' t.length c') ∧ StillR x g t ∧ SL w0 w' (Row k105 105 (.slice A' t.length c') t :: RecvA b x :: l) := by
  have hg : decide (toN x.r g.f1 > toN x.r x.h) = false := decide_eq_false (by omega)
  have HR := fun s hs => StillR.both (x := x) (g := g) (s := s) hs h
  clear h
  obtain ⟨bm, Ai, ci, Ag, cg, hci, hcg, h⟩ := RecvA.open_ HS
  have HS := Aside0.mk h
  have HH := Aside0.mk hh
  have hu := Try.underlying73
  have hu2 := Try.underlying76
  have hu3 := Try.underlying105
  have b1 : 0 ≤ toN x.r g.f1 := by unfold toN; omega
  have b2 : toN x.r g.f1 < 16777216 := by unfold toN; omega
  have b3 : 0 ≤ toN g.f0 g.f1 := by unfold toN; omega
  have b4 : toN g.f0 g.f1 < 16777216 := by unfold toN; omega
  have hwr : wrap64 (toN x.r g.f1 - toN g.f0 g.f1) = toN x.r g.f1 - toN g.f0 g.f1 := by unfold wrap64; omega
  clear h hci hcg hh
  go_enter Try.func32, Try.ntmps32
  go_wp2_with fail
  have hs_ := Aside0.mk (SL.new HS.out #[.int .u32 g.f0, .int .u32 g.f1] 76); clear HS; have HS := hs_; clear hs_
  obtain ⟨⟨q0, z0⟩, ⟨q1, z1⟩, ⟨q2, z2⟩, ⟨q3, z3⟩, ⟨q4, z4⟩, ⟨q5, z5⟩, ⟨q6, z6⟩⟩ := cellsAt (SL.tail HS.out)
  obtain ⟨x0, y0⟩ := SL.cell HS.out (.head _) 0 (v := .int .u32 g.f0) rfl
  obtain ⟨x1, y1⟩ := SL.cell HS.out (.head _) 1 (v := .int .u32 g.f1) rfl
  generalize W.alloc (.cells #[.int .u32 g.f0, .int .u32 g.f1] 76) = w1 at *
  go_quiet ((first | (go_at_call 17; with_reducible exact Calls.quiet_of_same (to_c _ _ _))))
  go_wp2_with fail
  have hs_ := Aside0.mk (SL.drewN HS.out nq); clear HS; have HS := hs_; clear hs_
  clear q0 z0 q1 z1 q2 z2 q3 z3 q4 z4 q5 z5 q6 z6 x0 y0 x1 y1
  generalize w1.drewN nq = w2 at *
  obtain ⟨⟨q0, z0⟩, ⟨q1, z1⟩, ⟨q2, z2⟩, ⟨q3, z3⟩, ⟨q4, z4⟩, ⟨q5, z5⟩, ⟨q6, z6⟩⟩ := cellsAt (SL.tail HS.out)
  obtain ⟨x0, y0⟩ := SL.cell HS.out (.head _) 0 (v := .int .u32 g.f0) rfl
  obtain ⟨x1, y1⟩ := SL.cell HS.out (.head _) 1 (v := .int .u32 g.f1) rfl
  go_quiet ((first | (go_at_call 17; with_reducible exact Calls.quiet_of_same (to_c _ _ _))))
  go_wp2
  have hs_ := Aside0.mk ((show SL w0 w2 (RecvA b x :: Blk W.heap.size #[.int .u32 g.f0, .int .u32 g.f1] 76 :: l) from RecvA.shut (SL.pk [1, 1, 1, 1] HS.out))); clear HS; have HS := hs_; clear hs_
  clear q0 z0 q1 z1 q2 z2 q3 z3 q4 z4 q5 z5 q6 z6
  refine start_ (n := 15) (S := fun w' => w'.cell? ⟨W.heap.size, 0, none⟩ = some (.int .u32 g.f0) ∧ w'.cell? ⟨W.heap.size, 1, none⟩ = some (.int .u32 g.f1)) (ds := []) #[false, false, false, false, false, false, false, false, false, false, false, false, false, false, false] (by kernel_rfl) rfl rfl ⟨x0, x1⟩ (fun hHeld => ?_)
  have hs_ := Aside0.mk (SL.drew (W := w2.drewN nq) (by repeat (first | (with_reducible exact HS.out) | (with_reducible apply SL.alloc) | (with_reducible apply SL.drewN) | (with_reducible apply SL.drew))))
  clear HS
  have HS := hs_
  clear hs_
  generalize (w2.drewN nq : World).drew = W4 at HS hHeld ⊢
  refine pure_ (i := 0) (N := (some 24)) (v := ?_) (a' := ?_) #[true, false, false, false, false, false, false, false, false, false, false, false, false, false, false] rfl rfl (by kernel_rfl) (fun _ _ _ h => h) (Or.inl ⟨by rfl, ?_⟩) ?_ ?_
  rotate_left
  · intro w'; go_simp; with_reducible rfl
  rotate_left
  · simp only [Act.put, List.setIfInBounds_toArray, List.set_cons_zero, List.set_cons_succ, i64_w, i32_w]; rfl
  refine pure_ (i := 2) (N := (some 26)) (v := ?_) (a' := ?_) #[true, false, true, false, false, false, false, false, false, false, false, false, false, false, false] rfl rfl (by kernel_rfl) (fun _ _ _ h => h) (Or.inl ⟨by rfl, ?_⟩) ?_ ?_
  rotate_left
  · intro w'; go_simp; with_reducible rfl
  rotate_left
  · simp only [Act.put, List.setIfInBounds_toArray, List.set_cons_zero, List.set_cons_succ, i64_w, i32_w]; rfl
  refine pure_ (i := 3) (N := (some 27)) (v := ?_) (a' := ?_) #[true, false, true, true, false, false, false, false, false, false, false, false, false, false, false] rfl rfl (by kernel_rfl) (fun _ _ _ h => h) (Or.inl ⟨by rfl, ?_⟩) ?_ ?_
  rotate_left
  · intro w'; go_simp; with_reducible rfl
  rotate_left
  · simp only [Act.put, List.setIfInBounds_toArray, List.set_cons_zero, List.set_cons_succ, i64_w, i32_w]; rfl
  refine pure_ (i := 5) (N := (some 29)) (v := ?_) (a' := ?_) #[true, false, true, true, false, true, false, false, false, false, false, false, false, false, false] rfl rfl (by kernel_rfl) (fun _ _ _ h => h) (Or.inl ⟨by rfl, ?_⟩) ?_ ?_
  rotate_left
  · intro w'; go_simp; with_reducible rfl
  rotate_left
  · simp only [Act.put, List.setIfInBounds_toArray, List.set_cons_zero, List.set_cons_succ, i64_w, i32_w]; rfl
  refine pure_ (i := 9) (N := (some 33)) (v := ?_) (a' := ?_) #[true, false, true, true, false, true, false, false, false, true, false, false, false, false, false] rfl rfl (by kernel_rfl) (fun _ _ _ h => h) (Or.inl ⟨by rfl, ?_⟩) ?_ ?_
  rotate_left
  · intro w'; go_simp; with_reducible rfl
  rotate_left
  · simp only [Act.put, List.setIfInBounds_toArray, List.set_cons_zero, List.set_cons_succ, i64_w, i32_w]; rfl
  refine take_ (i := 4) (N := (some 28)) (v := ?_) (a' := ?_) #[true, false, true, true, true, true, false, false, false, true, false, false, false, false, false] rfl rfl (by kernel_rfl) (fun _ _ _ h => h) (Or.inl ⟨by rfl, ?_⟩) hHeld ?_ ?_
  rotate_left
  · rintro w' ⟨s0, s1⟩; go_simp; with_reducible rfl
  rotate_left
  · simp only [Act.put, List.setIfInBounds_toArray, List.set_cons_zero, List.set_cons_succ, i64_w, i32_w]; rfl
  refine take_ (i := 6) (N := (some 30)) (v := ?_) (a' := ?_) #[true, false, true, true, true, true, true, false, false, true, false, false, false, false, false] rfl rfl (by kernel_rfl) (fun _ _ _ h => h) (Or.inl ⟨by rfl, ?_⟩) hHeld ?_ ?_
  rotate_left
  · rintro w' ⟨s0, s1⟩; go_simp; with_reducible rfl
  rotate_left
  · simp only [Act.put, List.setIfInBounds_toArray, List.set_cons_zero, List.set_cons_succ, i64_w, i32_w]; rfl
  refine one_ (i := 1) (N := (some 25)) #[true, true, true, true, true, true, true, false, false, true, false, false, false, false, false] rfl rfl (by kernel_rfl) (by decide) (fun K hK => ?_)
  refine goes_ Try.func36 (by kernel_rfl) rfl #[.pointer (some ⟨b, 0, none⟩)] (by rfl) rfl rfl (by (try simp only [List.map_toArray, List.map_cons, List.map_nil]); first | done | rfl | (simp only [List.length_drop, List.length_take]; rfl)) ?_
  refine (missing_c HS.out).mono ?_
  rintro e w5 ⟨A5, c5, s5, rfl, hM, hs⟩
  refine ⟨_, rfl, ?_⟩
  have HM := Aside0.mk hM
  clear hM
  have hs2 := Aside0.mk (hs)
  clear HS x0 x1 y0 y1
  have HS := hs2
  clear hs2
  clear hs
  obtain ⟨x0, y0⟩ := SL.cell HS.out (.tail _ (.tail _ (.head _))) 0 (v := .int .u32 g.f0) rfl
  obtain ⟨x1, y1⟩ := SL.cell HS.out (.tail _ (.tail _ (.head _))) 1 (v := .int .u32 g.f1) rfl
  refine hK.out _ _ ⟨x0, x1⟩ (fun hHeld => ?_)
  clear hK K
  refine norm_ (a' := ?_) ?_ ?_
  rotate_left
  · show Act.put _ (some 25) _ = _; simp only [Act.put, List.setIfInBounds_toArray, List.set_cons_zero, List.set_cons_succ, i64_w, i32_w]; rfl
  refine one_ (i := 7) (N := (some 31)) #[true, true, true, true, true, true, true, true, false, true, false, false, false, false, false] rfl rfl (by kernel_rfl) (by decide) (fun K hK => ?_)
  refine goes_ Try.func17 (by kernel_rfl) rfl #[.int .u32 g.f0, .int .u32 g.f1] (by rfl) rfl rfl (by (try simp only [List.map_toArray, List.map_cons, List.map_nil]); first | done | rfl | (simp only [List.length_drop, List.length_take]; rfl)) ?_
  refine (to_c _ _ _).mono ?_
  rintro e w6 ⟨rfl, rfl⟩
  refine ⟨_, rfl, ?_⟩
  refine hK.out _ _ ⟨x0, x1⟩ (fun hHeld => ?_)
  clear hK K
  refine norm_ (a' := ?_) ?_ ?_
  rotate_left
  · show Act.put _ (some 31) _ = _; simp only [Act.put, List.setIfInBounds_toArray, List.set_cons_zero, List.set_cons_succ, i64_w, i32_w]; rfl
  refine pure_ (i := 8) (N := (some 32)) (v := ?_) (a' := ?_) #[true, true, true, true, true, true, true, true, true, true, false, false, false, false, false] rfl rfl (by kernel_rfl) (fun _ _ _ h => h) (Or.inl ⟨by rfl, ?_⟩) ?_ ?_
  rotate_left
  · intro w'; go_simp; with_reducible rfl
  rotate_left
  · simp only [Act.put, List.setIfInBounds_toArray, List.set_cons_zero, List.set_cons_succ, i64_w, i32_w]; rfl
  refine pure_ (i := 10) (N := (some 34)) (v := ?_) (a' := ?_) #[true, true, true, true, true, true, true, true, true, true, true, false, false, false, false] rfl rfl (by kernel_rfl) (fun _ _ _ h => h) (Or.inl ⟨by rfl, ?_⟩) ?_ ?_
  rotate_left
  · intro w'; go_simp; with_reducible rfl
  rotate_left
  · simp only [Act.put, List.setIfInBounds_toArray, List.set_cons_zero, List.set_cons_succ, i64_w, i32_w]; rfl
  refine one_ (i := 11) (N := (some 35)) #[true, true, true, true, true, true, true, true, true, true, true, true, false, false, false] rfl rfl (by kernel_rfl) (by decide) (fun K hK => ?_)
  refine val_ (v := .slice (some ⟨w6.heap.size, 0, none⟩) 1 1) (w1 := w6.alloc (.cells #[.int .i64 (toN x.r g.f1 - toN g.f0 g.f1), .int .i64 (toN x.r g.f1)] 105)) (by rfl) rfl (by go_simp) ?_
  have hs2 := Aside0.mk (SL.lit1 (d := k105) (e := 105) (p := ⟨toN x.r g.f1 - toN g.f0 g.f1, toN x.r g.f1⟩) (cs := [.int .i64 (toN x.r g.f1 - toN g.f0 g.f1), .int .i64 (toN x.r g.f1)]) HS.out (fun W b o => k105_mkM W b o ⟨toN x.r g.f1 - toN g.f0 g.f1, toN x.r g.f1⟩))
  clear HS x0 x1 y0 y1
  have HS := hs2
  clear hs2
  obtain ⟨x0, y0⟩ := SL.cell HS.out (.tail _ (.tail _ (.tail _ (.head _)))) 0 (v := .int .u32 g.f0) rfl
  obtain ⟨x1, y1⟩ := SL.cell HS.out (.tail _ (.tail _ (.tail _ (.head _)))) 1 (v := .int .u32 g.f1) rfl
  refine hK.out _ _ ⟨x0, x1⟩ (fun hHeld => ?_)
  clear hK K
  refine norm_ (a' := ?_) ?_ ?_
  rotate_left
  · show Act.put _ (some 35) _ = _; simp only [Act.put, List.setIfInBounds_toArray, List.set_cons_zero, List.set_cons_succ, i64_w, i32_w]; rfl
  refine one_ (i := 12) (N := (some 36)) #[true, true, true, true, true, true, true, true, true, true, true, true, true, false, false] rfl rfl (by kernel_rfl) (by decide) (fun K hK => ?_)
  refine goes_ Try.func51 (by kernel_rfl) rfl #[.slice (some ⟨w6.heap.size, 0, none⟩) 1 1] (by rfl) rfl rfl (by (try simp only [List.map_toArray, List.map_cons, List.map_nil]); first | done | rfl | (simp only [List.length_drop, List.length_take]; rfl)) ?_
  refine (spanOf_c HS.out (some ⟨w6.heap.size, 0, none⟩) 1 1 [⟨toN x.r g.f1 - toN g.f0 g.f1, toN x.r g.f1⟩] rfl (SL.reads HS.out (.head _)) (Nat.le_refl _) (by decide)).mono ?_
  rintro e w7 ⟨A7, c7, rfl, hs⟩
  refine ⟨_, rfl, ?_⟩
  have hs2 := Aside0.mk (hs)
  clear HS x0 x1 y0 y1
  have HS := hs2
  clear hs2
  clear hs
  obtain ⟨x0, y0⟩ := SL.cell HS.out (.tail _ (.tail _ (.tail _ (.tail _ (.head _))))) 0 (v := .int .u32 g.f0) rfl
  obtain ⟨x1, y1⟩ := SL.cell HS.out (.tail _ (.tail _ (.tail _ (.tail _ (.head _))))) 1 (v := .int .u32 g.f1) rfl
  refine hK.out _ _ ⟨x0, x1⟩ (fun hHeld => ?_)
  clear hK K
  refine norm_ (a' := ?_) ?_ ?_
  rotate_left
  · show Act.put _ (some 36) _ = _; simp only [Act.put, List.setIfInBounds_toArray, List.set_cons_zero, List.set_cons_succ, i64_w, i32_w]; rfl
  refine one_ (i := 13) (N := (some 37)) #[true, true, true, true, true, true, true, true, true, true, true, true, true, true, false] rfl rfl (by kernel_rfl) (by decide) (fun K hK => ?_)
  refine goes_ Try.func50 (by kernel_rfl) rfl #[.slice A5 s5.length c5, .slice A7 (ofL [(⟨toN x.r g.f1 - toN g.f0 g.f1, toN x.r g.f1⟩ : S105)]).length c7] (by rfl) rfl rfl (by (try simp only [List.map_toArray, List.map_cons, List.map_nil]); first | done | rfl | (simp only [List.length_drop, List.length_take]; rfl)) ?_
  refine (spanBoth_c HS.out A5 s5.length c5 s5 A7 _ c7 (ofL [⟨toN x.r g.f1 - toN g.f0 g.f1, toN x.r g.f1⟩]) rfl rfl (SL.reads HS.out (.tail _ (.tail _ (.head _)))) (SL.reads HS.out (.head _)) (SL.cap HS.out (.tail _ (.tail _ (.head _)))) (SL.cap HS.out (.head _)) ?s1 ?s2 ?s3).mono ?_
  case s1 => have := HM.out.len; omega
  case s2 => exact Nat.lt_of_le_of_lt (ofL_len1 _) (by decide)
  case s3 => have h1 := HM.out.len; exact Nat.lt_of_le_of_lt (Nat.mul_le_mul h1 (ofL_len1 _)) (by decide)
  rintro e w8 ⟨A8, c8, rfl, hs⟩
  refine ⟨_, rfl, ?_⟩
  have hs2 := Aside0.mk (hs)
  clear HS x0 x1 y0 y1
  have HS := hs2
  clear hs2
  clear hs
  obtain ⟨x0, y0⟩ := SL.cell HS.out (.tail _ (.tail _ (.tail _ (.tail _ (.tail _ (.head _)))))) 0 (v := .int .u32 g.f0) rfl
  obtain ⟨x1, y1⟩ := SL.cell HS.out (.tail _ (.tail _ (.tail _ (.tail _ (.tail _ (.head _)))))) 1 (v := .int .u32 g.f1) rfl
  refine hK.out _ _ ⟨x0, x1⟩ (fun hHeld => ?_)
  clear hK K
  refine norm_ (a' := ?_) ?_ ?_
  rotate_left
  · show Act.put _ (some 37) _ = _; simp only [Act.put, List.setIfInBounds_toArray, List.set_cons_zero, List.set_cons_succ, i64_w, i32_w]; rfl
  refine pure_ (i := 14) (N := (some 4)) (v := ?_) (a' := ?_) #[true, true, true, true, true, true, true, true, true, true, true, true, true, true, true] rfl rfl (by kernel_rfl) (fun _ _ _ h => h) (Or.inl ⟨by rfl, ?_⟩) ?_ ?_
  rotate_left
  · intro w'; go_simp; with_reducible rfl
  rotate_left
  · simp only [Act.put, List.setIfInBounds_toArray, List.set_cons_zero, List.set_cons_succ, i64_w, i32_w]; rfl
  refine done_ (by kernel_rfl) ?_
  go_wp2
  go_ret
  exact ⟨_, _, _, rfl, HR _ HM.out, SL.sub HS.out (.cons_cons _ (.cons _ (.cons _ (.cons _ (.cons_cons _ (.cons _ (List.Sublist.refl _)))))))⟩
/-- still. -/
theorem still_c {w0 W : World} {l : List As} {b : Nat} {x : RS} (HS : SL w0 W (RecvA b x :: l)) (g : Gp) (hh : toN x.r x.h ≤ 64) :
    Calls Try.prog 32 #[.pointer (some ⟨b, 0, none⟩), .agg #[.int .u32 g.f0, .int .u32 g.f1]] W fun e w' => ∃ A' c' t, e = .returned (.slice A' t.length c') ∧ StillR x g t ∧ SL w0 w' (Row k105 105 (.slice A' t.length c') t :: RecvA b x :: l) := by
  by_cases h : toN x.r g.f1 ≤ toN x.r x.h
  · exact still_in HS g h hh
  · refine (still_far HS g (by omega)).mono ?_
    rintro e w' ⟨rfl, hs⟩
    exact ⟨none, 0, [], rfl, StillR.far h, SL.addNil _ _ hs⟩
end Go.Proofs.Ytiiljdglbfgdbaa.Rcv
