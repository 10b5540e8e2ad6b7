/- The receiver's methods, tenth part: Gap. -/
import Derived.Test.YtiiljdglbfgdbaaRcvI
import Derived.Test.YtiiljdglbfgdbaaS0
set_option linter.unusedVariables false
set_option linter.unusedSimpArgs false
namespace Go.Proofs.Ytiiljdglbfgdbaa.Rcv
open Go Go.RowKit Go.Proofs.YtiiljdglbfgdbaaW.PrintWords Go.Proofs.YtiiljdglbfgdbaaW.PrintLast Go.Proofs.YtiiljdglbfgdbaaW.PrintMore Go.Proofs.Ytiiljdglbfgdbaa Go.Proofs.Ytiiljdglbfgdbaa.Sl Go.Proofs.Ytiiljdglbfgdbaa.S Go.Proofs.Ytiiljdglbfgdbaa.SpanTh Go.Proofs.Ytiiljdglbfgdbaa.SpanEv
theorem at_G {w : World} {A : Option Addr} {n : Nat} {g : Gp} {gs : List Gp} (h : kG.C w A n (g :: gs)) (h1 : (0 : Int) < n) : ∃ ad, A = some ad ∧ w.cell? ad = some (.int .u32 g.f0) ∧ w.cell? ⟨ad.block, ad.off + 1, none⟩ = some (.int .u32 g.f1) := by
  obtain ⟨ad, c, e, _, hK, hc0⟩ := Kd.C_get h g 0 (Int.le_refl _) h1
  have hc : ∀ j u, c[j]? = some u → w.cell? (ad.add (0 * 2 + j)) = some u := hc0
  obtain rfl := kG_open hK
  have e1 := hc 0 _ rfl
  have e2 := hc 1 _ rfl
  rw [add_field _ _ 1 (by omega)] at e2
  simp only [Nat.zero_mul, Nat.add_zero, Int.toNat_zero, List.getD_cons_zero] at e1 e2
  have ea : ad.add 0 = ad := by cases ad; rfl
  rw [ea] at e1 e2
  exact ⟨ad, e, e1, e2⟩
theorem infoP : (Try.prog.info? 105).map (fun i => (i.zero, i.size, i.bytes)) = some (some (.agg #[.int .i64 0, .int .i64 0]), 2, 16) := by kernel_rfl
theorem row_tail {α : Type} {d : Kd α} {e n c : Nat} {w0 W : World} {l : List As} {A A2 : Option Addr} {y : α} {ys : List α} (h : SL w0 W (Row d e (.slice A n c) (y :: ys) :: l)) (hA : A2 = if c = 1 then A else A.map (·.add (1 * d.sz))) (hn : n = ys.length + 1) : SL w0 W (Row d e (.slice A2 ys.length (c - 1)) ys :: l) := by
  subst hA
  subst hn
  exact SL.row_drop (m := 1) h (by simp)
set_option maxHeartbeats 2000000 in
set_option maxRecDepth 100000 in
theorem gap_c {w0 W : World} {l : List As} {b : Nat} {x : RS} (hx : x.Ok) (hh : toN x.r x.h ≤ 64) (HS : SL w0 W (RecvA b x :: l)) :
    Calls Try.prog 15 #[.pointer (some ⟨b, 0, none⟩)] W fun e w' =>
      (e = .returned (.tuple #[.slice none 0 0, .int .u32 0, .int .u32 0, .bool false]) ∧ (∀ g ∈ x.gaps, StillR x g []) ∧ SL w0 w' (RecvA b { x with gaps := [] } :: l)) ∨
      (∃ pre g post v s0 t, x.gaps = pre ++ g :: post ∧ (∀ g ∈ pre, StillR x g []) ∧ StillR x g (s0 :: t) ∧ e = .returned (.tuple #[v, .int .u32 x.r, .int .u32 (renewF x).mr, .bool true]) ∧ SL w0 w' (Row (Kd.int .u32) 27 v (pairsOf x.r (cutH [s0])) :: RecvA b (renewF { x with gaps := post }) :: l)) := by
  obtain ⟨i0, hi, hzz⟩ := Option.map_eq_some_iff.1 infoG
  simp only [Prod.mk.injEq] at hzz
  obtain ⟨i1, hi1, hz1⟩ := Option.map_eq_some_iff.1 infoP
  have hsl : ∀ (A : Option Addr) (n c : Nat), 0 < n → ∃ A2, ∀ W, (Instr.slice 71 (.slice A n c) (some (.int .i64 1)) none none).run Try.prog W = .ok (.slice A2 (n - 1) (c - 1)) W ∧ A2 = (if c = 1 then A else A.map (·.add (1 * 2))) := fun A n c hn => ⟨_, fun W => ⟨cut_from 71 76 .i64 Try.underlying71 hi 2 hzz.2.1 A n c 1 (by omega) (by omega) W, rfl⟩⟩
  have hsp : ∀ (A : Option Addr) (n c : Nat), 0 < n → n ≤ c → ∀ W, (Instr.slice 79 (.slice A n c) none (some (.int .i64 1)) none).run Try.prog W = .ok (.slice A 1 c) W := fun A n c hn hc W => cut_to 79 105 .i64 Try.underlying79 hi1 A n c 1 (by omega) (by omega) hc W
  have HL := Aside0.mk hsl
  have HP := Aside0.mk hsp
  have HX := Aside0.mk hx
  have HH := Aside0.mk hh
  have HS := Aside0.mk HS
  have hu := Try.underlying73
  have hu2 := Try.underlying76
  clear hx hh hi hzz i0 hi1 hz1 i1 hsl hsp
  go_enter Try.func15, Try.ntmps15
  go_wp2
  go_loopg [] x.gaps.length (fun kq wr => ∃ (pre post : List Gp), Aside0 (post.length = kq) ∧ Aside0 (x.gaps = pre ++ post) ∧ Aside0 (∀ g ∈ pre, StillR x g []) ∧ Aside0 (SL w0 wr (RecvA b { x with gaps := post } :: l)))
  case atStart => exact ⟨[], x.gaps, ⟨rfl⟩, ⟨rfl⟩, ⟨fun _ h => by cases h⟩, HS⟩
  case round =>
    clear HS
    obtain ⟨pre, post, HK, HE, HN, HS⟩ := hrel
    cases post with
    | nil =>
      have HE2 := HE.out
      rw [List.append_nil] at HE2
      have HN2 := Aside0.mk (HE2 ▸ HN.out)
      clear HE2 HE HN
      obtain ⟨bm, Ai, ci, Ag, cg, hci, hcg, h⟩ := RecvA.open_ HS.out
      have HS := Aside0.mk h
      clear h hci hcg
      obtain ⟨⟨q0, z0⟩, ⟨q1, z1⟩, ⟨q2, z2⟩, ⟨q3, z3⟩, ⟨q4, z4⟩, ⟨q5, z5⟩, ⟨q6, z6⟩⟩ := cellsAt HS.out
      go_wp2
      ((try simp only [Exit.inBlock, Exit.then]); refine bodyPost_ret (results_t4 rfl _ _ _) rfl ?_)
      exact Or.inl ⟨rfl, HN2.out, RecvA.shut (by (with_reducible repeat (first | apply SL.alloc | apply SL.drewN | apply SL.drew)); exact HS.out)⟩
    | cons g post =>
      obtain ⟨bm, Ai, ci, Ag, cg, hci, hcg, h⟩ := RecvA.open_ HS.out
      have HS2 := Aside0.mk h
      have HS1 := HS
      clear HS h hci hcg
      have HS := HS2
      clear HS2
      obtain ⟨⟨q0, z0⟩, ⟨q1, z1⟩, ⟨q2, z2⟩, ⟨q3, z3⟩, ⟨q4, z4⟩, ⟨q5, z5⟩, ⟨q6, z6⟩⟩ := cellsAt HS.out
      have p1 : (0 : Int) < ((g :: post).length : Int) := by simp only [List.length_cons]; omega
      have p2 : decide ((0 : Int) < ((g :: post).length : Int)) = true := decide_eq_true p1
      have p3 : (0 : Nat) < (g :: post).length := by simp only [List.length_cons]; omega
      obtain ⟨ad, rfl, hg0, hg1⟩ := at_G (SL.reads HS.out (.tail _ (.tail _ (.tail _ (.head _))))) p1
      go_wp2_with fail
      refine (still_c (x := { x with gaps := g :: post }) (RecvA.shut HS.out) g HH.out).mono ?_
      rintro e w1 ⟨A6, c6, t, rfl, hT, hs⟩
      have HT := Aside0.mk (show StillR x g t from hT)
      have HC6 := Aside0.mk (SL.cap hs (.head _))
      clear HS hT hg0 hg1 q0 q1 q2 q3 q4 q5 q6 z0 z1 z2 z3 z4 z5 z6
      obtain ⟨bm1, Ai1, ci1, Ag1, cg1, hci, hcg, h⟩ := RecvA.open_ (SL.swap hs)
      have HS := Aside0.mk h
      clear hs h hci hcg
      obtain ⟨A2, hA2⟩ := HL.out Ag1 (g :: post).length cg1 p3
      have hs2 : ∀ W, (Instr.slice 71 (.slice Ag1 (post.length + 1) cg1) (some (.int .i64 1)) none none).run Try.prog W = .ok (.slice A2 post.length (cg1 - 1)) W := fun W => (hA2 W).1
      have HA2 := Aside0.mk (hA2 w1).2
      clear hA2
      have h2 := SL.set (cs' := cellsR { x with gaps := post } bm1 (.slice Ai1 x.inb.length ci1) (.slice A2 post.length (cg1 - 1))) HS.out 6 (.slice A2 post.length (cg1 - 1)) rfl
      have h3 := row_tail (SL.pk [3] h2) HA2.out rfl
      have HB := Aside0.mk (show SL w0 _ (RecvA b { x with gaps := post } :: Row k105 105 (.slice A6 t.length c6) t :: l) from RecvA.shut (SL.pk [1, 1, 1, 0] h3))
      clear h2 h3
      obtain ⟨⟨q0, z0⟩, ⟨q1, z1⟩, ⟨q2, z2⟩, ⟨q3, z3⟩, ⟨q4, z4⟩, ⟨q5, z5⟩, ⟨q6, z6⟩⟩ := cellsAt HS.out
      cases t with
      | nil =>
        go_wp2
        have HS2 := HB
        clear HS HB
        go_roundg post.length
        case measure => have := HK.out; simp only [List.length_cons] at this; omega
        case rel => exact ⟨pre ++ [g], post, ⟨rfl⟩, ⟨by rw [HE.out, List.append_assoc]; rfl⟩, ⟨fun y hy => (List.mem_append.1 hy).elim (HN.out y) (fun h => by rw [List.mem_singleton] at h; subst h; exact HT.out)⟩, ⟨SL.sub HS2.out (.cons_cons _ (.cons _ (List.Sublist.refl _)))⟩⟩
      | cons s0 t =>
        have hs3 : ∀ W, (Instr.slice 79 (.slice A6 (t.length + 1) c6) none (some (.int .i64 1)) none).run Try.prog W = .ok (.slice A6 1 c6) W := HP.out A6 (t.length + 1) c6 (Nat.succ_pos _) HC6.out
        have p4 : decide (0 < t.length + 1) = true := decide_eq_true (Nat.succ_pos _)
        have p5 : decide ((0 : Int) < ((t.length : Int) + 1)) = true := decide_eq_true (by omega)
        go_wp2_with fail
        clear HS q0 q1 q2 q3 q4 q5 q6 z0 z1 z2 z3 z4 z5 z6
        have hok : RS.Ok { x with gaps := post } := ⟨HX.out.r, HX.out.h, HX.out.mr, HX.out.win, HX.out.buf, HX.out.inb, by have h7 := HX.out.gaps; have h8 := HE.out; rw [h8, List.length_append, List.length_cons] at h7; show post.length ≤ 8; omega⟩
        refine (renew_c hok HB.out).mono ?_
        rintro e w2 ⟨rfl, hs⟩
        obtain ⟨bm2, Ai2, ci2, Ag2, cg2, hci, hcg, h⟩ := RecvA.open_ hs
        have HS := Aside0.mk h
        clear hs h hci hcg HB hok
        obtain ⟨⟨q0, z0⟩, ⟨q1, z1⟩, ⟨q2, z2⟩, ⟨q3, z3⟩, ⟨q4, z4⟩, ⟨q5, z5⟩, ⟨q6, z6⟩⟩ := cellsAt HS.out
        go_wp2_with fail
        refine start_ (n := 19) (S := fun w' => w'.cell? ⟨b, 0, none⟩ = some (.int .u32 x.r) ∧ w'.cell? ⟨b, 2, none⟩ = some (.int .u32 (renewF x).mr)) (ds := []) #[false, false, false, false, false, false, false, false, false, false, false, false, false, false, false, false, false, false, false] (by kernel_rfl) rfl rfl ⟨q0, q2⟩ (fun hHeld => ?_)
        have hs_ := Aside0.mk (SL.drew (W := w2) (by repeat (first | (with_reducible exact HS.out) | (with_reducible apply SL.alloc) | (with_reducible apply SL.drewN) | (with_reducible apply SL.drew))))
        clear HS
        have HS := hs_
        clear hs_
        generalize (w2 : World).drew = W4 at HS hHeld q0 q1 q2 q3 q4 q5 q6 z0 z1 z2 z3 z4 z5 z6 ⊢
        refine pure_ (i := 0) (N := (some 34)) (v := ?_) (a' := ?_) #[true, false, false, false, false, false, false, false, false, false, false, false, false, false, false, false, false, false, false] rfl rfl (by kernel_rfl) (fun _ _ _ h => h) (Or.inl ⟨by rfl, ?_⟩) ?_ ?_
        rotate_left
        · intro w'; go_simp; with_reducible rfl
        rotate_left
        · simp only [Act.put, List.setIfInBounds_toArray, List.set_cons_zero, List.set_cons_succ, i64_w, i32_w]; rfl
        refine pure_ (i := 1) (N := (some 35)) (v := ?_) (a' := ?_) #[true, true, false, false, false, false, false, false, false, false, false, false, false, false, false, false, false, false, false] rfl rfl (by kernel_rfl) (fun _ _ _ h => h) (Or.inl ⟨by rfl, ?_⟩) ?_ ?_
        rotate_left
        · intro w'; go_simp; with_reducible rfl
        rotate_left
        · simp only [Act.put, List.setIfInBounds_toArray, List.set_cons_zero, List.set_cons_succ, i64_w, i32_w]; rfl
        refine pure_ (i := 2) (N := (some 36)) (v := ?_) (a' := ?_) #[true, true, true, false, false, false, false, false, false, false, false, false, false, false, false, false, false, false, false] rfl rfl (by kernel_rfl) (fun _ _ _ h => h) (Or.inl ⟨by rfl, ?_⟩) ?_ ?_
        rotate_left
        · intro w'; go_simp; with_reducible rfl
        rotate_left
        · simp only [Act.put, List.setIfInBounds_toArray, List.set_cons_zero, List.set_cons_succ, i64_w, i32_w]; rfl
        refine pure_ (i := 4) (N := (some 38)) (v := ?_) (a' := ?_) #[true, true, true, false, true, false, false, false, false, false, false, false, false, false, false, false, false, false, false] rfl rfl (by kernel_rfl) (fun _ _ _ h => h) (Or.inl ⟨by rfl, ?_⟩) ?_ ?_
        rotate_left
        · intro w'; go_simp; with_reducible rfl
        rotate_left
        · simp only [Act.put, List.setIfInBounds_toArray, List.set_cons_zero, List.set_cons_succ, i64_w, i32_w]; rfl
        refine pure_ (i := 7) (N := (some 41)) (v := ?_) (a' := ?_) #[true, true, true, false, true, false, false, true, false, false, false, false, false, false, false, false, false, false, false] rfl rfl (by kernel_rfl) (fun _ _ _ h => h) (Or.inl ⟨by rfl, ?_⟩) ?_ ?_
        rotate_left
        · intro w'; go_simp; with_reducible rfl
        rotate_left
        · simp only [Act.put, List.setIfInBounds_toArray, List.set_cons_zero, List.set_cons_succ, i64_w, i32_w]; rfl
        refine pure_ (i := 8) (N := (some 42)) (v := ?_) (a' := ?_) #[true, true, true, false, true, false, false, true, true, false, false, false, false, false, false, false, false, false, false] rfl rfl (by kernel_rfl) (fun _ _ _ h => h) (Or.inl ⟨by rfl, ?_⟩) ?_ ?_
        rotate_left
        · intro w'; go_simp; with_reducible rfl
        rotate_left
        · simp only [Act.put, List.setIfInBounds_toArray, List.set_cons_zero, List.set_cons_succ, i64_w, i32_w]; rfl
        refine pure_ (i := 9) (N := (some 43)) (v := ?_) (a' := ?_) #[true, true, true, false, true, false, false, true, true, true, false, false, false, false, false, false, false, false, false] rfl rfl (by kernel_rfl) (fun _ _ _ h => h) (Or.inl ⟨by rfl, ?_⟩) ?_ ?_
        rotate_left
        · intro w'; go_simp; with_reducible rfl
        rotate_left
        · simp only [Act.put, List.setIfInBounds_toArray, List.set_cons_zero, List.set_cons_succ, i64_w, i32_w]; rfl
        refine pure_ (i := 11) (N := (some 45)) (v := ?_) (a' := ?_) #[true, true, true, false, true, false, false, true, true, true, false, true, false, false, false, false, false, false, false] rfl rfl (by kernel_rfl) (fun _ _ _ h => h) (Or.inl ⟨by rfl, ?_⟩) ?_ ?_
        rotate_left
        · intro w'; go_simp; with_reducible rfl
        rotate_left
        · simp only [Act.put, List.setIfInBounds_toArray, List.set_cons_zero, List.set_cons_succ, i64_w, i32_w]; rfl
        refine pure_ (i := 12) (N := (some 46)) (v := ?_) (a' := ?_) #[true, true, true, false, true, false, false, true, true, true, false, true, true, false, false, false, false, false, false] rfl rfl (by kernel_rfl) (fun _ _ _ h => h) (Or.inl ⟨by rfl, ?_⟩) ?_ ?_
        rotate_left
        · intro w'; go_simp; with_reducible rfl
        rotate_left
        · simp only [Act.put, List.setIfInBounds_toArray, List.set_cons_zero, List.set_cons_succ, i64_w, i32_w]; rfl
        refine pure_ (i := 13) (N := (some 47)) (v := ?_) (a' := ?_) #[true, true, true, false, true, false, false, true, true, true, false, true, true, true, false, false, false, false, false] rfl rfl (by kernel_rfl) (fun _ _ _ h => h) (Or.inl ⟨by rfl, ?_⟩) ?_ ?_
        rotate_left
        · intro w'; go_simp; with_reducible rfl
        rotate_left
        · simp only [Act.put, List.setIfInBounds_toArray, List.set_cons_zero, List.set_cons_succ, i64_w, i32_w]; rfl
        refine take_ (i := 3) (N := (some 37)) (v := ?_) (a' := ?_) #[true, true, true, true, true, false, false, true, true, true, false, true, true, true, false, false, false, false, false] rfl rfl (by kernel_rfl) (fun _ _ _ h => h) (Or.inl ⟨by rfl, ?_⟩) hHeld ?_ ?_
        rotate_left
        · rintro w' ⟨s0, s1⟩; go_simp; with_reducible rfl
        rotate_left
        · simp only [Act.put, List.setIfInBounds_toArray, List.set_cons_zero, List.set_cons_succ, i64_w, i32_w]; rfl
        refine take_ (i := 10) (N := (some 44)) (v := ?_) (a' := ?_) #[true, true, true, true, true, false, false, true, true, true, true, true, true, true, false, false, false, false, false] rfl rfl (by kernel_rfl) (fun _ _ _ h => h) (Or.inl ⟨by rfl, ?_⟩) hHeld ?_ ?_
        rotate_left
        · rintro w' ⟨s0, s1⟩; go_simp; with_reducible rfl
        rotate_left
        · simp only [Act.put, List.setIfInBounds_toArray, List.set_cons_zero, List.set_cons_succ, i64_w, i32_w]; rfl
        refine take_ (i := 14) (N := (some 48)) (v := ?_) (a' := ?_) #[true, true, true, true, true, false, false, true, true, true, true, true, true, true, true, false, false, false, false] rfl rfl (by kernel_rfl) (fun _ _ _ h => h) (Or.inl ⟨by rfl, ?_⟩) hHeld ?_ ?_
        rotate_left
        · rintro w' ⟨s0, s1⟩; go_simp; with_reducible rfl
        rotate_left
        · simp only [Act.put, List.setIfInBounds_toArray, List.set_cons_zero, List.set_cons_succ, i64_w, i32_w]; rfl
        refine one_ (i := 5) (N := (some 39)) #[true, true, true, true, true, true, false, true, true, true, true, true, true, true, true, false, false, false, false] rfl rfl (by kernel_rfl) (by decide) (fun K hK => ?_)
        refine val_ (v := .slice A6 1 c6) (w1 := W4) (by rfl) rfl (by go_simp) ?_
        refine hK.out _ _ hHeld (fun hHeld => ?_)
        clear hK K
        refine norm_ (a' := ?_) ?_ ?_
        rotate_left
        · show Act.put _ (some 39) _ = _; simp only [Act.put, List.setIfInBounds_toArray, List.set_cons_zero, List.set_cons_succ, i64_w, i32_w]; rfl
        refine one_ (i := 6) (N := (some 40)) #[true, true, true, true, true, true, true, true, true, true, true, true, true, true, true, false, false, false, false] rfl rfl (by kernel_rfl) (by decide) (fun K hK => ?_)
        refine goes_ Try.func34 (by kernel_rfl) rfl #[.int .u32 x.r, .slice A6 1 c6] (by rfl) rfl rfl (by (try simp only [List.map_toArray, List.map_cons, List.map_nil]); first | done | rfl | (simp only [List.length_drop, List.length_take]; rfl)) ?_
        refine (list_c HS.out x.r A6 1 c6 [s0] rfl (by have h9 := SL.reads_take (m := 1) HS.out (.tail _ (.tail _ (.tail _ (.tail _ (.head _))))) (by simp); exact h9) (by have := HC6.out; simp only [List.length_cons] at this; omega) (by decide)).mono ?_
        rintro e w9 ⟨v9, rfl, hs⟩
        refine ⟨_, rfl, ?_⟩
        clear HS q0 q1 q2 q3 q4 q5 q6 z0 z1 z2 z3 z4 z5 z6
        have HS := Aside0.mk hs
        clear hs
        obtain ⟨⟨q0, z0⟩, ⟨q1, z1⟩, ⟨q2, z2⟩, ⟨q3, z3⟩, ⟨q4, z4⟩, ⟨q5, z5⟩, ⟨q6, z6⟩⟩ := cellsAt (SL.tail HS.out)
        refine hK.out _ _ ⟨q0, q2⟩ (fun hHeld => ?_)
        clear hK K
        refine norm_ (a' := ?_) ?_ ?_
        rotate_left
        · show Act.put _ (some 40) _ = _; simp only [Act.put, List.setIfInBounds_toArray, List.set_cons_zero, List.set_cons_succ, i64_w, i32_w]; rfl
        refine pure_ (i := 15) (N := (some 2)) (v := ?_) (a' := ?_) #[true, true, true, true, true, true, true, true, true, true, true, true, true, true, true, true, false, false, false] rfl rfl (by kernel_rfl) (fun _ _ _ h => h) (Or.inl ⟨by rfl, ?_⟩) ?_ ?_
        rotate_left
        · intro w'; go_simp; with_reducible rfl
        rotate_left
        · simp only [Act.put, List.setIfInBounds_toArray, List.set_cons_zero, List.set_cons_succ, i64_w, i32_w]; rfl
        refine pure_ (i := 16) (N := (some 3)) (v := ?_) (a' := ?_) #[true, true, true, true, true, true, true, true, true, true, true, true, true, true, true, true, true, false, false] rfl rfl (by kernel_rfl) (fun _ _ _ h => h) (Or.inl ⟨by rfl, ?_⟩) ?_ ?_
        rotate_left
        · intro w'; go_simp; with_reducible rfl
        rotate_left
        · simp only [Act.put, List.setIfInBounds_toArray, List.set_cons_zero, List.set_cons_succ, i64_w, i32_w]; rfl
        refine pure_ (i := 17) (N := (some 4)) (v := ?_) (a' := ?_) #[true, true, true, true, true, true, true, true, true, true, true, true, true, true, true, true, true, true, false] rfl rfl (by kernel_rfl) (fun _ _ _ h => h) (Or.inl ⟨by rfl, ?_⟩) ?_ ?_
        rotate_left
        · intro w'; go_simp; with_reducible rfl
        rotate_left
        · simp only [Act.put, List.setIfInBounds_toArray, List.set_cons_zero, List.set_cons_succ, i64_w, i32_w]; rfl
        refine pure_ (i := 18) (N := (some 5)) (v := ?_) (a' := ?_) #[true, true, true, true, true, true, true, true, true, true, true, true, true, true, true, true, true, true, true] rfl rfl (by kernel_rfl) (fun _ _ _ h => h) (Or.inl ⟨by rfl, ?_⟩) ?_ ?_
        rotate_left
        · intro w'; go_simp; with_reducible rfl
        rotate_left
        · simp only [Act.put, List.setIfInBounds_toArray, List.set_cons_zero, List.set_cons_succ, i64_w, i32_w]; rfl
        refine done_ (by kernel_rfl) ?_
        go_wp2
        ((try simp only [Exit.inBlock, Exit.then]); refine bodyPost_ret (results_t4 rfl _ _ _) rfl ?_)
        exact Or.inr ⟨pre, g, post, _, s0, t, HE.out, HN.out, HT.out, rfl, SL.sub (show SL w0 w9 (Row (Kd.int .u32) 27 v9 (pairsOf x.r (cutH [s0])) :: RecvA b (renewF { x with gaps := post }) :: Row k105 105 (.slice A6 (s0 :: t).length c6) (s0 :: t) :: l) from SL.swap (RecvA.shut (SL.pk [1, 1, 1, 1] HS.out))) (.cons_cons _ (.cons_cons _ (.cons _ (List.Sublist.refl _))))⟩
end Go.Proofs.Ytiiljdglbfgdbaa.Rcv
