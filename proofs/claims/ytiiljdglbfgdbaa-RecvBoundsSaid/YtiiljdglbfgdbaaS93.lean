/- RecvBounds: the walk. -/
import Derived.Test.YtiiljdglbfgdbaaRcvX

set_option linter.unusedVariables false
set_option linter.unusedSimpArgs false
namespace Go.Proofs.Ytiiljdglbfgdbaa.S
open Go Go.RowKit Go.Proofs.YtiiljdglbfgdbaaW.PrintWords Go.Proofs.YtiiljdglbfgdbaaW.PrintLast Go.Proofs.YtiiljdglbfgdbaaW.PrintMore Go.Proofs.Ytiiljdglbfgdbaa Go.Proofs.Ytiiljdglbfgdbaa.Sl Go.Proofs.Ytiiljdglbfgdbaa.SpanTh Go.Proofs.Ytiiljdglbfgdbaa.SpanEv Go.Proofs.Ytiiljdglbfgdbaa.Rcv
theorem polliwoglaw12_RecvBounds.facts {s : Int} {k : Nat} {x' : RS} {y' : RR} {ww : Int} (h : Sim s k x' y') (hw : y'.W = ww) : toN x'.r x'.h = y'.H - y'.R ∧ toN x'.r x'.mr = y'.MR - y'.R ∧ decide (y'.H - y'.R > y'.MR - y'.R) = false ∧ decide (y'.MR - y'.R > ww) = false ∧ wrap64 ((x'.buf.length : Int) + (x'.inb.length : Int)) = (x'.buf.length : Int) + (x'.inb.length : Int) ∧ decide ((x'.buf.length : Int) + (x'.inb.length : Int) > ww) = false ∧ decide ((x'.gaps.length : Int) > 8) = false ∧ decide ((x'.buf.length : Int) > y'.H - y'.R) = false := by
  have hb := h.bufl
  have hrh := h.rh
  have hhm := h.hm
  have hcr := h.cred
  have hsp := h.span
  have hgl := h.gl
  have hww := h.w
  have hbl : x'.buf.length = y'.buf.length := by rw [h.buf, List.length_map]
  have hil : x'.inb.length = y'.inb.length := by rw [h.inb]
  have hgn : x'.gaps.length = y'.gaps.length := h.glen
  refine ⟨by rw [h.r, h.h, to_low, to_fwd (by omega) (by omega)], by rw [h.r, h.mr, to_low, to_fwd (by omega) (by omega)], decide_eq_false (by omega), decide_eq_false (by omega), by unfold wrap64; omega, decide_eq_false (by omega), decide_eq_false (by omega), decide_eq_false (by omega)⟩
set_option maxHeartbeats 8000000 in
set_option maxRecDepth 100000 in
theorem polliwoglaw12_RecvBounds.walk (a0 a1 : Int) (A : Option Addr) (c : Nat) (l : List S57) (w : World) (hr : k57.C w A l.length l) (hc : l.length ≤ c) (h0 : -9223372036854775808 ≤ a0 ∧ a0 ≤ 9223372036854775807) (hg : ∀ x ∈ l, -9223372036854775808 ≤ x.f1 ∧ x.f1 ≤ 9223372036854775807) :
    Calls Try.prog 7 #[.int .i64 a0, .int .i64 a1, .slice A l.length c] w fun e w' => e = .returned (.bool true) ∧ Below w.heap.size w w' := by
  have HS := Aside0.mk (SL.start w)
  have HR0 := Aside0.mk hr
  have HC0 := Aside0.mk hc
  have HG0 := Aside0.mk hg
  have H00 := Aside0.mk h0
  have HLO : Aside0 (lowN (lowN a0) = lowN a0) := ⟨by unfold lowN; omega⟩
  have hu := Try.underlying52
  have hu2 := Try.underlying57
  have hu3 := Try.underlying36
  clear hr hc hg h0
  go_enter Try.func7, Try.ntmps7
  go_wp2_with (first
    | (go_at_call 10; (with_reducible refine (awake_c HS.out).mono ?_); rintro e w1 ⟨rfl, hs⟩; have hs2 := Aside0.mk hs; clear HS hs; have HS := hs2; clear hs2)
    | (go_at_call 12; (with_reducible refine (of_c _ _).mono ?_); rintro e w1 ⟨rfl, rfl⟩; skip)
    | (go_at_call 11; (with_reducible refine (new_c HS.out _ _).mono ?_); rintro e w3 ⟨b, rfl, hs⟩; have hs2 := Aside0.mk hs; clear HS hs; have HS := hs2; clear hs2)
    | (go_at_call 23; (with_reducible refine (newR_c a0 a1 H00.out _).mono ?_); rintro e w4 ⟨rfl, hb⟩; have hs2 := Aside0.mk (SL.new (SL.swap (add_imm (HS.out.below hb) (y0_ref a0 a1))) (cellsD (lowN a0) (lowN a0) (lowN a0 + max 1 (min a1 64)) (max 1 (min a1 64)) (.slice none 0 0) (.slice none 0 0) (.slice none 0 0)) 52); clear HS hb; have HS := hs2; clear hs2))
  have HM : Aside0 (Sim (lowN a0) 0 (newF (lowN a0) a1) (y0R a0 a1)) := ⟨Sim.new a0 a1⟩
  generalize newF (lowN a0) a1 = x0 at HS HM
  have HS0 : Aside0 (SL w _ (Blk w4.heap.size (cellsD (y0R a0 a1).R (y0R a0 a1).H (y0R a0 a1).MR (y0R a0 a1).W (.slice none (y0R a0 a1).buf.length 0) (.slice none (y0R a0 a1).inb.length 0) (.slice none (y0R a0 a1).gaps.length 0)) 52 :: RecvA b x0 :: RefA (RefV (y0R a0 a1) none none none 0 0 0) (y0R a0 a1) [] :: [])) := HS
  clear HS
  generalize w4.heap.size = b8 at *
  have HW0 : Aside0 ((y0R a0 a1).W = max 1 (min a1 64)) := ⟨rfl⟩
  generalize y0R a0 a1 = y0 at HS0 HM HW0 ⊢
  go_loopg [10] (90 : Nat) (fun kq v10 wr => ∃ (i : Nat) (x : RS) (y : RR) (hd : List Hd) (B1 B2 B3 : Option Addr) (e1 e2 e3 : Nat), i + kq = 90 ∧ v10 = .int .i64 i ∧ Aside0 (Sim (lowN a0) i x y) ∧ Aside0 (y.W = max 1 (min a1 64)) ∧ Aside0 (SL w wr (Blk b8 #[.int .i64 y.R, .int .i64 y.H, .int .i64 y.MR, .int .i64 y.W, .slice B1 y.buf.length e1, .slice B2 y.inb.length e2, .slice B3 y.gaps.length e3] 52 :: RecvA b x :: RefA (RefV y B1 B2 B3 e1 e2 e3) y hd :: [])))
  case atStart => exact ⟨0, x0, y0, [], none, none, none, 0, 0, 0, rfl, rfl, HM, HW0, HS0⟩
  case round =>
    clear HS0 HM
    obtain ⟨i, x, y, hd, B1, B2, B3, e1, e2, e3, hi, rfl, HM, HW, HS⟩ := hrel
    by_cases h1 : i < l.length ∧ i < 90
    case neg =>
      by_cases h2 : i < l.length
      · have p1 : decide ((i : Int) < (l.length : Int)) = true := decide_eq_true (by omega)
        have p2 : decide ((i : Int) < 90) = false := decide_eq_false (by omega)
        have h3 : ¬ i < 90 := by omega
        go_wp2_with fail
        go_ret
        exact ⟨rfl, HS.out.1⟩
      · have p1 : decide ((i : Int) < (l.length : Int)) = false := decide_eq_false (by omega)
        go_wp2_with fail
        go_ret
        exact ⟨rfl, HS.out.1⟩
    have p1 : decide ((i : Int) < (l.length : Int)) = true := decide_eq_true (by omega)
    have p2 : decide ((i : Int) < 90) = true := decide_eq_true (by omega)
    have h1a := h1.1
    have h1b := h1.2
    have HI := Aside0.mk hi
    have HH1 := Aside0.mk h1
    have HW8 : Aside0 (wrap64 ((i : Int) + 1) = ((i + 1 : Nat) : Int)) := ⟨by unfold wrap64; omega⟩
    obtain ⟨ad, eA, _⟩ := at_T57 HR0.out i h1.1
    obtain ⟨a, ha⟩ : ∃ a, l.getD i z57 = a := ⟨_, rfl⟩
    have HA : Aside0 (∀ W : World, Below w.heap.size w W → W.cell? (ad.add (i * 4)) = some (.int .i64 a.f0) ∧ W.cell? ⟨(ad.add (i * 4)).block, (ad.add (i * 4)).off + 1, none⟩ = some (.int .i64 a.f1) ∧ W.cell? ⟨(ad.add (i * 4)).block, (ad.add (i * 4)).off + 2, none⟩ = some (.bool a.f2) ∧ W.cell? ⟨(ad.add (i * 4)).block, (ad.add (i * 4)).off + 3, none⟩ = some (.string a.f3)) := ⟨fun W hb => by
      obtain ⟨ad2, e2, h⟩ := at_T57 (Kd.C_below HR0.out hb) i h1.1
      rw [eA] at e2
      cases e2
      rw [ha] at h
      exact h⟩
    have HN := Aside0.mk (HG0.out a (by rw [← ha, List.getD_eq_getElem?_getD, List.getElem?_eq_getElem h1.1]; exact List.getElem_mem h1.1))
    subst eA
    clear hi h1 ha
    go_wp2_with fail
    refine start_ (n := 11) (S := fun w' => w'.cell? ⟨b8, 0, none⟩ = some (.int .i64 y.R) ∧ w'.cell? ⟨b8, 1, none⟩ = some (.int .i64 y.H) ∧ w'.cell? ⟨b8, 2, none⟩ = some (.int .i64 y.MR) ∧ w'.cell? ⟨b8, 3, none⟩ = some (.int .i64 y.W) ∧ w'.cell? ⟨b8, 4, none⟩ = some (.slice B1 y.buf.length e1) ∧ w'.cell? ⟨b8, 5, none⟩ = some (.slice B2 y.inb.length e2) ∧ w'.cell? ⟨b8, 6, none⟩ = some (.slice B3 y.gaps.length e3) ∧ w'.cell? (ad.add (i * 4)) = some (.int .i64 a.f0) ∧ w'.cell? ⟨(ad.add (i * 4)).block, (ad.add (i * 4)).off + 1, none⟩ = some (.int .i64 a.f1) ∧ w'.cell? ⟨(ad.add (i * 4)).block, (ad.add (i * 4)).off + 2, none⟩ = some (.bool a.f2) ∧ w'.cell? ⟨(ad.add (i * 4)).block, (ad.add (i * 4)).off + 3, none⟩ = some (.string a.f3)) (ds := [10]) #[false, false, false, false, false, false, false, false, false, false, false] (by kernel_rfl) rfl rfl ⟨(cells7 HS.out m0).1.1, (cells7 HS.out m0).2.1.1, (cells7 HS.out m0).2.2.1.1, (cells7 HS.out m0).2.2.2.1.1, (cells7 HS.out m0).2.2.2.2.1.1, (cells7 HS.out m0).2.2.2.2.2.1.1, (cells7 HS.out m0).2.2.2.2.2.2.1, (HA.out _ HS.out.1).1, (HA.out _ HS.out.1).2.1, (HA.out _ HS.out.1).2.2.1, (HA.out _ HS.out.1).2.2.2⟩ (fun hHeld => ?_)
    have hs_ := Aside0.mk (SL.drew (W := wr) (by repeat (first | (with_reducible exact HS.out) | (with_reducible apply SL.alloc) | (with_reducible apply SL.drewN) | (with_reducible apply SL.drew))))
    clear HS
    have HS := hs_
    clear hs_
    generalize (wr : World).drew = w4 at HS hHeld ⊢
    refine pure_ (i := 0) (N := (some 37)) (v := ?_) (a' := ?_) #[true, false, false, false, false, false, false, false, false, false, false] rfl rfl (by kernel_rfl) (fun _ _ _ h => h) (Or.inl ⟨by rfl, ?_⟩) ?_ ?_
    rotate_left
    · intro w'; go_simp; with_reducible rfl
    rotate_left
    · simp only [Act.put, List.setIfInBounds_toArray, List.set_cons_zero, List.set_cons_succ, i64_w, i32_w]; rfl
    refine pure_ (i := 2) (N := (some 39)) (v := ?_) (a' := ?_) #[true, false, true, false, false, false, false, false, false, false, false] rfl rfl (by kernel_rfl) (fun _ _ _ h => h) (Or.inl ⟨by rfl, ?_⟩) ?_ ?_
    rotate_left
    · intro w'; go_simp; with_reducible rfl
    rotate_left
    · simp only [Act.put, List.setIfInBounds_toArray, List.set_cons_zero, List.set_cons_succ, i64_w, i32_w]; rfl
    refine pure_ (i := 3) (N := (some 40)) (v := ?_) (a' := ?_) #[true, false, true, true, false, false, false, false, false, false, false] rfl rfl (by kernel_rfl) (fun _ _ _ h => h) (Or.inl ⟨by rfl, ?_⟩) ?_ ?_
    rotate_left
    · intro w'; go_simp; with_reducible rfl
    rotate_left
    · simp only [Act.put, List.setIfInBounds_toArray, List.set_cons_zero, List.set_cons_succ, i64_w, i32_w]; rfl
    refine pure_ (i := 4) (N := (some 41)) (v := ?_) (a' := ?_) #[true, false, true, true, true, false, false, false, false, false, false] rfl rfl (by kernel_rfl) (fun _ _ _ h => h) (Or.inl ⟨by rfl, ?_⟩) ?_ ?_
    rotate_left
    · intro w'; go_simp; with_reducible rfl
    rotate_left
    · simp only [Act.put, List.setIfInBounds_toArray, List.set_cons_zero, List.set_cons_succ, i64_w, i32_w]; rfl
    refine take_ (i := 1) (N := (some 38)) (v := ?_) (a' := ?_) #[true, true, true, true, true, false, false, false, false, false, false] rfl rfl (by kernel_rfl) (fun _ _ _ h => h) (Or.inl ⟨by rfl, ?_⟩) hHeld ?_ ?_
    rotate_left
    · rintro w' ⟨s0, s1, s2, s3, s4, s5, s6, s7, s8, s9, s10⟩; go_simp; with_reducible rfl
    rotate_left
    · simp only [Act.put, List.setIfInBounds_toArray, List.set_cons_zero, List.set_cons_succ, i64_w, i32_w]; rfl
    refine take_ (i := 5) (N := (some 42)) (v := ?_) (a' := ?_) #[true, true, true, true, true, true, false, false, false, false, false] rfl rfl (by kernel_rfl) (fun _ _ _ h => h) (Or.inl ⟨by rfl, ?_⟩) hHeld ?_ ?_
    rotate_left
    · rintro w' ⟨s0, s1, s2, s3, s4, s5, s6, s7, s8, s9, s10⟩; go_simp; with_reducible rfl
    rotate_left
    · simp only [Act.put, List.setIfInBounds_toArray, List.set_cons_zero, List.set_cons_succ, i64_w, i32_w]; rfl
    refine one_ (i := 6) (N := (some 43)) #[true, true, true, true, true, true, true, false, false, false, false] rfl rfl (by kernel_rfl) (by decide) (fun K hK => ?_)
    have HS2 : Aside0 (SL w w4 (RecvA b x :: RefA (RefV y B1 B2 B3 e1 e2 e3) y hd :: Blk b8 #[.int .i64 y.R, .int .i64 y.H, .int .i64 y.MR, .int .i64 y.W, .slice B1 y.buf.length e1, .slice B2 y.inb.length e2, .slice B3 y.gaps.length e3] 52 :: [])) := ⟨SL.pk [1, 1] HS.out⟩
    refine goes_ Try.func24 (by kernel_rfl) rfl #[.pointer (some ⟨b, 0, none⟩), RefV y B1 B2 B3 e1 e2 e3, .agg #[.int .i64 a.f0, .int .i64 a.f1, .bool a.f2, .string a.f3]] (by rfl) rfl rfl (by (try simp only [List.map_toArray, List.map_cons, List.map_nil]); first | done | rfl | (simp only [List.length_drop, List.length_take]; rfl)) ?_
    refine (step_c HM.out (by have := HI.out; omega) a.f0 a.f1 a.f2 a.f3 HN.out HS2.out).mono ?_
    rintro e w5 ⟨x', v', y', hd', rfl, hM2, hkeep, hs⟩
    have HKEEP := Aside0.mk hkeep
    clear hkeep
    refine ⟨_, rfl, ?_⟩
    obtain ⟨D1, D2, D3, f1, f2, f3, ev, _⟩ := hs.know m1
    subst ev
    clear HS HS2
    have HS : Aside0 (SL w w5 (Blk b8 #[.int .i64 y.R, .int .i64 y.H, .int .i64 y.MR, .int .i64 y.W, .slice B1 y.buf.length e1, .slice B2 y.inb.length e2, .slice B3 y.gaps.length e3] 52 :: RecvA b x' :: RefA (RefV y' D1 D2 D3 f1 f2 f3) y' hd' :: [])) := ⟨SL.pk [2] hs⟩
    clear hs
    refine hK.out _ _ ⟨(cells7 HS.out m0).1.1, (cells7 HS.out m0).2.1.1, (cells7 HS.out m0).2.2.1.1, (cells7 HS.out m0).2.2.2.1.1, (cells7 HS.out m0).2.2.2.2.1.1, (cells7 HS.out m0).2.2.2.2.2.1.1, (cells7 HS.out m0).2.2.2.2.2.2.1, (HA.out _ HS.out.1).1, (HA.out _ HS.out.1).2.1, (HA.out _ HS.out.1).2.2.1, (HA.out _ HS.out.1).2.2.2⟩ (fun hHeld => ?_)
    clear hK K
    refine norm_ (a' := ?_) ?_ ?_
    rotate_left
    · show Act.put _ (some 43) _ = _; simp only [Act.put, List.setIfInBounds_toArray, List.set_cons_zero, List.set_cons_succ, i64_w, i32_w]; rfl
    refine pure_ (i := 7) (N := (some 36)) (v := ?_) (a' := ?_) #[true, true, true, true, true, true, true, true, false, false, false] rfl rfl (by kernel_rfl) (fun _ _ _ h => h) (Or.inl ⟨by rfl, ?_⟩) ?_ ?_
    rotate_left
    · intro w'; go_simp; with_reducible rfl
    rotate_left
    · simp only [Act.put, List.setIfInBounds_toArray, List.set_cons_zero, List.set_cons_succ, i64_w, i32_w]; rfl
    refine pure_ (i := 8) (N := (some 44)) (v := ?_) (a' := ?_) #[true, true, true, true, true, true, true, true, true, false, false] rfl rfl (by kernel_rfl) (fun _ _ _ h => h) (Or.inl ⟨by rfl, ?_⟩) ?_ ?_
    rotate_left
    · intro w'; go_simp; with_reducible rfl
    rotate_left
    · simp only [Act.put, List.setIfInBounds_toArray, List.set_cons_zero, List.set_cons_succ, i64_w, i32_w]; rfl
    refine pure_ (i := 9) (N := (some 45)) (v := ?_) (a' := ?_) #[true, true, true, true, true, true, true, true, true, true, false] rfl rfl (by kernel_rfl) (fun _ _ _ h => h) (Or.inl ⟨by rfl, ?_⟩) ?_ ?_
    rotate_left
    · intro w'; go_simp; with_reducible rfl
    rotate_left
    · simp only [Act.put, List.setIfInBounds_toArray, List.set_cons_zero, List.set_cons_succ, i64_w, i32_w]; rfl
    refine last_ (i := 10) (N := none) #[true, true, true, true, true, true, true, true, true, true, true] rfl rfl (by kernel_rfl) (by decide) (fun K hK => ?_)
    obtain ⟨⟨u0, t0⟩, ⟨u1, t1⟩, ⟨u2, t2⟩, ⟨u3, t3⟩, ⟨u4, t4⟩, ⟨u5, t5⟩, ⟨u6, t6⟩⟩ := cells7 HS.out m0
    refine skip_ (w1 := (((((((w5.setCell ⟨b8, 0, none⟩ (.int .i64 y'.R)).setCell ⟨b8, 1, none⟩ (.int .i64 y'.H)).setCell ⟨b8, 2, none⟩ (.int .i64 y'.MR)).setCell ⟨b8, 3, none⟩ (.int .i64 y'.W)).setCell ⟨b8, 4, none⟩ (.slice D1 y'.buf.length f1)).setCell ⟨b8, 5, none⟩ (.slice D2 y'.inb.length f2)).setCell ⟨b8, 6, none⟩ (.slice D3 y'.gaps.length f3))) (by rfl) rfl (by go_simp) ?_
    have hs := set7 (.int .i64 y'.R) (.int .i64 y'.H) (.int .i64 y'.MR) (.int .i64 y'.W) (.slice D1 y'.buf.length f1) (.slice D2 y'.inb.length f2) (.slice D3 y'.gaps.length f3) HS.out
    clear HS u0 t0 u1 t1 u2 t2 u3 t3 u4 t4 u5 t5 u6 t6
    have HS := Aside0.mk hs
    clear hs
    refine hK.out _ _ ?_
    clear hK K
    refine done_ (by kernel_rfl) ?_
    have HM2 := Aside0.mk hM2
    clear hM2 HM
    generalize World.setCell _ _ _ = w6 at HS ⊢
    have HS3 : Aside0 (SL w w6 (Blk b8 #[.int .i64 y'.R, .int .i64 y'.H, .int .i64 y'.MR, .int .i64 y'.W, .slice D1 y'.buf.length f1, .slice D2 y'.inb.length f2, .slice D3 y'.gaps.length f3] 52 :: RecvA b x' :: RefA (RefV y' D1 D2 D3 f1 f2 f3) y' hd' :: [])) := HS
    clear HS
    have HS4 : Aside0 (SL w w6 (RecvA b x' :: RefA (RefV y' D1 D2 D3 f1 f2 f3) y' hd' :: Blk b8 #[.int .i64 y'.R, .int .i64 y'.H, .int .i64 y'.MR, .int .i64 y'.W, .slice D1 y'.buf.length f1, .slice D2 y'.inb.length f2, .slice D3 y'.gaps.length f3] 52 :: [])) := ⟨SL.pk [1, 1] HS3.out⟩
    obtain ⟨⟨q0, z0⟩, ⟨q1, z1⟩, ⟨q2, z2⟩, ⟨q3, z3⟩, ⟨q4, z4⟩, ⟨q5, z5⟩, ⟨q6, z6⟩⟩ := cells7 HS3.out m0
    clear HS3
    have HWY : Aside0 (y'.W = max 1 (min a1 64)) := ⟨HKEEP.out.1.trans HW.out⟩
    clear HKEEP HW
    obtain ⟨t1, t2, d1, d2, d3, d4, d5, d6⟩ := polliwoglaw12_RecvBounds.facts HM2.out HWY.out
    generalize y'.H - y'.R = hR at t1 d1 d6
    generalize y'.MR - y'.R = mR at t2 d1 d2
    have HT1 : Aside0 (∀ W, Calls Try.prog 17 #[.int .u32 x'.r, .int .u32 x'.h] W fun e w' => e = .returned (.int .i64 hR) ∧ w' = W) := ⟨fun W => t1 ▸ to_c x'.r x'.h W⟩
    have HT2 : Aside0 (∀ W, Calls Try.prog 17 #[.int .u32 x'.r, .int .u32 x'.mr] W fun e w' => e = .returned (.int .i64 mR) ∧ w' = W) := ⟨fun W => t2 ▸ to_c x'.r x'.mr W⟩
    clear t1 t2
    go_wp2_with (go_at_call 16; (with_reducible refine (vars_c HS4.out).mono ?_); rintro e w7 ⟨rfl, hs⟩; clear HS4; have HS4 := Aside0.mk hs; clear hs)
    go_quiet ((first | (go_at_call 17; with_reducible exact Calls.quiet_of_same (HT1.out _)) | (go_at_call 17; with_reducible exact Calls.quiet_of_same (HT2.out _))))
    go_wp2_with fail
    go_roundg (90 - (i + 1))
    case measure => have := HI.out; omega
    case rel => exact ⟨i + 1, x', y', hd', D1, D2, D3, f1, f2, f3, by omega, by first | rw [HW8.out] | rw [show (i : Int) + 1 = ((i + 1 : Nat) : Int) by omega], HM2, HWY, ⟨by (with_reducible repeat (first | apply SL.alloc | apply SL.drewN | apply SL.drew)); exact SL.pk [2] HS4.out⟩⟩
/-- What the law answers (its numbers are whole numbers of the program's). -/
def polliwoglaw12_RecvBounds.f (a0 a1 : Int) (l : List S57) : Option Bool := if (-9223372036854775808 ≤ a0 ∧ a0 ≤ 9223372036854775807) ∧ ∀ x ∈ l, -9223372036854775808 ≤ x.f1 ∧ x.f1 ≤ 9223372036854775807 then some true else none
theorem polliwoglaw12_RecvBounds.calls (a0 a1 : Int) (A2 : Option Addr) (c2 : Nat) (l2 : List S57) (r : Bool) (w : World) (hr2 : k57.C w A2 l2.length l2) (hc2 : l2.length ≤ c2) (h : polliwoglaw12_RecvBounds.f a0 a1 l2 = some r) :
    Calls Try.prog 7 #[.int .i64 a0, .int .i64 a1, .slice A2 l2.length c2] w fun e w' => e = .returned (.bool r) ∧ Below w.heap.size w w' := by
  unfold polliwoglaw12_RecvBounds.f at h
  split at h
  · rename_i hq
    have e : true = r := Option.some.inj h
    subst e
    exact polliwoglaw12_RecvBounds.walk a0 a1 A2 c2 l2 w hr2 hc2 hq.1 hq.2
  · cases h
end Go.Proofs.Ytiiljdglbfgdbaa.S
