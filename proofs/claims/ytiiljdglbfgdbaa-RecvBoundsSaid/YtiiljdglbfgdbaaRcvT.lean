/- The document's receiver: Gap. -/
import Derived.Test.YtiiljdglbfgdbaaRcvR
import Derived.Test.YtiiljdglbfgdbaaRcv2
import Derived.Test.YtiiljdglbfgdbaaRcv1
import Derived.Test.YtiiljdglbfgdbaaRcvP
import Derived.Test.YtiiljdglbfgdbaaLayM

set_option linter.unusedVariables false
set_option linter.unusedSimpArgs false
/-! The document's receiver: Gap. -/
namespace Go.Proofs.Ytiiljdglbfgdbaa.Rcv
open Go Go.RowKit Go.Proofs.YtiiljdglbfgdbaaW.PrintWords Go.Proofs.YtiiljdglbfgdbaaW.PrintLast Go.Proofs.YtiiljdglbfgdbaaW.PrintMore Go.Proofs.Ytiiljdglbfgdbaa Go.Proofs.Ytiiljdglbfgdbaa.Sl Go.Proofs.Ytiiljdglbfgdbaa.S
def gapStep (g0 g1 : Int) (st : Int × Int) (n : Int) : Int × Int := if (n ≥ g0 ∧ n < g1) ∧ (st.1 < 0 ∨ n = st.2) then (if st.1 < 0 then n else st.1, n + 1) else st
def gapFold (g0 g1 : Int) (l : List Int) (st : Int × Int) : Int × Int := l.foldl (gapStep g0 g1) st
def gapGo (y : RR) : List (List Int) → RR × Int × Int × Bool
  | [] => ({ y with gaps := [] }, 0, 0, false)
  | g :: gs => if (gapFold (g.getD 0 0) (g.getD 1 0) (missR y) (-1, -1)).1 ≥ 0 then (renewR { y with gaps := gs }, (gapFold (g.getD 0 0) (g.getD 1 0) (missR y) (-1, -1)).1, (gapFold (g.getD 0 0) (g.getD 1 0) (missR y) (-1, -1)).2, true) else gapGo y gs
def gapR (y : RR) : RR × Int × Int × Bool := gapGo y y.gaps
theorem RefP.tail {y z : RR} {hd : List Hd} {h0 : Hd} {g : List Int} {A1 A2 A3 A4 : Option Addr} {c1 c2 c3 : Nat} {W : World} (h : RefP (RefV y A1 A2 A3 c1 c2 c3) y (h0 :: hd) W) (h1 : z.buf = y.buf) (h2 : z.inb = y.inb) (h3 : y.gaps = g :: z.gaps) (h4 : A4 = if c3 = 1 then A3 else A3.map (·.add (1 * 1))) : RefP (RefV z A1 A2 A4 c1 c2 (c3 - 1)) z hd W := by
  obtain ⟨l, k1, k2, k3, k4⟩ := refCW h
  subst h4
  refine ⟨A1, A2, _, c1, c2, c3 - 1, rfl, ⟨by rw [h1]; exact l.1, by rw [h2]; exact l.2.1, by have := l.2.2; rw [h3] at this; simp only [List.length_cons] at this; omega⟩, by rw [h1]; exact k1, by rw [h2]; exact k2, ?_, ?_⟩
  · rw [h3] at k3 l
    have hl : (g :: z.gaps).length = (h0 :: hd).length := by have := k4.1; rw [h3] at this; exact this.symm
    rw [hl] at k3
    have := Kd.C_drop (m := 1) (c := c3) k3 (by simp) (by rw [← hl]; exact l.2.2)
    have h5 : z.gaps.length = hd.length := by simpa using hl
    rw [h5]
    exact this
  · rw [h3] at k4
    exact k4.tail
theorem at2j {w : World} {A : Option Addr} {x y : Int} (h : (Kd.int .i64).C w A 2 [x, y]) : ∃ ad, A = some ad ∧ w.cell? ad = some (.int .i64 x) ∧ w.cell? ⟨ad.block, ad.off + 1, none⟩ = some (.int .i64 y) := by
  obtain ⟨ad, rfl, a0⟩ := Kd.at_int h 0 (by decide) (by decide)
  obtain ⟨ad2, e2, a1⟩ := Kd.at_int h 1 (by decide) (by decide)
  cases e2
  have ea : ad.add (Int.toNat 0) = ad := by cases ad; rfl
  rw [ea] at a0
  exact ⟨ad, rfl, a0, a1⟩
theorem at_H {w : World} {A : Option Addr} {n : Nat} {h : Hd} {hs : List Hd} (hC : kH.C w A n (h :: hs)) (h1 : (0 : Int) < n) : ∃ ad, A = some ad ∧ w.cell? ad = some (.slice h.A h.n h.c) := by
  obtain ⟨ad, c, e, _, hK, hc0⟩ := Kd.C_get hC h 0 (Int.le_refl _) h1
  have hc : ∀ j u, c[j]? = some u → w.cell? (ad.add (0 * 1 + j)) = some u := hc0
  have hK2 : c = [.slice h.A h.n h.c] := hK
  subst hK2
  have e1 := hc 0 _ rfl
  have ea : ad.add 0 = ad := by cases ad; rfl
  simp only [Nat.zero_mul, Nat.add_zero] at e1
  rw [ea] at e1
  exact ⟨ad, e, e1⟩
set_option maxHeartbeats 2000000 in
set_option maxRecDepth 100000 in
theorem gapR_c {w0 W : World} {l : List As} {v : Value} {y : RR} {hd : List Hd} (hy : y.Ok) (hg : ∀ g ∈ y.gaps, ∃ a b : Int, g = [a, b]) (HS : SL w0 W (RefA v y hd :: l)) :
    Calls Try.prog 44 #[v] W fun e w' => ∃ v' hd', e = .returned (.tuple #[v', .int .i64 (gapR y).2.1, .int .i64 (gapR y).2.2.1, .bool (gapR y).2.2.2]) ∧ SL w0 w' (RefA v' (gapR y).1 hd' :: l) := by
  obtain ⟨A1, A2, A3, c1, c2, c3, rfl, hh⟩ := HS.know (.head _)
  obtain ⟨i0, hi, hzz⟩ := Option.map_eq_some_iff.1 infoSl
  simp only [Prod.mk.injEq] at hzz
  have hsl : ∀ (A : Option Addr) (n c : Nat), 0 < n → ∃ A2, ∀ W, (Instr.slice 50 (.slice A n c) (some (.int .i64 1)) none none).run Try.prog W = .ok (.slice A2 (n - 1) (c - 1)) W ∧ A2 = (if c = 1 then A else A.map (·.add (1 * 1))) := fun A n c hn => ⟨_, fun W => ⟨cut_from 50 22 .i64 Try.underlying50 hi 1 hzz.2.1 A n c 1 (by omega) (by omega) W, rfl⟩⟩
  have HL := Aside0.mk hsl
  have HS := Aside0.mk HS
  have hu := Try.underlying52
  have HY := Aside0.mk hy
  have HG := Aside0.mk hg
  have HE := Aside0.mk (show gapR y = gapGo y y.gaps from rfl)
  clear hh hi hzz hsl hy hg i0
  unfold RefV
  go_enter Try.func44, Try.ntmps44
  go_wp2_with fail
  have hs2 := Aside0.mk (SL.new (SL.new HS.out (cellsD y.R y.H y.MR y.W (.slice A1 y.buf.length c1) (.slice A2 y.inb.length c2) (.slice A3 y.gaps.length c3)) 52) zeroD 52)
  rw [show ∀ o, (W.alloc o).heap.size = W.heap.size + 1 from fun o => by simp] at hs2
  clear HS
  have HS : Aside0 (SL w0 _ (Blk W.heap.size (cellsD y.R y.H y.MR y.W (.slice A1 y.buf.length c1) (.slice A2 y.inb.length c2) (.slice A3 y.gaps.length c3)) 52 :: Blk (W.heap.size + 1) zeroD 52 :: RefA (RefV y A1 A2 A3 c1 c2 c3) y hd :: l)) := ⟨SL.swap hs2.out⟩
  clear hs2
  have hne : ¬ W.heap.size + 1 = W.heap.size := by omega
  have hne2 : ¬ W.heap.size = W.heap.size + 1 := by omega
  go_loopg [] y.gaps.length (fun kq wr => ∃ (gs : List (List Int)) (hd' : List Hd) (A3' : Option Addr) (c3' : Nat), gs.length = kq ∧ Aside0 (gapGo y gs = gapR y) ∧ Aside0 (gs.length ≤ 8 ∧ ∀ g ∈ gs, ∃ a b : Int, g = [a, b]) ∧ Aside0 (SL w0 wr (Blk W.heap.size (cellsD y.R y.H y.MR y.W (.slice A1 y.buf.length c1) (.slice A2 y.inb.length c2) (.slice A3' gs.length c3')) 52 :: Blk (W.heap.size + 1) zeroD 52 :: RefA (RefV { y with gaps := gs } A1 A2 A3' c1 c2 c3') { y with gaps := gs } hd' :: l)))
  case atStart => exact ⟨y.gaps, hd, A3, c3, rfl, ⟨rfl⟩, ⟨HY.out.gaps, HG.out⟩, HS⟩
  case round =>
    clear HS
    obtain ⟨gs, hd', A3', c3', hk, HGo, HGs, HS⟩ := hrel
    generalize W.heap.size + 1 = b2 at *
    generalize W.heap.size = b1 at *
    obtain ⟨⟨q0, z0⟩, ⟨q1, z1⟩, ⟨q2, z2⟩, ⟨q3, z3⟩, ⟨q4, z4⟩, ⟨q5, z5⟩, ⟨q6, z6⟩⟩ := cells7 HS.out m0
    cases gs with
    | nil =>
      have HGo2 := Aside0.mk (show ({ y with gaps := [] }, 0, 0, false) = gapR y from HGo.out)
      clear HGo hk
      obtain ⟨⟨x0, y0⟩, ⟨x1, y1⟩, ⟨x2, y2⟩, ⟨x3, y3⟩, ⟨x4, y4⟩, ⟨x5, y5⟩, ⟨x6, y6⟩⟩ := cells7 HS.out m1
      have p2 : decide ((0 : Int) < (([] : List (List Int)).length : Int)) = false := by decide
      go_wp2_with fail
      have hs2 := Aside0.mk (set7 (.int .i64 y.R) (.int .i64 y.H) (.int .i64 y.MR) (.int .i64 y.W) (.slice A1 y.buf.length c1) (.slice A2 y.inb.length c2) (.slice A3' ([] : List (List Int)).length c3') (SL.swap HS.out))
      clear q0 z0 q1 z1 q2 z2 q3 z3 q4 z4 q5 z5 q6 z6 x0 y0 x1 y1 x2 y2 x3 y3 x4 y4 x5 y5 x6 y6 HS
      obtain ⟨⟨x0, y0⟩, ⟨x1, y1⟩, ⟨x2, y2⟩, ⟨x3, y3⟩, ⟨x4, y4⟩, ⟨x5, y5⟩, ⟨x6, y6⟩⟩ := cells7 hs2.out m0
      refine bodyPost_ret (v := .tuple #[RefV { y with gaps := [] } A1 A2 A3' c1 c2 c3', .int .i64 0, .int .i64 0, .bool false]) (by simp only [List.length_nil] at x0 x1 x2 x3 x4 x5 x6; simp [results, Try.results44, go_sem, RefV, x0, x1, x2, x3, x4, x5, x6]) rfl ⟨_, hd', by rw [← HGo2.out], ?_⟩
      rw [← HGo2.out]
      exact SL.tail (SL.tail hs2.out)
    | cons g gs =>
      have HK := Aside0.mk hk
      clear hk
      have hh := refCW (HS.out.know m2)
      obtain ⟨ga, gb, rfl⟩ := HGs.out.2 g (.head _)
      cases hd' with
      | nil => exact absurd hh.2.2.2.2.1 (by simp)
      | cons h0 hd' =>
        obtain ⟨u, u1, u2, u3, u4⟩ := hh.2.2.2.2.2 0 [ga, gb] rfl
        obtain rfl : h0 = u := by simpa using u1
        have p1 : (0 : Int) < (([ga, gb] :: gs).length : Int) := by simp only [List.length_cons]; omega
        have p2 : decide ((0 : Int) < (([ga, gb] :: gs).length : Int)) = true := decide_eq_true p1
        have p3 : (0 : Nat) < ([ga, gb] :: gs).length := by simp only [List.length_cons]; omega
        obtain ⟨ad, rfl, hc0⟩ := at_H hh.2.2.2.1 p1
        rw [u2] at hc0
        obtain ⟨A4, hA4⟩ := HL.out (some ad) ([ga, gb] :: gs).length c3' p3
        have hs2 : ∀ W, (Instr.slice 50 (.slice (some ad) (gs.length + 1) c3') (some (.int .i64 1)) none none).run Try.prog W = .ok (.slice A4 gs.length (c3' - 1)) W := fun W => (hA4 W).1
        have hA5 := (hA4 w0).2
        have HS3 : Aside0 (SL w0 (wr.setCell ⟨b1, 6, none⟩ (.slice A4 gs.length (c3' - 1))) (Blk b1 (cellsD y.R y.H y.MR y.W (.slice A1 y.buf.length c1) (.slice A2 y.inb.length c2) (.slice A4 gs.length (c3' - 1))) 52 :: Blk b2 zeroD 52 :: Imm (fun W => RefP (RefV { y with gaps := gs } A1 A2 A4 c1 c2 (c3' - 1)) { y with gaps := gs } hd' W ∧ (Kd.int .i64).C W h0.A 2 [ga, gb]) :: l)) := ⟨by
          have h1 := SL.set (cs' := cellsD y.R y.H y.MR y.W (.slice A1 y.buf.length c1) (.slice A2 y.inb.length c2) (.slice A4 gs.length (c3' - 1))) HS.out 6 (.slice A4 gs.length (c3' - 1)) rfl
          refine SL.pk [1, 1] (SL.imm_mono (SL.pk [2] h1) (fun W h => ⟨RefP.tail (g := [ga, gb]) h rfl rfl rfl hA5, ?_⟩))
          obtain ⟨u, v1, v2, v3, v4⟩ := (refCW h).2.2.2.2.2 0 [ga, gb] rfl
          obtain rfl : h0 = u := by simpa using v1
          exact v4⟩
        have HGo2 := Aside0.mk (show (if (gapFold ga gb (missR y) (-1, -1)).1 ≥ 0 then (renewR { y with gaps := gs }, (gapFold ga gb (missR y) (-1, -1)).1, (gapFold ga gb (missR y) (-1, -1)).2, true) else gapGo y gs) = gapR y from HGo.out)
        have HOk : Aside0 (({ y with gaps := gs } : RR).Ok) := ⟨⟨HY.out.R, HY.out.H, HY.out.MR, HY.out.W, HY.out.buf, HY.out.inb, by have := HGs.out.1; simp only [List.length_cons] at this; show gs.length ≤ 8; omega⟩⟩
        have HGs2 : Aside0 (gs.length ≤ 8 ∧ ∀ g ∈ gs, ∃ a b : Int, g = [a, b]) := ⟨⟨by have := HGs.out.1; simp only [List.length_cons] at this; omega, fun g hg => HGs.out.2 g (.tail _ hg)⟩⟩
        have HML : Aside0 ((missR y).length ≤ 200000000) := ⟨by
          unfold missR
          refine Nat.le_trans (List.length_filter_le _ _) ?_
          rw [List.length_map, List.length_range]
          have := HY.out.H; have := HY.out.R; omega⟩
        clear hA4 hA5 hh u1 u2 u3 u4 HGo HS HGs p1
        go_wp2_with (go_at_call 43; (with_reducible refine (miss_i HOk.out HS3.out m2 (fun _ h => h.1)).mono ?_); rintro e w1 ⟨vm, rfl, hs⟩; clear HS3 q0 z0 q1 z1 q2 z2 q3 z3 q4 z4 q5 z5 q6 z6 hc0; have HS := Aside0.mk hs; clear hs; obtain ⟨Am, cm, em, _⟩ := SL.form HS.out (.head _); subst em)
        obtain ⟨ml, hml⟩ : ∃ ml, missR y = ml := ⟨_, rfl⟩
        rw [show missR { y with gaps := gs } = ml from hml] at HS ⊢
        rw [hml] at HGo2 HML
        have HMB : Aside0 (∀ n ∈ ml, 0 ≤ n ∧ n ≤ 100000000) := ⟨fun n hn => by
          rw [← hml] at hn
          unfold missR at hn
          obtain ⟨i, h1, h2⟩ := List.mem_map.1 (List.mem_filter.1 hn).1
          have h3 := List.mem_range.1 h1
          have := HY.out.R; have := HY.out.H; omega⟩
        obtain ⟨fin, hfin⟩ : ∃ fin, gapFold ga gb ml (-1, -1) = fin := ⟨_, rfl⟩
        rw [hfin] at HGo2
        have HFIN := Aside0.mk hfin
        clear hfin hml hs2 p2 p3
        generalize h0.A = gA at HS ⊢
        go_loopg [7, 8, 26] ml.length (fun kq v7 v8 v26 wr => ∃ (i : Nat) (f t : Int), i + kq = ml.length ∧ v7 = .int .i64 f ∧ v8 = .int .i64 t ∧ v26 = .int .i64 i ∧ Aside0 (gapFold ga gb (ml.drop i) (f, t) = fin) ∧ Aside0 (-1 ≤ f ∧ f ≤ 100000000) ∧ Aside0 (SL w0 wr (Row (Kd.int .i64) 3 (.slice Am ml.length cm) ml :: Blk b1 (cellsD y.R y.H y.MR y.W (.slice A1 y.buf.length c1) (.slice A2 y.inb.length c2) (.slice A4 gs.length (c3' - 1))) 52 :: Blk b2 zeroD 52 :: Imm (fun W => RefP (RefV { y with gaps := gs } A1 A2 A4 c1 c2 (c3' - 1)) { y with gaps := gs } hd' W ∧ (Kd.int .i64).C W gA 2 [ga, gb]) :: l)))
        case atStart => exact ⟨0, -1, -1, by omega, rfl, rfl, rfl, HFIN, ⟨by omega⟩, HS⟩
        case round =>
          clear HS
          obtain ⟨i, f, t, hi, rfl, rfl, rfl, HF, HB, HS⟩ := hrel
          by_cases hib : i < ml.length
          case neg =>
            have p4 : decide ((i : Int) < (ml.length : Int)) = false := decide_eq_false (by omega)
            have hf2 := HF.out
            rw [List.drop_eq_nil_of_le (by omega)] at hf2
            have HF2 := Aside0.mk (show (f, t) = fin from hf2)
            clear hf2 HF hi
            obtain ⟨⟨q0, z0⟩, ⟨q1, z1⟩, ⟨q2, z2⟩, ⟨q3, z3⟩, ⟨q4, z4⟩, ⟨q5, z5⟩, ⟨q6, z6⟩⟩ := cells7 HS.out m1
            by_cases hf : f ≥ 0
            · have p5 : decide (f ≥ 0) = true := decide_eq_true hf
              have hG := HGo2.out
              rw [← HF2.out, if_pos hf] at hG
              obtain ⟨z, hz⟩ : ∃ z, renewR { y with gaps := gs } = z := ⟨_, rfl⟩
              rw [hz] at hG
              have HGG := Aside0.mk hG
              have HZ := Aside0.mk hz
              clear hz
              have HS4 : Aside0 (SL w0 wr (RefA (RefV { y with gaps := gs } A1 A2 A4 c1 c2 (c3' - 1)) { y with gaps := gs } hd' :: Blk b1 (cellsD y.R y.H y.MR y.W (.slice A1 y.buf.length c1) (.slice A2 y.inb.length c2) (.slice A4 gs.length (c3' - 1))) 52 :: Blk b2 zeroD 52 :: l)) := ⟨SL.imm_mono (SL.pk [2] (SL.tail HS.out)) (fun W h => h.1)⟩
              clear hf hG HS
              go_wp2_with (go_at_call 40; (with_reducible refine (renewR_c HOk.out HS4.out).mono ?_); rintro e w9 ⟨vr, rfl, hs⟩; clear HS4 q0 z0 q1 z1 q2 z2 q3 z3 q4 z4 q5 z5 q6 z6; rw [HZ.out] at hs; have HS := Aside0.mk hs; clear hs; obtain ⟨B1, B2, B3, e1, e2, e3, ev, _⟩ := HS.out.know m0; subst ev; obtain ⟨⟨x0, y0⟩, ⟨x1, y1⟩, ⟨x2, y2⟩, ⟨x3, y3⟩, ⟨x4, y4⟩, ⟨x5, y5⟩, ⟨x6, y6⟩⟩ := cells7 HS.out m2)
              have hs2 := Aside0.mk (set7 (.int .i64 z.R) (.int .i64 z.H) (.int .i64 z.MR) (.int .i64 z.W) (.slice B1 z.buf.length e1) (.slice B2 z.inb.length e2) (.slice B3 z.gaps.length e3) (SL.pk [2] HS.out))
              clear x0 y0 x1 y1 x2 y2 x3 y3 x4 y4 x5 y5 x6 y6 HS
              obtain ⟨⟨x0, y0⟩, ⟨x1, y1⟩, ⟨x2, y2⟩, ⟨x3, y3⟩, ⟨x4, y4⟩, ⟨x5, y5⟩, ⟨x6, y6⟩⟩ := cells7 hs2.out m0
              refine bodyPost_ret (v := .tuple #[RefV z B1 B2 B3 e1 e2 e3, .int .i64 f, .int .i64 t, .bool true]) (by simp [results, Try.results44, go_sem, RefV, x0, x1, x2, x3, x4, x5, x6]) rfl ⟨_, hd', by rw [← HGG.out], ?_⟩
              rw [← HGG.out]
              exact SL.sub (show SL w0 _ (Blk b2 _ _ :: RefA (RefV z B1 B2 B3 e1 e2 e3) z hd' :: Blk b1 _ _ :: l) from hs2.out) (.cons _ (.cons_cons _ (.cons _ (List.Sublist.refl _))))
            · have p5 : decide (f ≥ 0) = false := decide_eq_false hf
              have hG := HGo2.out
              rw [← HF2.out, if_neg hf] at hG
              have HGG := Aside0.mk hG
              clear hf hG
              go_wp2_with fail
              go_roundg gs.length
              case measure => have := HK.out; simp only [List.length_cons] at this; omega
              case rel => exact ⟨gs, hd', A4, c3' - 1, rfl, HGG, HGs2, ⟨SL.pk [1, 1] (SL.imm_mono (SL.pk [2] (SL.tail HS.out)) (fun W h => h.1))⟩⟩
          case pos =>
            have p4 : decide ((i : Int) < (ml.length : Int)) = true := decide_eq_true (by omega)
            obtain ⟨ad3, eA, hx⟩ := Kd.at_int (SL.reads HS.out m0) (i : Int) (by omega) (by omega)
            subst eA
            obtain ⟨ad4, eh, a0, a1⟩ := at2j (HS.out.know m3).2
            subst eh
            rw [Int.toNat_natCast] at hx
            obtain ⟨n, hn⟩ : ∃ n, rd ml (i : Int) = n := ⟨_, rfl⟩
            have hn2 : ml.drop i = n :: ml.drop (i + 1) := by
              rw [List.drop_eq_getElem_cons hib, ← hn]
              unfold rd
              rw [Int.toNat_natCast, List.getD_eq_getElem?_getD, List.getElem?_eq_getElem hib]
              rfl
            have HN : Aside0 (0 ≤ n ∧ n ≤ 100000000) := ⟨HMB.out n (by have : n ∈ ml.drop i := by rw [hn2]; exact .head _
                                                                       exact List.mem_of_mem_drop this)⟩
            rw [hn] at hx
            have hst : gapFold ga gb (ml.drop (i + 1)) (gapStep ga gb (f, t) n) = fin := by
              have := HF.out
              rw [hn2] at this
              exact this
            unfold gapStep at hst
            simp only at hst
            have HWN : Aside0 (wrap64 (n + 1) = n + 1) := ⟨by have := HN.out; unfold wrap64; omega⟩
            have HW8 : Aside0 (wrap64 ((i : Int) + 1) = ((i + 1 : Nat) : Int)) := ⟨by have := HML.out; unfold wrap64; omega⟩
            have HI := Aside0.mk hi
            have HIL := Aside0.mk hib
            clear hn hn2 HF hi
            by_cases g1 : n ≥ ga
            · have d1 : decide (n ≥ ga) = true := decide_eq_true g1
              by_cases g2 : n < gb
              · have d2 : decide (n < gb) = true := decide_eq_true g2
                by_cases g3 : f < 0
                · have d3 : decide (f < 0) = true := decide_eq_true g3
                  rw [if_pos ⟨⟨g1, g2⟩, Or.inl g3⟩] at hst
                  rw [if_pos g3] at hst
                  have HST := Aside0.mk hst
                  clear hst g1 g2 g3
                  go_wp2_with fail
                  go_roundg (ml.length - (i + 1))
                  case measure => have := HI.out; omega
                  case rel => exact ⟨i + 1, n, n + 1, by have := HIL.out; omega, rfl, by rw [HWN.out], by rw [HW8.out], HST, ⟨by have := HB.out; have := HN.out; omega⟩, HS⟩
                · have d3 : decide (f < 0) = false := decide_eq_false g3
                  by_cases g4 : n = t
                  · have d4 : (n == t) = true := beq_iff_eq.2 g4
                    rw [if_pos ⟨⟨g1, g2⟩, Or.inr g4⟩] at hst
                    rw [if_neg g3] at hst
                    have HST := Aside0.mk hst
                    clear hst g1 g2 g3 g4
                    go_wp2_with fail
                    go_roundg (ml.length - (i + 1))
                    case measure => have := HI.out; omega
                    case rel => exact ⟨i + 1, f, n + 1, by have := HIL.out; omega, rfl, by rw [HWN.out], by rw [HW8.out], HST, ⟨by have := HB.out; have := HN.out; omega⟩, HS⟩
                  · have d4 : (n == t) = false := beq_eq_false_iff_ne.2 g4
                    rw [if_neg (fun e => e.2.elim g3 g4)] at hst
                    have HST := Aside0.mk hst
                    clear hst g1 g2 g3 g4
                    go_wp2_with fail
                    go_roundg (ml.length - (i + 1))
                    case measure => have := HI.out; omega
                    case rel => exact ⟨i + 1, f, t, by have := HIL.out; omega, rfl, rfl, by rw [HW8.out], HST, ⟨by have := HB.out; have := HN.out; omega⟩, HS⟩
              · have d2 : decide (n < gb) = false := decide_eq_false g2
                rw [if_neg (fun e => g2 e.1.2)] at hst
                have HST := Aside0.mk hst
                clear hst g1 g2
                go_wp2_with fail
                go_roundg (ml.length - (i + 1))
                case measure => have := HI.out; omega
                case rel => exact ⟨i + 1, f, t, by have := HIL.out; omega, rfl, rfl, by rw [HW8.out], HST, ⟨by have := HB.out; have := HN.out; omega⟩, HS⟩
            · have d1 : decide (n ≥ ga) = false := decide_eq_false g1
              rw [if_neg (fun e => g1 e.1.1)] at hst
              have HST := Aside0.mk hst
              clear hst g1
              go_wp2_with fail
              go_roundg (ml.length - (i + 1))
              case measure => have := HI.out; omega
              case rel => exact ⟨i + 1, f, t, by have := HIL.out; omega, rfl, rfl, by rw [HW8.out], HST, ⟨by have := HB.out; have := HN.out; omega⟩, HS⟩
end Go.Proofs.Ytiiljdglbfgdbaa.Rcv
/-! The receiver's methods: Clone. -/
namespace Go.Proofs.Ytiiljdglbfgdbaa.Rcv
open Go Go.RowKit Go.Proofs.YtiiljdglbfgdbaaW.PrintWords Go.Proofs.YtiiljdglbfgdbaaW.PrintLast Go.Proofs.YtiiljdglbfgdbaaW.PrintMore Go.Proofs.Ytiiljdglbfgdbaa Go.Proofs.Ytiiljdglbfgdbaa.Sl Go.Proofs.Ytiiljdglbfgdbaa.S
theorem flat_G : Flat kG := flat_iso (flat_pair (flat_int _) (flat_int _))
theorem mapsClone_c {w0 W : World} {l : List As} {bm : Nat} {M : List (Int × Value)} (HS : SL w0 W l) (hm : MapA .u32 bm M ∈ l) :
    Calls Try.prog 54 #[.map (some bm)] W fun e w' => ∃ b2, e = .returned (.map (some b2)) ∧ SL w0 w' (MapA .u32 b2 M :: l) := by
  have hM := HS.mapAt hm
  obtain ⟨h1, h2, es, c, h3, h4, h5, h6⟩ := hM
  refine (AnyW.maps_Clone Try.mapsClone bm es c W h3).mono ?_
  rintro e w' ⟨rfl, rfl⟩
  exact ⟨W.heap.size, rfl, HS.add (below_alloc (Below.refl _ _) _) (f := fun k => k = W.heap.size) ⟨rfl, h1, h2, es, c, heap_alloc_new W _, h4, h5, h6⟩ (fun k hk => by omega)⟩
theorem cloneG_c {w0 W : World} {l : List As} (HS : SL w0 W l) (A : Option Addr) (c : Nat) (xs : List Gp) (hC : kG.C W A xs.length xs) (hl : xs.length ≤ 4000000) :
    Calls Try.prog 55 #[.slice A xs.length c] W fun e w' => ∃ v, e = .returned v ∧ SL w0 w' (Row kG 76 v xs :: l) := by
  have hq : ∀ (W : World) (a : Option Addr) (n c n' c' : Nat), (binOp .eql 71 (.slice a n c) (.slice none n' c')).run Try.prog W = .ok (.bool a.isNone) W := fun W a n c n' c' => Lib.run_eql_slice_nil W _ _ a n c n' c' Try.underlying71
  have HS := Aside0.mk HS
  rcases A with _ | ad
  · have hn : xs.length = 0 := by
      rcases Nat.eq_zero_or_pos xs.length with h0 | h0
      · exact h0
      · obtain ⟨ad, h1, _⟩ := hC.2.2 h0
        cases h1
    obtain rfl : xs = [] := List.eq_nil_of_length_eq_zero hn
    clear hn hC hl
    go_enter Try.func55, Try.ntmps55
    go_wp2
    go_ret
    exact ⟨_, rfl, SL.addNil _ _ HS.out⟩
  · have HR := Aside0.mk hC
    have HL := Aside0.mk hl
    clear hC hl
    go_enter Try.func55, Try.ntmps55
    go_wp2_with (first | ((with_reducible refine gate_builtin (b := .append) (xs := #[.tmp 5, .tmp 6]) rfl ?_); at_builtin; refine wpList_appendN kG flat_G rfl (.tmp 5) (.tmp 6) 71 76 (.agg #[.int .u32 0, .int .u32 0]) 8 rfl Try.underlying71 infoG rfl (by decide) (by omega) (.slice (some ⟨W.heap.size, 0, none⟩) 0 0) [] xs (some ad) xs.length c rfl rfl (SL.lit (xs := []) (cs := []) HS.out (fun _ _ _ => Reps.none _ _) (by decide)) (Kd.C_below HR.out (below_alloc (Below.refl _ _) _)) (by have := HL.out; simp; omega) ?_; intro v1 w1 hs; have hs2 := Aside0.mk hs; clear HS hs; have HS := hs2; clear hs2))
    go_ret
    exact ⟨v1, rfl, by simpa using HS.out⟩
set_option maxHeartbeats 2000000 in
set_option maxRecDepth 100000 in
theorem clone_c {w0 W : World} {l : List As} {b : Nat} {x : RS} (hx : x.Ok) (HS : SL w0 W (RecvA b x :: l)) :
    Calls Try.prog 45 #[.pointer (some ⟨b, 0, none⟩)] W fun e w' => ∃ b', e = .returned (.pointer (some ⟨b', 0, none⟩)) ∧ SL w0 w' (RecvA b' x :: RecvA b x :: l) := by
  obtain ⟨bm, Ai, ci, Ag, cg, hci, hcg, h⟩ := RecvA.open_ HS
  have HS := Aside0.mk h
  have HX := Aside0.mk hx
  have hu := Try.underlying73
  clear h hci hcg hx
  obtain ⟨⟨q0, z0⟩, ⟨q1, z1⟩, ⟨q2, z2⟩, ⟨q3, z3⟩, ⟨q4, z4⟩, ⟨q5, z5⟩, ⟨q6, z6⟩⟩ := cells7 HS.out m0
  go_enter Try.func45, Try.ntmps45
  go_wp2_with fail
  have hs2 := Aside0.mk (SL.new HS.out #[.int .u32 x.r, .int .u32 x.h, .int .u32 x.mr, .int .i64 x.win, .map (some bm), .slice Ai x.inb.length ci, .slice Ag x.gaps.length cg] 73)
  clear HS q0 z0 q1 z1 q2 z2 q3 z3 q4 z4 q5 z5 q6 z6
  have HS := hs2
  clear hs2
  generalize World.alloc _ _ = w1 at HS ⊢
  generalize W.heap.size = b3 at *
  have q4 := (cells7 HS.out m1).2.2.2.2.1.1
  have q5 := (cells7 HS.out m1).2.2.2.2.2.1.1
  have q6 := (cells7 HS.out m1).2.2.2.2.2.2.1
  refine start_ (n := 21) (S := fun w' => w'.cell? ⟨b, 4, none⟩ = some (.map (some bm)) ∧ w'.cell? ⟨b, 5, none⟩ = some (.slice Ai x.inb.length ci) ∧ w'.cell? ⟨b, 6, none⟩ = some (.slice Ag x.gaps.length cg)) (ds := []) #[false, false, false, false, false, false, false, false, false, false, false, false, false, false, false, false, false, false, false, false, false] (by kernel_rfl) rfl rfl ⟨q4, q5, q6⟩ (fun hHeld => ?_)
  have hs_ := Aside0.mk (SL.drew (W := w1) (by repeat (first | (with_reducible exact HS.out) | (with_reducible apply SL.alloc) | (with_reducible apply SL.drewN) | (with_reducible apply SL.drew))))
  clear HS
  have HS := hs_
  clear hs_
  generalize (w1 : World).drew = W4 at HS hHeld q4 q5 q6 ⊢
  refine pure_ (i := 0) (N := (some 7)) (v := ?_) (a' := ?_) #[true, false, false, false, false, false, false, false, false, false, false, false, false, false, false, false, false, false, false, false, false] rfl rfl (by kernel_rfl) (fun _ _ _ h => h) (Or.inl ⟨by rfl, ?_⟩) ?_ ?_
  rotate_left
  · intro w'; go_simp; with_reducible rfl
  rotate_left
  · simp only [Act.put, List.setIfInBounds_toArray, List.set_cons_zero, List.set_cons_succ, i64_w, i32_w]; rfl
  refine pure_ (i := 1) (N := (some 8)) (v := ?_) (a' := ?_) #[true, true, false, false, false, false, false, false, false, false, false, false, false, false, false, false, false, false, false, false, false] rfl rfl (by kernel_rfl) (fun _ _ _ h => h) (Or.inl ⟨by rfl, ?_⟩) ?_ ?_
  rotate_left
  · intro w'; go_simp; with_reducible rfl
  rotate_left
  · simp only [Act.put, List.setIfInBounds_toArray, List.set_cons_zero, List.set_cons_succ, i64_w, i32_w]; rfl
  refine pure_ (i := 2) (N := (some 9)) (v := ?_) (a' := ?_) #[true, true, true, false, false, false, false, false, false, false, false, false, false, false, false, false, false, false, false, false, false] rfl rfl (by kernel_rfl) (fun _ _ _ h => h) (Or.inl ⟨by rfl, ?_⟩) ?_ ?_
  rotate_left
  · intro w'; go_simp; with_reducible rfl
  rotate_left
  · simp only [Act.put, List.setIfInBounds_toArray, List.set_cons_zero, List.set_cons_succ, i64_w, i32_w]; rfl
  refine pure_ (i := 5) (N := (some 12)) (v := ?_) (a' := ?_) #[true, true, true, false, false, true, false, false, false, false, false, false, false, false, false, false, false, false, false, false, false] rfl rfl (by kernel_rfl) (fun _ _ _ h => h) (Or.inl ⟨by rfl, ?_⟩) ?_ ?_
  rotate_left
  · intro w'; go_simp; with_reducible rfl
  rotate_left
  · simp only [Act.put, List.setIfInBounds_toArray, List.set_cons_zero, List.set_cons_succ, i64_w, i32_w]; rfl
  refine pure_ (i := 6) (N := (some 13)) (v := ?_) (a' := ?_) #[true, true, true, false, false, true, true, false, false, false, false, false, false, false, false, false, false, false, false, false, false] rfl rfl (by kernel_rfl) (fun _ _ _ h => h) (Or.inl ⟨by rfl, ?_⟩) ?_ ?_
  rotate_left
  · intro w'; go_simp; with_reducible rfl
  rotate_left
  · simp only [Act.put, List.setIfInBounds_toArray, List.set_cons_zero, List.set_cons_succ, i64_w, i32_w]; rfl
  refine pure_ (i := 7) (N := (some 14)) (v := ?_) (a' := ?_) #[true, true, true, false, false, true, true, true, false, false, false, false, false, false, false, false, false, false, false, false, false] rfl rfl (by kernel_rfl) (fun _ _ _ h => h) (Or.inl ⟨by rfl, ?_⟩) ?_ ?_
  rotate_left
  · intro w'; go_simp; with_reducible rfl
  rotate_left
  · simp only [Act.put, List.setIfInBounds_toArray, List.set_cons_zero, List.set_cons_succ, i64_w, i32_w]; rfl
  refine pure_ (i := 10) (N := (some 17)) (v := ?_) (a' := ?_) #[true, true, true, false, false, true, true, true, false, false, true, false, false, false, false, false, false, false, false, false, false] rfl rfl (by kernel_rfl) (fun _ _ _ h => h) (Or.inl ⟨by rfl, ?_⟩) ?_ ?_
  rotate_left
  · intro w'; go_simp; with_reducible rfl
  rotate_left
  · simp only [Act.put, List.setIfInBounds_toArray, List.set_cons_zero, List.set_cons_succ, i64_w, i32_w]; rfl
  refine pure_ (i := 11) (N := (some 18)) (v := ?_) (a' := ?_) #[true, true, true, false, false, true, true, true, false, false, true, true, false, false, false, false, false, false, false, false, false] rfl rfl (by kernel_rfl) (fun _ _ _ h => h) (Or.inl ⟨by rfl, ?_⟩) ?_ ?_
  rotate_left
  · intro w'; go_simp; with_reducible rfl
  rotate_left
  · simp only [Act.put, List.setIfInBounds_toArray, List.set_cons_zero, List.set_cons_succ, i64_w, i32_w]; rfl
  refine pure_ (i := 12) (N := (some 19)) (v := ?_) (a' := ?_) #[true, true, true, false, false, true, true, true, false, false, true, true, true, false, false, false, false, false, false, false, false] rfl rfl (by kernel_rfl) (fun _ _ _ h => h) (Or.inl ⟨by rfl, ?_⟩) ?_ ?_
  rotate_left
  · intro w'; go_simp; with_reducible rfl
  rotate_left
  · simp only [Act.put, List.setIfInBounds_toArray, List.set_cons_zero, List.set_cons_succ, i64_w, i32_w]; rfl
  refine take_ (i := 3) (N := (some 10)) (v := ?_) (a' := ?_) #[true, true, true, true, false, true, true, true, false, false, true, true, true, false, false, false, false, false, false, false, false] rfl rfl (by kernel_rfl) (fun _ _ _ h => h) (Or.inl ⟨by rfl, ?_⟩) hHeld ?_ ?_
  rotate_left
  · rintro w' ⟨s0, s1, s2⟩; go_simp; with_reducible rfl
  rotate_left
  · simp only [Act.put, List.setIfInBounds_toArray, List.set_cons_zero, List.set_cons_succ, i64_w, i32_w]; rfl
  refine take_ (i := 8) (N := (some 15)) (v := ?_) (a' := ?_) #[true, true, true, true, false, true, true, true, true, false, true, true, true, false, false, false, false, false, false, false, false] rfl rfl (by kernel_rfl) (fun _ _ _ h => h) (Or.inl ⟨by rfl, ?_⟩) hHeld ?_ ?_
  rotate_left
  · rintro w' ⟨s0, s1, s2⟩; go_simp; with_reducible rfl
  rotate_left
  · simp only [Act.put, List.setIfInBounds_toArray, List.set_cons_zero, List.set_cons_succ, i64_w, i32_w]; rfl
  refine take_ (i := 13) (N := (some 20)) (v := ?_) (a' := ?_) #[true, true, true, true, false, true, true, true, true, false, true, true, true, true, false, false, false, false, false, false, false] rfl rfl (by kernel_rfl) (fun _ _ _ h => h) (Or.inl ⟨by rfl, ?_⟩) hHeld ?_ ?_
  rotate_left
  · rintro w' ⟨s0, s1, s2⟩; go_simp; with_reducible rfl
  rotate_left
  · simp only [Act.put, List.setIfInBounds_toArray, List.set_cons_zero, List.set_cons_succ, i64_w, i32_w]; rfl
  refine one_ (i := 4) (N := (some 11)) #[true, true, true, true, true, true, true, true, true, false, true, true, true, true, false, false, false, false, false, false, false] rfl rfl (by kernel_rfl) (by decide) (fun K hK => ?_)
  refine goes_ Try.func54 (by kernel_rfl) rfl #[.map (some bm)] (by rfl) rfl rfl (by (try simp only [List.map_toArray, List.map_cons, List.map_nil]); first | done | rfl | (simp only [List.length_drop, List.length_take]; rfl)) ?_
  refine (mapsClone_c HS.out m2).mono ?_
  rintro e w5 ⟨b2, rfl, hs⟩
  refine ⟨_, rfl, ?_⟩
  clear HS
  have HS := Aside0.mk hs
  clear hs
  refine hK.out _ _ ⟨(cells7 HS.out m2).2.2.2.2.1.1, (cells7 HS.out m2).2.2.2.2.2.1.1, (cells7 HS.out m2).2.2.2.2.2.2.1⟩ (fun hHeld => ?_)
  clear hK K
  refine norm_ (a' := ?_) ?_ ?_
  rotate_left
  · show Act.put _ (some 11) _ = _; simp only [Act.put, List.setIfInBounds_toArray, List.set_cons_zero, List.set_cons_succ, i64_w, i32_w]; rfl
  refine one_ (i := 9) (N := (some 16)) #[true, true, true, true, true, true, true, true, true, true, true, true, true, true, false, false, false, false, false, false, false] rfl rfl (by kernel_rfl) (by decide) (fun K hK => ?_)
  refine goes_ Try.func35 (by kernel_rfl) rfl #[.slice Ai x.inb.length ci] (by rfl) rfl rfl (by (try simp only [List.map_toArray, List.map_cons, List.map_nil]); first | done | rfl | (simp only [List.length_drop, List.length_take]; rfl)) ?_
  refine (cloneS_c HS.out Ai ci x.inb (SL.reads HS.out m4) (by have := HX.out.inb; omega)).mono ?_
  rintro e w6 ⟨v8, rfl, hs⟩
  refine ⟨_, rfl, ?_⟩
  clear HS
  have HS := Aside0.mk hs
  clear hs
  obtain ⟨A8, c8, e8, _⟩ := SL.form HS.out (.head _)
  subst e8
  refine hK.out _ _ ⟨(cells7 HS.out m3).2.2.2.2.1.1, (cells7 HS.out m3).2.2.2.2.2.1.1, (cells7 HS.out m3).2.2.2.2.2.2.1⟩ (fun hHeld => ?_)
  clear hK K
  refine norm_ (a' := ?_) ?_ ?_
  rotate_left
  · show Act.put _ (some 16) _ = _; simp only [Act.put, List.setIfInBounds_toArray, List.set_cons_zero, List.set_cons_succ, i64_w, i32_w]; rfl
  refine one_ (i := 14) (N := (some 21)) #[true, true, true, true, true, true, true, true, true, true, true, true, true, true, true, false, false, false, false, false, false] rfl rfl (by kernel_rfl) (by decide) (fun K hK => ?_)
  refine goes_ Try.func55 (by kernel_rfl) rfl #[.slice Ag x.gaps.length cg] (by rfl) rfl rfl (by (try simp only [List.map_toArray, List.map_cons, List.map_nil]); first | done | rfl | (simp only [List.length_drop, List.length_take]; rfl)) ?_
  refine (cloneG_c HS.out Ag cg x.gaps (SL.reads HS.out m6) (by have := HX.out.gaps; omega)).mono ?_
  rintro e w7 ⟨v9, rfl, hs⟩
  refine ⟨_, rfl, ?_⟩
  clear HS
  have HS := Aside0.mk (SL.pk [3] hs)
  clear hs
  obtain ⟨A9, c9, e9, _⟩ := SL.form HS.out (.tail _ (.head _))
  subst e9
  obtain ⟨⟨k0, j0⟩, ⟨k1, j1⟩, ⟨k2, j2⟩, ⟨k3, j3⟩, ⟨k4, j4⟩, ⟨k5, j5⟩, ⟨k6, j6⟩⟩ := cells7 HS.out m0
  refine hK.out _ _ ⟨(cells7 HS.out m4).2.2.2.2.1.1, (cells7 HS.out m4).2.2.2.2.2.1.1, (cells7 HS.out m4).2.2.2.2.2.2.1⟩ (fun hHeld => ?_)
  clear hK K
  refine norm_ (a' := ?_) ?_ ?_
  rotate_left
  · show Act.put _ (some 21) _ = _; simp only [Act.put, List.setIfInBounds_toArray, List.set_cons_zero, List.set_cons_succ, i64_w, i32_w]; rfl
  refine pure_ (i := 15) (N := (some 22)) (v := ?_) (a' := ?_) #[true, true, true, true, true, true, true, true, true, true, true, true, true, true, true, true, false, false, false, false, false] rfl rfl (by kernel_rfl) (fun _ _ _ h => h) (Or.inl ⟨by rfl, ?_⟩) ?_ ?_
  rotate_left
  · intro w'; go_simp; with_reducible rfl
  rotate_left
  · simp only [Act.put, List.setIfInBounds_toArray, List.set_cons_zero, List.set_cons_succ, i64_w, i32_w]; rfl
  refine one_ (i := 16) (N := none) #[true, true, true, true, true, true, true, true, true, true, true, true, true, true, true, true, true, false, false, false, false] rfl rfl (by kernel_rfl) (by decide) (fun K hK => ?_)
  refine skip_ (w1 := w7.setCell ⟨b3, 4, none⟩ (.map (some b2))) (by rfl) rfl (by go_simp) ?_
  have hs := SL.set (cs' := #[.int .u32 x.r, .int .u32 x.h, .int .u32 x.mr, .int .i64 x.win, .map (some b2), .slice Ai x.inb.length ci, .slice Ag x.gaps.length cg]) HS.out 4 (.map (some b2)) rfl
  clear HS k0 j0 k1 j1 k2 j2 k3 j3 k4 j4 k5 j5 k6 j6
  have HS := Aside0.mk hs
  clear hs
  obtain ⟨⟨k0, j0⟩, ⟨k1, j1⟩, ⟨k2, j2⟩, ⟨k3, j3⟩, ⟨k4, j4⟩, ⟨k5, j5⟩, ⟨k6, j6⟩⟩ := cells7 HS.out m0
  refine hK.out _ _ ⟨(cells7 HS.out m4).2.2.2.2.1.1, (cells7 HS.out m4).2.2.2.2.2.1.1, (cells7 HS.out m4).2.2.2.2.2.2.1⟩ (fun hHeld => ?_)
  clear hK K
  refine pure_ (i := 17) (N := (some 23)) (v := ?_) (a' := ?_) #[true, true, true, true, true, true, true, true, true, true, true, true, true, true, true, true, true, true, false, false, false] rfl rfl (by kernel_rfl) (fun _ _ _ h => h) (Or.inl ⟨by rfl, ?_⟩) ?_ ?_
  rotate_left
  · intro w'; go_simp; with_reducible rfl
  rotate_left
  · simp only [Act.put, List.setIfInBounds_toArray, List.set_cons_zero, List.set_cons_succ, i64_w, i32_w]; rfl
  refine one_ (i := 18) (N := none) #[true, true, true, true, true, true, true, true, true, true, true, true, true, true, true, true, true, true, true, false, false] rfl rfl (by kernel_rfl) (by decide) (fun K hK => ?_)
  refine skip_ (w1 := (w7.setCell ⟨b3, 4, none⟩ (.map (some b2))).setCell ⟨b3, 5, none⟩ (.slice A8 x.inb.length c8)) (by rfl) rfl (by go_simp) ?_
  have hs := SL.set (cs' := #[.int .u32 x.r, .int .u32 x.h, .int .u32 x.mr, .int .i64 x.win, .map (some b2), .slice A8 x.inb.length c8, .slice Ag x.gaps.length cg]) HS.out 5 (.slice A8 x.inb.length c8) rfl
  clear HS k0 j0 k1 j1 k2 j2 k3 j3 k4 j4 k5 j5 k6 j6
  have HS := Aside0.mk hs
  clear hs
  obtain ⟨⟨k0, j0⟩, ⟨k1, j1⟩, ⟨k2, j2⟩, ⟨k3, j3⟩, ⟨k4, j4⟩, ⟨k5, j5⟩, ⟨k6, j6⟩⟩ := cells7 HS.out m0
  refine hK.out _ _ ⟨(cells7 HS.out m4).2.2.2.2.1.1, (cells7 HS.out m4).2.2.2.2.2.1.1, (cells7 HS.out m4).2.2.2.2.2.2.1⟩ (fun hHeld => ?_)
  clear hK K
  refine pure_ (i := 19) (N := (some 24)) (v := ?_) (a' := ?_) #[true, true, true, true, true, true, true, true, true, true, true, true, true, true, true, true, true, true, true, true, false] rfl rfl (by kernel_rfl) (fun _ _ _ h => h) (Or.inl ⟨by rfl, ?_⟩) ?_ ?_
  rotate_left
  · intro w'; go_simp; with_reducible rfl
  rotate_left
  · simp only [Act.put, List.setIfInBounds_toArray, List.set_cons_zero, List.set_cons_succ, i64_w, i32_w]; rfl
  refine one_ (i := 20) (N := none) #[true, true, true, true, true, true, true, true, true, true, true, true, true, true, true, true, true, true, true, true, true] rfl rfl (by kernel_rfl) (by decide) (fun K hK => ?_)
  refine skip_ (w1 := ((w7.setCell ⟨b3, 4, none⟩ (.map (some b2))).setCell ⟨b3, 5, none⟩ (.slice A8 x.inb.length c8)).setCell ⟨b3, 6, none⟩ (.slice A9 x.gaps.length c9)) (by rfl) rfl (by go_simp) ?_
  have hs := SL.set (cs' := #[.int .u32 x.r, .int .u32 x.h, .int .u32 x.mr, .int .i64 x.win, .map (some b2), .slice A8 x.inb.length c8, .slice A9 x.gaps.length c9]) HS.out 6 (.slice A9 x.gaps.length c9) rfl
  clear HS k0 j0 k1 j1 k2 j2 k3 j3 k4 j4 k5 j5 k6 j6
  have HS := Aside0.mk hs
  clear hs
  obtain ⟨⟨k0, j0⟩, ⟨k1, j1⟩, ⟨k2, j2⟩, ⟨k3, j3⟩, ⟨k4, j4⟩, ⟨k5, j5⟩, ⟨k6, j6⟩⟩ := cells7 HS.out m0
  refine hK.out _ _ ⟨(cells7 HS.out m4).2.2.2.2.1.1, (cells7 HS.out m4).2.2.2.2.2.1.1, (cells7 HS.out m4).2.2.2.2.2.2.1⟩ (fun hHeld => ?_)
  clear hK K
  refine done_ (by kernel_rfl) ?_
  go_wp2_with fail
  go_ret
  refine ⟨b3, rfl, ?_⟩
  have h1 := SL.pk [0, 2, 1, 0] HS.out
  have h2 : SL w0 _ (partsR b3 x b2 (.slice A8 x.inb.length c8) (.slice A9 x.gaps.length c9) ++ (partsR b x bm (.slice Ai x.inb.length ci) (.slice Ag x.gaps.length cg) ++ l)) := h1
  exact SL.swap (RecvA.shut (SL.sink (p := partsR b x bm (.slice Ai x.inb.length ci) (.slice Ag x.gaps.length cg)) (RecvA.shut h2)))
end Go.Proofs.Ytiiljdglbfgdbaa.Rcv
/-! Is: the law's own comparison of a receiver and the document's. -/
namespace Go.Proofs.Ytiiljdglbfgdbaa.Rcv
open Go Go.RowKit Go.Proofs.YtiiljdglbfgdbaaW.PrintWords Go.Proofs.YtiiljdglbfgdbaaW.PrintLast Go.Proofs.YtiiljdglbfgdbaaW.PrintMore Go.Proofs.Ytiiljdglbfgdbaa Go.Proofs.Ytiiljdglbfgdbaa.Sl Go.Proofs.Ytiiljdglbfgdbaa.S
set_option maxHeartbeats 2000000 in
set_option maxRecDepth 100000 in
theorem of12_s (a b : Int) (h : -9223372036854775808 ≤ b ∧ b ≤ 9223372036854775807) (ha : 0 ≤ a ∧ a < 4294967296) (w : World) : Calls Try.prog 41 #[.int .u32 a, .int .i64 b] w fun e w' => e = .returned (.bool (a == lowN b)) ∧ w' = w := by
  have e : wrap64 a = a := by unfold wrap64; omega
  have H := Aside0.mk (of1_s b h)
  clear h ha
  go_enter Try.func41, Try.ntmps41
  go_wp2_with (go_at_call 37; (with_reducible refine (H.out _).mono ?_); rintro e w1 ⟨rfl, rfl⟩; skip)
  go_ret
  exact ⟨rfl, rfl⟩
theorem of12_t (a b : Int) (h : -9223372036854775808 ≤ b ∧ b ≤ 9223372036854775807) (he : a = lowN b) (w : World) : Calls Try.prog 41 #[.int .u32 a, .int .i64 b] w fun e w' => e = .returned (.bool true) ∧ w' = w := by
  have hr : 0 ≤ lowN b ∧ lowN b < 16777216 := by unfold lowN; omega
  have := of12_s a b h (by omega) w
  rw [show (a == lowN b) = true from beq_iff_eq.2 he] at this
  exact this
set_option maxHeartbeats 2000000 in
set_option maxRecDepth 100000 in
theorem is_c {w0 W : World} {l : List As} {b : Nat} {x : RS} {v : Value} {y : RR} {hd : List Hd} (hy : y.Ok) (h1 : x.r = lowN y.R) (h2 : x.h = lowN y.H) (h3 : x.mr = lowN y.MR) (h4 : x.buf.length = y.buf.length) (h5 : x.inb.length = y.inb.length) (h6 : x.gaps.length = y.gaps.length)
    (HS : SL w0 W (RecvA b x :: RefA v y hd :: l)) :
    Calls Try.prog 25 #[.pointer (some ⟨b, 0, none⟩), v] W fun e w' => e = .returned (.bool true) ∧ SL w0 w' (RecvA b x :: RefA v y hd :: l) := by
  obtain ⟨A1, A2, A3, c1, c2, c3, rfl, hh⟩ := HS.know m1
  have O1 := Aside0.mk (of12_t x.r y.R (by have := hy.R; omega) h1)
  have O2 := Aside0.mk (of12_t x.h y.H (by have := hy.H; have := hy.R; omega) h2)
  have O3 := Aside0.mk (of12_t x.mr y.MR (by have := hy.MR; omega) h3)
  have p4 : ((x.buf.length : Int) == (y.buf.length : Int)) = true := beq_iff_eq.2 (by rw [h4])
  have p5 : ((x.inb.length : Int) == (y.inb.length : Int)) = true := beq_iff_eq.2 (by rw [h5])
  have p6 : ((x.gaps.length : Int) == (y.gaps.length : Int)) = true := beq_iff_eq.2 (by rw [h6])
  have hs2 := Aside0.mk (SL.swap (SL.new HS (cellsD y.R y.H y.MR y.W (.slice A1 y.buf.length c1) (.slice A2 y.inb.length c2) (.slice A3 y.gaps.length c3)) 52))
  have HH := Aside0.mk hs2.out
  have hu := Try.underlying52
  have hu2 := Try.underlying36
  clear HS hh h1 h2 h3 h4 h5 h6 hs2
  unfold RefV
  go_enter Try.func25, Try.ntmps25
  go_wp2_with (first
    | (go_at_call 16; (with_reducible refine (vars_c HH.out).mono ?_); rintro e w1 ⟨rfl, hs⟩; clear HH; have HS := Aside0.mk hs; clear hs; obtain ⟨⟨q0, z0⟩, ⟨q1, z1⟩, ⟨q2, z2⟩, ⟨q3, z3⟩, ⟨q4, z4⟩, ⟨q5, z5⟩, ⟨q6, z6⟩⟩ := cells7 HS.out m1; have k0 : ∀ o : Obj, (w1.alloc o).cell? ⟨W.heap.size, 0, none⟩ = some (.int .i64 y.R) := (fun o => pw_cell_below (below_alloc (Below.refl _ _) o) q0); have k1 : ∀ o : Obj, (w1.alloc o).cell? ⟨W.heap.size, 1, none⟩ = some (.int .i64 y.H) := (fun o => pw_cell_below (below_alloc (Below.refl _ _) o) q1); have k2 : ∀ o : Obj, (w1.alloc o).cell? ⟨W.heap.size, 2, none⟩ = some (.int .i64 y.MR) := (fun o => pw_cell_below (below_alloc (Below.refl _ _) o) q2); have k4 : ∀ o : Obj, (w1.alloc o).cell? ⟨W.heap.size, 4, none⟩ = some (.slice A1 y.buf.length c1) := (fun o => pw_cell_below (below_alloc (Below.refl _ _) o) q4); have k5 : ∀ o : Obj, (w1.alloc o).cell? ⟨W.heap.size, 5, none⟩ = some (.slice A2 y.inb.length c2) := (fun o => pw_cell_below (below_alloc (Below.refl _ _) o) q5); have k6 : ∀ o : Obj, (w1.alloc o).cell? ⟨W.heap.size, 6, none⟩ = some (.slice A3 y.gaps.length c3) := (fun o => pw_cell_below (below_alloc (Below.refl _ _) o) q6))
    | (go_at_call 41; (with_reducible refine (O1.out _).mono ?_); rintro e w5 ⟨rfl, rfl⟩; skip)
    | (go_at_call 41; (with_reducible refine (O2.out _).mono ?_); rintro e w5 ⟨rfl, rfl⟩; skip)
    | (go_at_call 41; (with_reducible refine (O3.out _).mono ?_); rintro e w5 ⟨rfl, rfl⟩; skip))
  go_ret
  exact ⟨rfl, by (with_reducible repeat (first | apply SL.alloc | apply SL.drewN | apply SL.drew)); exact SL.sub HS.out (.cons_cons _ (.cons _ (List.Sublist.refl _)))⟩
end Go.Proofs.Ytiiljdglbfgdbaa.Rcv
