/- RecvGaps: the walk. -/
import Derived.Test.YtiiljdglbfgdbaaRcv3
import Derived.Laws.Bits128

set_option linter.unusedVariables false
set_option linter.unusedSimpArgs false
namespace Go.Proofs.Ytiiljdglbfgdbaa.S
open Go Go.RowKit Go.Proofs.YtiiljdglbfgdbaaW.PrintWords Go.Proofs.YtiiljdglbfgdbaaW.PrintLast Go.Proofs.YtiiljdglbfgdbaaW.PrintMore Go.Proofs.Ytiiljdglbfgdbaa Go.Proofs.Ytiiljdglbfgdbaa.Sl Go.Proofs.Ytiiljdglbfgdbaa.SpanTh Go.Proofs.Ytiiljdglbfgdbaa.SpanEv Go.Proofs.Ytiiljdglbfgdbaa.Rcv
theorem polliwoglaw12_RecvGaps.and63 (n : Int) : Go.bits .and .i64 n 63 = n % 64 := by
  have h127 : (BitVec.ofInt 64 63).toNat = 2 ^ 6 - 1 := by decide
  have key : (BitVec.ofInt 64 n &&& BitVec.ofInt 64 63).toNat = (n % ((2 ^ 64 : Nat) : Int)).toNat % 2 ^ 6 := by
    rw [BitVec.toNat_and, BitVec.toNat_ofInt, h127, Nat.and_two_pow_sub_one_eq_mod]
  show IntKind.i64.wrap ((BitVec.ofInt 64 n &&& BitVec.ofInt 64 63).toNat : Nat) = n % 64
  rw [key, IntKind.wrap_i64]
  omega
/-- A map of counts: each at most top, those that are not 0 at numbers below b. -/
def polliwoglaw12_RecvGaps.Cnt (M : List (Int × Value)) (top : Int) (b : Int) : Prop := ∀ y, ∃ v : Int, (Im.look M y).getD (.int .i64 0) = .int .i64 v ∧ 0 ≤ v ∧ v ≤ top ∧ (0 < v → y < b)
theorem polliwoglaw12_RecvGaps.Cnt.put {M : List (Int × Value)} {top b top2 b2 y v : Int} (h : polliwoglaw12_RecvGaps.Cnt M top b) (h1 : 0 ≤ v) (h2 : v ≤ top2) (h3 : y < b2) (h4 : top ≤ top2) (h5 : b ≤ b2) : polliwoglaw12_RecvGaps.Cnt (Im.put M y (.int .i64 v)) top2 b2 := fun z => by
  rw [Im.look_put]
  by_cases hz : z = y
  · rw [if_pos hz]
    exact ⟨v, rfl, h1, h2, fun _ => by omega⟩
  · rw [if_neg hz]
    obtain ⟨u, e, u1, u2, u3⟩ := h z
    exact ⟨u, e, u1, by omega, fun hu => by have := u3 hu; omega⟩
theorem polliwoglaw12_RecvGaps.start (a0 : Int) : GS (lowN a0) 0 0 0 (newF (lowN a0) 64) := by
  have e4 : lowN (lowN a0) = addN (lowN a0) 0 := by unfold lowN addN; omega
  have e5 : addN (lowN (lowN a0)) 64 = addN (lowN a0) 64 := by unfold lowN addN; omega
  exact ⟨e4, e4, Nat.le_refl _, by decide, (show max 1 (min (64 : Int) 64) = 64 by decide), rfl, e5, fun _ hp => absurd hp (List.not_mem_nil), Nat.le_refl _⟩
theorem polliwoglaw12_RecvGaps.wfI {a : Int} (h : 0 ≤ a ∧ a < 16777216) : (Lit.int .i64 a).wf = true := by
  simp [Lit.wf, IntKind.min, IntKind.max, IntKind.signed, IntKind.bits]
  omega
theorem polliwoglaw12_RecvGaps.dataOk {s : Int} {a b c : Nat} {x : RS} (h : GS s a b c x) (hc : c ≤ 999) (hg : x.gaps = []) (n : Nat) (m : ByteArray) : (dataG { x with buf := bput x.buf (lowN (addN s n)) m } (lowN (addN s n))).Ok := by
  have hl := bput_len x.buf (lowN (addN s n)) m
  have hl2 := h.len
  have h3 := h.ab
  have h4 := h.b64
  have h2 := h.inb
  unfold dataG
  split
  · exact ⟨by rw [h.r]; exact addN_range _ _, by rw [h.h]; exact addN_range _ _, by rw [h.mr]; exact addN_range _ _, by rw [h.win]; decide, by show (bput x.buf (lowN (addN s n)) m).length ≤ 1000000; omega, by show x.inb.length ≤ 1000000; omega, by rw [hg]; decide⟩
  · refine ⟨by rw [h.r]; exact addN_range _ _, addN_range _ _, by rw [h.mr]; exact addN_range _ _, by rw [h.win]; decide, by show (bput x.buf (lowN (addN s n)) m).length ≤ 1000000; omega, by show x.inb.length ≤ 1000000; omega, ?_⟩
    simp only
    rw [hg]
    split
    · exact (show (1 : Nat) ≤ 8 by decide)
    · exact (show (0 : Nat) ≤ 8 by decide)
set_option maxHeartbeats 2000000 in
set_option maxRecDepth 100000 in
theorem polliwoglaw12_RecvGaps.walk (a0 : Int) (A : Option Addr) (c : Nat) (l : List Int) (w : World) (hr : (Kd.int .i64).C w A l.length l) (hc : l.length ≤ c) :
    Calls Try.prog 3 #[.int .i64 a0, .slice A l.length c] w fun e w' => e = .returned (.bool true) ∧ Below w.heap.size w w' := by
  have HS := Aside0.mk (SL.start w)
  have HR0 := Aside0.mk hr
  have HC0 := Aside0.mk hc
  clear hr hc
  have hmm := @run_makeMap Try.prog
  have hf0 : ∀ (a b c d e f : Value) (w : World), (Instr.field 36 (.agg #[a, b, c, d, e, f]) 0).run Try.prog w = .ok a w := fun _ _ _ _ _ _ _ => by kernel_rfl
  have hf5 : ∀ (a b c d e f : Value) (w : World), (Instr.field 36 (.agg #[a, b, c, d, e, f]) 5).run Try.prog w = .ok f w := fun _ _ _ _ _ _ _ => by kernel_rfl
  have hz : ∀ w, (zeroValue 3).run Try.prog w = .ok (.int .i64 0) w := fun w => by kernel_rfl
  go_enter Try.func3, Try.ntmps3
  go_wp2_with (first
    | (go_at_call 10; (with_reducible refine (awake_c HS.out).mono ?_); rintro e w1 ⟨rfl, hs⟩; have hs2 := Aside0.mk hs; clear HS hs; have HS := hs2; clear hs2)
    | (go_at_call 12; (with_reducible refine (of_c _ _).mono ?_); rintro e w1 ⟨rfl, rfl⟩; skip)
    | (go_at_call 11; (with_reducible refine (new_c HS.out _ _).mono ?_); rintro e w3 ⟨b, rfl, hs⟩; have hs2 := Aside0.mk hs; clear HS hs; have HS := hs2; clear hs2))
  have hs2 := Aside0.mk (show SL w _ [RecvA b (newF (lowN a0) 64), MapA .i64 w3.heap.size [], MapA .i64 (w3.heap.size + 1) []] from SL.pk [2, 1] (by have h := (HS.out.newMap .i64).newMap .i64; rw [show (w3.alloc (.map #[] 0)).heap.size = w3.heap.size + 1 by simp] at h; exact h))
  clear HS
  have HS := hs2
  clear hs2
  have HG := Aside0.mk (polliwoglaw12_RecvGaps.start a0)
  have HX0 : Aside0 ((newF (lowN a0) 64).gaps = [] ∧ (∀ p ∈ (newF (lowN a0) 64).buf, p.1 ≠ addN (lowN a0) 0)) := ⟨⟨rfl, fun _ hp => absurd hp (List.not_mem_nil)⟩⟩
  have HC : Aside0 (polliwoglaw12_RecvGaps.Cnt [] 0 0) := ⟨fun y => ⟨0, rfl, Int.le_refl _, Int.le_refl _, fun h => absurd h (by decide)⟩⟩
  have HT : Aside0 (polliwoglaw12_RecvGaps.Cnt [] 1 0) := ⟨fun y => ⟨0, rfl, Int.le_refl _, by decide, fun h => absurd h (by decide)⟩⟩
  generalize newF (lowN a0) 64 = x0 at HS HG HX0
  obtain ⟨b6, hb6⟩ : ∃ b6, w3.heap.size = b6 := ⟨_, rfl⟩
  obtain ⟨b7, hb7⟩ : ∃ b7, w3.heap.size + 1 = b7 := ⟨_, rfl⟩
  rw [hb7, hb6] at HS
  rw [hb7, hb6]
  obtain ⟨s, hs0⟩ : ∃ s, lowN a0 = s := ⟨_, rfl⟩
  rw [hs0] at HG HX0
  have HOf : Aside0 (∀ W, Calls Try.prog 12 #[.int .i64 a0] W fun e w' => e = .returned (.int .u32 s) ∧ w' = W) := ⟨fun W => hs0 ▸ of_c a0 W⟩
  clear hb6 hb7 hs0
  go_loopg [8] (60 : Nat) (fun kq v8 wr => ∃ (a b2 i : Nat) (x : RS) (cm tm : List (Int × Value)), i + kq = 60 ∧ v8 = .int .i64 i ∧ Aside0 (GS s a b2 i x) ∧ Aside0 (x.gaps = [] ∧ ∀ p ∈ x.buf, p.1 ≠ addN s a) ∧ Aside0 (polliwoglaw12_RecvGaps.Cnt cm i b2) ∧ Aside0 (polliwoglaw12_RecvGaps.Cnt tm 1 b2) ∧ Aside0 (SL w wr [RecvA b x, MapA .i64 b6 cm, MapA .i64 b7 tm]))
  case atStart => exact ⟨0, 0, 0, x0, [], [], rfl, rfl, HG, HX0, HC, HT, HS⟩
  case round =>
    clear HS HG HX0 HC HT
    obtain ⟨a, b2, i, x, cm, tm, hi, rfl, HG, HX, HC, HT, HS⟩ := hrel
    by_cases h1 : i < l.length ∧ i < 60
    case neg =>
      have hv := vars_c HS.out
      rw [HX.out.1] at hv
      by_cases h2 : i < l.length
      · have p1 : decide ((i : Int) < (l.length : Int)) = true := decide_eq_true (by omega)
        have p2 : decide ((i : Int) < 60) = false := decide_eq_false (by omega)
        have h3 : ¬ i < 60 := by omega
        go_wp2_with ((go_at_call 16; (with_reducible refine (hv).mono ?_); rintro e w8 ⟨rfl, hs⟩; clear HS; have HS := Aside0.mk hs; clear hs))
        go_ret
        exact ⟨rfl, HS.out.1⟩
      · have p1 : decide ((i : Int) < (l.length : Int)) = false := decide_eq_false (by omega)
        go_wp2_with ((go_at_call 16; (with_reducible refine (hv).mono ?_); rintro e w8 ⟨rfl, hs⟩; clear HS; have HS := Aside0.mk hs; clear hs))
        go_ret
        exact ⟨rfl, HS.out.1⟩
    have p1 : decide ((i : Int) < (l.length : Int)) = true := decide_eq_true (by omega)
    have p2 : decide ((i : Int) < 60) = true := decide_eq_true (by omega)
    have HI := Aside0.mk hi
    have HH1 := Aside0.mk h1
    have h1a := h1.1
    have h1b := h1.2
    obtain ⟨ad, ead, hx⟩ := Kd.at_int (Kd.C_below HR0.out HS.out.1) (i : Int) (Int.natCast_nonneg _) (Int.ofNat_lt.2 h1.1)
    rw [Int.toNat_natCast] at hx
    cases ead
    have h63 := polliwoglaw12_RecvGaps.and63
    obtain ⟨n, hn⟩ : ∃ n : Nat, (rd l i) % 64 = (n : Int) := ⟨((rd l i) % 64).toNat, by omega⟩
    have hn63 : n ≤ 63 := by omega
    have HN := Aside0.mk hn63
    clear hi h1 hn63
    obtain ⟨v, ev, v0, v1, v2⟩ := HC.out n
    have hwv : wrap64 (v + 1) = v + 1 := by unfold wrap64; omega
    have HEV := Aside0.mk ev
    have HV := Aside0.mk (And.intro v0 v1)
    have hwfn : Aside0 ((Lit.int .i64 (n : Int)).wf = true) := ⟨polliwoglaw12_RecvGaps.wfI (by omega)⟩
    have HOK := Aside0.mk (polliwoglaw12_RecvGaps.dataOk HG.out (by omega) HX.out.1 n ⟨#[109]⟩)
    clear ev v0 v1 v2
    go_wp2_with (first
      | (go_at_call 12; (with_reducible refine (HOf.out _).mono ?_); rintro e w5 ⟨rfl, rfl⟩; skip)
      | (go_at_call 14; (with_reducible refine (add_c _ _ _).mono ?_); rintro e w5 ⟨rfl, rfl⟩; skip)
      | (go_at_call 13; (with_reducible refine (data_c HS.out (addN s n) ⟨#[109]⟩ HOK.out).mono ?_); rintro e w6 ⟨v6, rfl, hs⟩; clear HS; have HS := Aside0.mk (SL.tail hs); clear hs)
      | (at_lookup; refine Im.wpList_look _ rfl _ _ 29 rfl 3 3 .i64 Try.underlying29 Try.underlying3 (.int .i64 0) (hz _) b6 cm rfl (SL.mapAt HS.out (.tail _ (.head _))) n rfl hwfn.out ?_; rw [HEV.out])
      | (at_mapUpdate; refine wpList_mput rfl _ _ _ 29 rfl 3 3 .i64 Try.underlying29 Try.underlying3 b6 cm rfl (SL.swap HS.out) n _ rfl rfl hwfn.out ?_; intro w7 hs; clear HS; have HS := Aside0.mk (SL.swap hs); clear hs))
    rw [hwv] at HS
    have HS3 : Aside0 (SL w w7 [RecvA b (dataF x (addN s n) ⟨#[109]⟩).1, MapA .i64 b6 (Im.put cm n (.int .i64 (v + 1))), MapA .i64 b7 tm]) := HS
    clear HS
    have HS := HS3
    clear HS3
    have HC2 := Aside0.mk (polliwoglaw12_RecvGaps.Cnt.put (y := n) (v := v + 1) (top2 := ((i + 1 : Nat) : Int)) (b2 := max (b2 : Int) (n + 1)) HC.out (by have := HV.out; omega) (by have := HV.out; omega) (by omega) (by omega) (by omega))
    have HCk : Aside0 (∀ k : Int, (b2 : Int) ≤ k → k ≠ n → (Im.look (Im.put cm n (.int .i64 (v + 1))) k).getD (.int .i64 0) = .int .i64 0) := ⟨fun k hk hkn => by
      rw [Im.look_put, if_neg hkn]
      obtain ⟨u, e, u1, u2, u3⟩ := HC.out k
      rw [e, show u = 0 by (have h9 := fun h => u3 h; omega)]⟩
    clear HC HEV hwv
    have hw8 : wrap64 ((i : Int) + 1) = ((i + 1 : Nat) : Int) := by unfold wrap64; omega
    rcases data_gs HG.out HX.out.2 HX.out.1 HN.out ⟨#[109]⟩ with ⟨a', b', hb1, hb2, hG, hS, hGp⟩ | ⟨hbn, hG, hS, hGp, hBuf⟩
    · have HG2 := Aside0.mk hG
      have HX2 := Aside0.mk (And.intro hGp hS)
      have HB := Aside0.mk (And.intro hb1 hb2)
      clear hG hS hGp hb1 hb2 HG HX HOK
      generalize (dataF x (addN s n) ⟨#[109]⟩).1 = x2 at HS HG2 HX2
      generalize Im.put cm n (.int .i64 (v + 1)) = cm2 at HS HC2
      go_wp2_with fail
      go_frame
      go_loopg [] (0 : Nat) (fun kq wr => kq = 0 ∧ Aside0 (SL w wr [RecvA b x2, MapA .i64 b6 cm2, MapA .i64 b7 tm]))
      case atStart => exact ⟨rfl, HS⟩
      case round =>
        clear HS
        obtain ⟨hk, HS⟩ := hrel
        go_wp2_with ((go_at_call 15; (with_reducible refine (gap0 HG2.out (by omega) HX2.out.1 HS.out).mono ?_); rintro e w8 ⟨rfl, hs⟩; clear HS; have HS := Aside0.mk hs; clear hs))
        go_roundg (60 - (i + 1))
        case measure => have := HI.out; omega
        case rel =>
          refine ⟨a', b', i + 1, x2, cm2, tm, by omega, by rw [show ((i : Int) + 1) = ((i + 1 : Nat) : Int) by omega], HG2, HX2, ⟨fun y => ?_⟩, ⟨fun y => ?_⟩, HS⟩
          · obtain ⟨u, e, u1, u2, u3⟩ := HC2.out y
            exact ⟨u, e, u1, u2, fun h => by have := u3 h; have := HB.out; omega⟩
          · obtain ⟨u, e, u1, u2, u3⟩ := HT.out y
            exact ⟨u, e, u1, u2, fun h => by have := u3 h; have := HB.out; omega⟩
    · have HM : Aside0 (∀ p ∈ (dataF x (addN s n) ⟨#[109]⟩).1.buf, p.1 = addN s n ∨ ∃ k : Nat, k < b2 ∧ p.1 = addN s k) := ⟨fun p hp => (hBuf p hp).imp id (fun h => by
        obtain ⟨k, _, k2, k3⟩ := HG.out.buf p h
        exact ⟨k, k2, k3⟩)⟩
      have hab := HG.out.ab
      have HG2 := Aside0.mk hG
      have HX2 := Aside0.mk (And.intro hGp hS)
      have HB := Aside0.mk (And.intro hab hbn)
      clear hG hS hGp hBuf HG HX HOK hab hbn
      generalize (dataF x (addN s n) ⟨#[109]⟩).1 = x2 at HS HG2 HX2 HM
      generalize Im.put cm n (.int .i64 (v + 1)) = cm2 at HS HC2 HCk
      go_wp2_with fail
      go_frame
      go_loopg [] (1 : Nat) (fun kq wr => (kq = 1 ∧ Aside0 (SL w wr [RecvA b x2, MapA .i64 b6 cm2, MapA .i64 b7 tm])) ∨ (kq = 0 ∧ ∃ tm2, Aside0 (polliwoglaw12_RecvGaps.Cnt tm2 1 (n + 1)) ∧ Aside0 (SL w wr [RecvA b (renewF { x2 with gaps := [] }), MapA .i64 b6 cm2, MapA .i64 b7 tm2])))
      case atStart => exact Or.inl ⟨rfl, HS⟩
      case round =>
        clear HS
        rcases hrel with ⟨hk, HS⟩ | ⟨hk, tm2, HT2, HS⟩
        · have hR := renew_gs HG2.out
          have HR := Aside0.mk hR
          have hv : ∀ {l' : List As} {W : World}, SL w W (RecvA b (renewF { x2 with gaps := [] }) :: l') → Calls Try.prog 16 #[.pointer (some ⟨b, 0, none⟩)] W fun e w' => ∃ h3 h4 h5 h6 h7, e = .returned (.agg #[.int .u32 (addN s a), h3, h4, h5, h6, h7]) ∧ SL w w' (RecvA b (renewF { x2 with gaps := [] }) :: l') := fun h => (vars_c h).mono (fun e w' ⟨h1, h2⟩ => ⟨_, _, _, _, _, by rw [← hR.r]; exact h1, h2⟩)
          have HVs := Aside0.mk @hv
          clear hR hv
          go_wp2_with (first
            | (go_at_call 15; (with_reducible refine (gap1g HG2.out (by omega) HB.out.1 HB.out.2 HM.out HX2.out.1 HS.out).mono ?_); rintro e w8 ⟨A8, c8, mr8, rfl, hs⟩; clear HS; have HS := Aside0.mk hs; clear hs; obtain ⟨ad8, rfl, a0, a1⟩ := at2i (SL.reads HS.out (.tail _ (.head _))))
            | (go_at_call 16; (with_reducible refine (HVs.out HS.out).mono ?_); rintro e w9 ⟨h3, h4, h5, h6, h7, rfl, hs⟩; clear HS a0 a1; have HS := Aside0.mk hs; clear hs; obtain ⟨ad9, e9, a0, a1⟩ := at2i (SL.reads HS.out (.tail _ (.head _))); cases e9))
          have HD := Aside0.mk (And.intro h1a h1b)
          have HT1 : Aside0 (polliwoglaw12_RecvGaps.Cnt tm 1 b2) := HT
          clear a0 a1 HVs HT h1a h1b
          go_loopg [14] (n - b2) (fun kq v14 wr => ∃ (k : Nat) (tm2 : List (Int × Value)), k + kq = n ∧ b2 ≤ k ∧ v14 = .int .u32 (addN s k) ∧ Aside0 (polliwoglaw12_RecvGaps.Cnt tm2 1 k) ∧ Aside0 (SL w wr [RecvA b (renewF { x2 with gaps := [] }), Row (Kd.int .u32) 27 (.slice (some ad8) 2 c8) [addN s b2, addN s n], MapA .i64 b6 cm2, MapA .i64 b7 tm2]))
          case atStart => exact ⟨b2, tm, by have := HB.out; omega, Nat.le_refl _, rfl, HT1, HS⟩
          case round =>
            clear HS HT1
            obtain ⟨k, tm2, hk2, hbk, rfl, HT, HS⟩ := hrel
            obtain ⟨ad9, e9, a0, a1⟩ := at2i (SL.reads HS.out (.tail _ (.head _)))
            cases e9
            by_cases hkn : k = n
            · subst hkn
              have p5 : (addN s (k : Int) != addN s (k : Int)) = false := by simp
              go_wp2_with fail
              go_roundg 0
              case measure => omega
              case rel =>
                refine Or.inr ⟨rfl, tm2, ⟨fun y => ?_⟩, ?_⟩
                · obtain ⟨u, e, u1, u2, u3⟩ := HT.out y
                  exact ⟨u, e, u1, u2, fun h => by have := u3 h; omega⟩
                · exact ⟨SL.sub HS.out (by with_reducible repeat (first | exact List.nil_sublist _ | apply List.Sublist.cons_cons | apply List.Sublist.cons))⟩
            · have p5 : (addN s (k : Int) != addN s (n : Int)) = true := by
                rw [bne_iff_ne]
                intro e
                have := HN.out
                have := addN_inj (s := s) (i := k) (j := n) (by omega) (by omega) e
                omega
              have HK := Aside0.mk hkn
              have hkn2 : k < n := by omega
              have htk : toN s (addN s k) = k := by have := HN.out; unfold toN addN; omega
              have HTo : Aside0 (∀ W, Calls Try.prog 17 #[.int .u32 s, .int .u32 (addN s k)] W fun e w' => e = .returned (.int .i64 (k : Int)) ∧ w' = W) := ⟨fun W => (to_c s (addN s k) W).mono (fun e w' h => ⟨h.1.trans (ret_int htk), h.2⟩)⟩
              have hadd : addN (addN s (k : Int)) 1 = addN s ((k + 1 : Nat) : Int) := by unfold addN; omega
              have HAd : Aside0 (∀ W, Calls Try.prog 14 #[.int .u32 (addN s k), .int .i64 1] W fun e w' => e = .returned (.int .u32 (addN s ((k + 1 : Nat) : Int))) ∧ w' = W) := ⟨fun W => by rw [← hadd]; exact add_c (addN s k) 1 W⟩
              have hl0 : (Im.look tm2 (k : Int)).getD (.int .i64 0) = .int .i64 0 := by
                obtain ⟨u, e, u1, u2, u3⟩ := HT.out k
                rw [e, show u = 0 by (have h9 := fun h => u3 h; omega)]
              have hl1 : (Im.look (Im.put tm2 (k : Int) (.int .i64 1)) (k : Int)).getD (.int .i64 0) = .int .i64 1 := by rw [Im.look_put, if_pos rfl]; rfl
              have hl2 := HCk.out k (by omega) (by omega)
              have HL0 := Aside0.mk hl0
              have HL1 := Aside0.mk hl1
              have HL2 := Aside0.mk hl2
              have hwfk : Aside0 ((Lit.int .i64 (k : Int)).wf = true) := ⟨polliwoglaw12_RecvGaps.wfI (by have := HN.out; omega)⟩
              have hw1 : wrap64 (0 + 1) = 1 := by unfold wrap64; omega
              have HTn : Aside0 (polliwoglaw12_RecvGaps.Cnt (Im.put tm2 k (.int .i64 1)) 1 ((k + 1 : Nat) : Int)) := ⟨polliwoglaw12_RecvGaps.Cnt.put HT.out (by decide) (by decide) (by omega) (Int.le_refl _) (by omega)⟩
              have HK2 := Aside0.mk hk2
              clear hl0 hl1 hl2 htk hadd hkn HT hk2
              go_wp2_with (first
                | (go_at_call 12; (with_reducible refine (HOf.out _).mono ?_); rintro e w5 ⟨rfl, rfl⟩; skip)
                | (go_at_call 17; (with_reducible refine (HTo.out _).mono ?_); rintro e w5 ⟨rfl, rfl⟩; skip)
                | (go_at_call 14; (with_reducible refine (HAd.out _).mono ?_); rintro e w5 ⟨rfl, rfl⟩; skip)
                | (at_lookup; refine Im.wpList_look _ rfl _ _ 29 rfl 3 3 .i64 Try.underlying29 Try.underlying3 (.int .i64 0) (hz _) b7 tm2 rfl (SL.mapAt HS.out (.tail _ (.tail _ (.tail _ (.head _))))) k rfl hwfk.out ?_; rw [HL0.out])
                | (at_lookup; refine Im.wpList_look _ rfl _ _ 29 rfl 3 3 .i64 Try.underlying29 Try.underlying3 (.int .i64 0) (hz _) b7 (Im.put tm2 k (.int .i64 1)) rfl (SL.mapAt HS.out (.head _)) k rfl hwfk.out ?_; rw [HL1.out])
                | (at_lookup; refine Im.wpList_look _ rfl _ _ 29 rfl 3 3 .i64 Try.underlying29 Try.underlying3 (.int .i64 0) (hz _) b6 cm2 rfl (SL.mapAt HS.out (.tail _ (.tail _ (.tail _ (.head _))))) k rfl hwfk.out ?_; rw [HL2.out])
                | (at_mapUpdate; refine wpList_mput rfl _ _ _ 29 rfl 3 3 .i64 Try.underlying29 Try.underlying3 b7 tm2 rfl (SL.pk [3] HS.out) k _ rfl rfl hwfk.out ?_; intro w7 hs; clear HS a0 a1; have HS := Aside0.mk hs; clear hs; have hl9 : (Instr.lookup 29 (.map (some b6)) (.int .i64 (k : Int)) false).run Try.prog w7 = .ok (.int .i64 0) w7 := (by rw [(SL.mapAt HS.out (.tail _ (.tail _ (.tail _ (.head _))))).lookup Try.underlying29 Try.underlying3 (hz _) hwfk.out, HL2.out])))
              go_roundg (n - (k + 1))
              case measure => have := HK2.out; omega
              case rel => exact ⟨k + 1, Im.put tm2 k (.int .i64 1), by have := HK2.out; omega, by omega, by rw [show (k : Int) + 1 = ((k + 1 : Nat) : Int) by omega], HTn, ⟨SL.pk [1, 1, 1] HS.out⟩⟩
        · have hR := renew_gs HG2.out
          have HR := Aside0.mk hR
          clear hR
          go_wp2_with ((go_at_call 15; (with_reducible refine (gap0 HR.out (by omega) rfl HS.out).mono ?_); rintro e w8 ⟨rfl, hs⟩; clear HS; have HS := Aside0.mk hs; clear hs))
          go_roundg (60 - (i + 1))
          case measure => have := HI.out; omega
          case rel =>
            refine ⟨a, n + 1, i + 1, renewF { x2 with gaps := [] }, cm2, tm2, by omega, by rw [show ((i : Int) + 1) = ((i + 1 : Nat) : Int) by omega], HR, ⟨rfl, HX2.out.2⟩, ⟨fun y => ?_⟩, ⟨fun y => ?_⟩, HS⟩
            · obtain ⟨u, e, u1, u2, u3⟩ := HC2.out y
              exact ⟨u, e, u1, u2, fun h => by have := u3 h; have := HB.out; omega⟩
            · obtain ⟨u, e, u1, u2, u3⟩ := HT2.out y
              exact ⟨u, e, u1, u2, fun h => by have := u3 h; omega⟩
/-- What the law answers. -/
def polliwoglaw12_RecvGaps.f (a0 : Int) (l : List Int) : Option Bool := some true
theorem polliwoglaw12_RecvGaps.calls (a0 : Int) (A1 : Option Addr) (c1 : Nat) (l1 : List Int) (r : Bool) (w : World) (hr1 : (Kd.int .i64).C w A1 l1.length l1) (hc1 : l1.length ≤ c1) (h : polliwoglaw12_RecvGaps.f a0 l1 = some r) :
    Calls Try.prog 3 #[.int .i64 a0, .slice A1 l1.length c1] w fun e w' => e = .returned (.bool r) ∧ Below w.heap.size w w' := by
  have e : true = r := Option.some.inj h
  subst e
  exact polliwoglaw12_RecvGaps.walk a0 A1 c1 l1 w hr1 hc1
end Go.Proofs.Ytiiljdglbfgdbaa.S
