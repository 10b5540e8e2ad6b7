/- SpanChanges: its walk. -/
import Derived.Test.YtihobchcmfamaaaHl
import Derived.Test.YtihobchcmfamaaaS0
import Derived.Test.YtihobchcmfamaaaS2
import Derived.Test.YtihobchcmfamaaaS3
import Derived.Test.YtihobchcmfamaaaS6
import Derived.Test.YtihobchcmfamaaaS7
import Derived.Test.YtihobchcmfamaaaS11
import Derived.Test.YtihobchcmfamaaaS18
import Derived.Test.YtihobchcmfamaaaS19
import Derived.Test.YtihobchcmfamaaaS38
import Derived.Test.YtihobchcmfamaaaS39
namespace Go.Proofs.Ytihobchcmfamaaa.S
open Go.RowKit Go.Proofs.YtihobchcmfamaaaW.PrintWords Go.Proofs.YtihobchcmfamaaaW.PrintLast Go.Proofs.YtihobchcmfamaaaW.PrintMore Go.Proofs.Ytihobchcmfamaaa.Sl
attribute [local go_sem] max2_int min2_int max_two min_two max_three min_three max_four min_four
set_option linter.unusedVariables false
set_option linter.unusedSimpArgs false
/-! ### polliwoglaw03_SpanChanges: function 6 -/
def polliwoglaw03_SpanChanges.l1 (k : Nat) (all : List Int) : List Int → List Int → List Int → Option (List Int × List Int)
  | [], wi, ga => some (wi, ga)
  | n :: ns, wi, ga => (polliwogref03_Put_v.f k wi n).bind fun t => (polliwogref03_Has.f k all n).bind fun h => if ga.length < 1099511627776 then polliwoglaw03_SpanChanges.l1 k all ns t (if h = true then ga else ga ++ [n]) else none
def polliwoglaw03_SpanChanges.l2 (k : Nat) (more : List Int) : List Int → List Int → Option (List Int)
  | [], wo => some wo
  | n :: ns, wo => (polliwogref03_Has.f k more n).bind fun h => if wo.length < 1099511627776 then polliwoglaw03_SpanChanges.l2 k more ns (if h = true then wo else wo ++ [n]) else none
theorem polliwoglaw03_SpanChanges.drop_rd (l : List Int) (i : Nat) (h : i < l.length) : l.drop i = rd l (i : Int) :: l.drop (i + 1) := by
  rw [List.drop_eq_getElem_cons h]
  unfold rd
  rw [Int.toNat_natCast, List.getD_eq_getElem?_getD, List.getElem?_eq_getElem h, Option.getD_some]
theorem polliwoglaw03_SpanChanges.first {w0 W : World} {l : List As} {A : Option Addr} {n c : Nat} {x : S45} {one : List S45} (HS : SL w0 W l) (hm : Row k45 45 (.slice A n c) (x :: one) ∈ l) :
    ∃ g o, A = some ⟨g, o, none⟩ ∧ W.cell? ⟨g, o, none⟩ = some (.int .i64 x.f0) ∧ W.cell? ⟨g, o + 1, none⟩ = some (.int .i64 x.f1) := by
  obtain ⟨f, hq, _⟩ := HS.mem hm
  obtain ⟨g, o, cap, e, _⟩ := Kd.Q_form hq (by simp)
  injection e with e1 e2 e3
  subst e1
  obtain ⟨_, _, h⟩ := HS.reads hm
  obtain ⟨ad, ha, hc⟩ := h (by simp)
  injection ha with ha
  subst ha
  obtain ⟨cs, _, hk, hu⟩ := hc 0 x rfl
  have e := k45_open hk
  subst e
  exact ⟨g, o, rfl, hu 0 _ rfl, hu 1 _ rfl⟩
/-- Put over a list that is only read. -/
theorem polliwoglaw03_SpanChanges.put {w0 W : World} {l : List As} {Φ : World → Prop} (HS : SL w0 W (Imm Φ :: l)) (k : Nat) (A : Option Addr) (c : Nat) (wv : List Int) (x : Int) (t : List Int) (hΦ : ∀ W, Φ W → (Kd.int .i64).C W A wv.length wv) (hc : wv.length ≤ c) (h : polliwogref03_Put_v.f k wv x = some t) :
    Calls Try.prog 29 #[.slice A wv.length c, .int .i64 x] W fun e w' => ∃ A' c', e = .returned (.slice A' t.length c') ∧ t.length ≤ c' ∧ SL w0 w' (Imm (fun W => Φ W ∧ (Kd.int .i64).C W A' t.length t) :: l) := by
  obtain ⟨f, hf, hk⟩ := HS.imm_call
  refine (polliwogref03_Put_v.calls k f A c wv x t W ⟨A, c, rfl, hc, fun W' hm => hΦ W' (hf W' hm)⟩ h).mono ?_
  rintro e w' ⟨v, rfl, ⟨A', c', rfl, hle, hv⟩, hb⟩
  exact ⟨A', c', rfl, hle, hk w' _ hb hv⟩
set_option maxHeartbeats 8000000 in
set_option maxRecDepth 100000 in
theorem polliwoglaw03_SpanChanges.walk (k : Nat) (A0 : Option Addr) (c0 : Nat) (l0 : List (S45)) (a1_0 : Int) (a1_1 : Int) (w : World) (hr0 : Kd.C k45 w A0 l0.length l0) (hc0 : l0.length ≤ c0)
    (few : List S45) (all : List Int) (x : S45) (one : List S45) (more : List Int) (s : List S45) (wi ga wo : List Int) (t1 t2 t3 : List S45)
    (h1 : polliwoglaw03_awake.f k = some true) (h2 : polliwoglaw03_Few.f k l0 = some (few, all)) (h3 : polliwoglaw03_Few.f k [⟨a1_0, a1_1⟩] = some (x :: one, more)) (h4 : span_Of.f k few = some s)
    (h5 : polliwoglaw03_SpanChanges.l1 k all more all [] = some (wi, ga)) (h6 : polliwoglaw03_SpanChanges.l2 k more all [] = some wo)
    (h7 : span_Set_Add.f k s x.f0 x.f1 = some t1) (h8 : polliwoglaw03_is.f k t1 wi = some true) (h9 : span_Set_Drop.f k s x.f0 x.f1 = some t2) (h10 : polliwoglaw03_is.f k t2 wo = some true)
    (h11 : span_Set_Gaps.f k s x.f0 x.f1 = some t3) (h12 : polliwoglaw03_is.f k t3 ga = some true) (h13 : polliwoglaw03_is.f k s all = some true) :
    Calls Try.prog 6 #[.slice A0 l0.length c0, .agg #[.int .i64 a1_0, .int .i64 a1_1]] w fun e w' => e = .returned (.bool true) ∧ Below w.heap.size w w' := by
  have hu45 := Try.underlying45
  have H1 := Aside0.mk h1
  have H2 := Aside0.mk h2
  have H3 := Aside0.mk h3
  have H4 := Aside0.mk h4
  have H5 := Aside0.mk h5
  have H6 := Aside0.mk h6
  have H7 := Aside0.mk h7
  have H8 := Aside0.mk h8
  have H9 := Aside0.mk h9
  have H10 := Aside0.mk h10
  have H11 := Aside0.mk h11
  have H12 := Aside0.mk h12
  have H13 := Aside0.mk h13
  clear h1 h2 h3 h4 h5 h6 h7 h8 h9 h10 h11 h12 h13
  have HR0 := Aside0.mk hr0
  have HC0 := Aside0.mk hc0
  clear hr0 hc0
  have HS := Aside0.mk (SL.start w)
  have HF : Aside0 (∀ (A : Option Addr) (W : World), Kd.C k45 W A 1 [(⟨a1_0, a1_1⟩ : S45)] → Calls Try.prog 15 #[.slice A 1 1] W fun e w' => ∃ v0_ v1_ : Value, e = .returned (.tuple #[v0_, v1_]) ∧ Kd.R k45 45 w' W.heap.size (fun _ => True) v0_ (x :: one) ∧ Kd.R (Kd.int .i64) 3 w' W.heap.size (fun _ => True) v1_ more ∧ Below W.heap.size W w') :=
    ⟨fun A W hc => polliwoglaw03_Few.calls k A 1 [⟨a1_0, a1_1⟩] (x :: one) more W hc (Nat.le_refl _) H3.out⟩
  go_enter Try.func6, Try.ntmps6
  go_wp2_with (first
    | ((with_reducible refine gate_callee (f := 21) rfl ?_); refine goesL_ (some 17) rfl rfl Try.func21 (by kernel_rfl) rfl #[] rfl (by (try simp only [List.map_toArray, List.map_cons, List.map_nil]); first | done | rfl | (simp only [List.length_drop, List.length_take]; rfl)) ?_; (with_reducible refine (polliwoglaw03_awake.calls k true _ H1.out).mono ?_); rintro e w1 ⟨rfl, hb⟩; refine ⟨_, rfl, ?_⟩; have hs_ := Aside0.mk (SL.below (SL.new HS.out _ _) hb); clear HS; have HS := hs_; clear hs_; clear hb)
    | ((with_reducible refine gate_callee (f := 15) rfl ?_); refine goesL_ (some 21) rfl rfl Try.func15 (by kernel_rfl) rfl #[.slice A0 l0.length c0] rfl (by (try simp only [List.map_toArray, List.map_cons, List.map_nil]); first | done | rfl | (simp only [List.length_drop, List.length_take]; rfl)) ?_; (with_reducible refine (polliwoglaw03_Few.calls k _ _ l0 few all _ ?s1 ?s2 H2.out).mono ?_); (case s1 => exact Kd.C_below HR0.out (SL.below (by (with_reducible repeat (first | apply SL.alloc | apply SL.drewN | apply SL.drew)); exact HS.out) (Below.refl _ _)).1); (case s2 => exact HC0.out); rintro e w2 ⟨v5, v6, rfl, ho0, ho1, hb⟩; refine ⟨_, rfl, ?_⟩; have hs_ := Aside0.mk (SL.addRow2 (by (with_reducible repeat (first | apply SL.alloc | apply SL.drewN | apply SL.drew)); exact HS.out) hb ho0 ho1 (by decide)); clear HS; have HS := hs_; clear hs_; obtain ⟨A5, c5, e5⟩ := Kd.R_slice ho0; obtain ⟨A6, c6, e6⟩ := Kd.R_slice ho1; subst e5; subst e6; have cx0 := (SL.cell HS.out (.tail _ (.tail _ (.head _))) 0 (v := .int .i64 a1_0) rfl).1; have cx1 := (SL.cell HS.out (.tail _ (.tail _ (.head _))) 1 (v := .int .i64 a1_1) rfl).1; clear hb ho0 ho1)
    | ((with_reducible refine gate_callee (f := 15) rfl ?_); refine goesL_ (some 27) rfl rfl Try.func15 (by kernel_rfl) rfl #[.slice (some ⟨w2.heap.size, 0, none⟩) 1 1] rfl (by (try simp only [List.map_toArray, List.map_cons, List.map_nil]); first | done | rfl | (simp only [List.length_drop, List.length_take]; rfl)) ?_; (with_reducible refine (HF.out _ _ ?s1).mono ?_); (case s1 => exact SL.reads (SL.lit1 (d := k45) (p := ⟨a1_0, a1_1⟩) (cs := [.int .i64 a1_0, .int .i64 a1_1]) HS.out (fun W b o => k45_mkM W b o ⟨a1_0, a1_1⟩)) (.head _)); rintro e w3 ⟨v7, v8, rfl, ho0, ho1, hb⟩; refine ⟨_, rfl, ?_⟩; have hs_ := Aside0.mk (SL.addRow2 (by (with_reducible repeat (first | apply SL.alloc | apply SL.drewN | apply SL.drew)); exact HS.out) hb ho0 ho1 (by decide)); clear HS; have HS := hs_; clear hs_; obtain ⟨A7, c7, e7⟩ := Kd.R_slice ho0; obtain ⟨A8, c8, e8⟩ := Kd.R_slice ho1; subst e7; subst e8; clear hb ho0 ho1)
    | ((with_reducible refine gate_callee (f := 16) rfl ?_); refine goesL_ (some 31) rfl rfl Try.func16 (by kernel_rfl) rfl #[.slice A5 few.length c5] rfl (by (try simp only [List.map_toArray, List.map_cons, List.map_nil]); first | done | rfl | (simp only [List.length_drop, List.length_take]; rfl)) ?_; (with_reducible refine (span_Of.calls k _ _ few s _ ?s1 ?s2 H4.out).mono ?_); (case s1 => exact SL.reads (by (with_reducible repeat (first | apply SL.alloc | apply SL.drewN | apply SL.drew)); exact HS.out) (.tail _ (.tail _ (.head _)))); (case s2 => exact SL.cap HS.out (.tail _ (.tail _ (.head _)))); rintro e w4 ⟨v9, rfl, ho0, hb⟩; refine ⟨_, rfl, ?_⟩; have hs_ := Aside0.mk (SL.addRow (by (with_reducible repeat (first | apply SL.alloc | apply SL.drewN | apply SL.drew)); exact HS.out) hb ho0); clear HS; have HS := hs_; clear hs_; obtain ⟨A9, c9, e9⟩ := Kd.R_slice ho0; subst e9; clear hb ho0))
  clear cx0 cx1
  have HS0 := Aside0.mk (SL.imm_mono (Ψ := fun W => (Kd.int .i64).C W A6 all.length all ∧ (Kd.int .i64).C W A6 all.length all) (SL.row_imm (SL.pull4 (show SL w w4 [Row k45 45 (.slice A9 s.length c9) s, Row k45 45 (.slice A7 (x :: one).length c7) (x :: one), Row (Kd.int .i64) 3 (.slice A8 more.length c8) more, Row k45 45 (.slice A5 few.length c5) few, Row (Kd.int .i64) 3 (.slice A6 all.length c6) all, _] from HS.out))) (fun W ⟨A, c, h, _, hc⟩ => by injection h with h _ _; subst h; exact ⟨hc, hc⟩))
  have hc6 := SL.cap HS.out (.tail _ (.tail _ (.tail _ (.tail _ (.head _)))))
  have HC6 := Aside0.mk hc6
  have HSn := Aside0.mk (SL.addNil (Kd.int .i64) 3 HS0.out)
  clear HS HS0 hc6
  go_loopw [10, 12, 35] (fun v10 v12 v35 wr => ∃ (i : Nat) (wv gv : List Int) (A10 : Option Addr) (c10 : Nat), i ≤ more.length ∧ v35 = .int .i64 i ∧ v10 = .slice A10 wv.length c10 ∧ Aside0 (wv.length ≤ c10) ∧ Aside0 (polliwoglaw03_SpanChanges.l1 k all (more.drop i) wv gv = some (wi, ga)) ∧
    Aside0 (SL w wr [Row (Kd.int .i64) 3 v12 gv, Imm (fun W => (Kd.int .i64).C W A6 all.length all ∧ (Kd.int .i64).C W A10 wv.length wv), Row k45 45 (.slice A9 s.length c9) s, Row k45 45 (.slice A7 (x :: one).length c7) (x :: one), Row (Kd.int .i64) 3 (.slice A8 more.length c8) more])) (fun _ _ v35 _ => more.length - (intOf v35).toNat)
  case atStart => exact ⟨0, all, [], A6, c6, Nat.zero_le _, rfl, rfl, HC6, H5, ⟨SL.sub (by (with_reducible repeat (first | apply SL.alloc | apply SL.drewN | apply SL.drew)); exact HSn.out) (by with_reducible repeat (first | exact List.nil_sublist _ | apply List.Sublist.cons_cons | apply List.Sublist.cons))⟩⟩
  case round =>
    obtain ⟨i, wv, gv, A10, c10, hi, rfl, rfl, HC10, HL, HS⟩ := hrel
    clear HSn H5
    have hmx := SL.most HS.out (.tail _ (.tail _ (.tail _ (.tail _ (.head _)))))
    by_cases hlt : i < more.length
    · have hL := HL.out
      rw [polliwoglaw03_SpanChanges.drop_rd more i hlt] at hL
      simp only [polliwoglaw03_SpanChanges.l1] at hL
      obtain ⟨t, hp, hL⟩ := Option.bind_eq_some_iff.mp hL
      obtain ⟨hh, hq, hL⟩ := Option.bind_eq_some_iff.mp hL
      by_cases hgl : gv.length < 1099511627776
      case neg => rw [if_neg hgl] at hL; cases hL
      rw [if_pos hgl] at hL
      have HP := Aside0.mk hp
      have HQ := Aside0.mk hq
      have HL' := Aside0.mk hL
      have HGL := Aside0.mk hgl
      clear hp hq hL hgl HL
      obtain ⟨ad, ead, hx⟩ := Kd.at_int (SL.reads HS.out (.tail _ (.tail _ (.tail _ (.tail _ (.head _)))))) (i : Int) (Int.natCast_nonneg _) (Int.ofNat_lt.2 hlt)
      cases ead
      have p1 : 0 ≤ (i : Int) := Int.natCast_nonneg _
      have p2 : (i : Int) < (more.length : Int) := Int.ofNat_lt.2 hlt
      have p3 : decide ((i : Int) < (more.length : Int)) = true := decide_eq_true p2
      have p4 : ((i : Int)).toNat = i := Int.toNat_natCast i
      rw [p4] at hx
      generalize rd more (i : Int) = n at *
      have HP4 := Aside0.mk p4
      replace p1 := eq_true p1
      replace p2 := eq_true p2
      cases hh with
      | true =>
        go_wp2_with (first
          | ((with_reducible refine gate_callee (f := 29) rfl ?_); refine goesL_ (some 41) rfl rfl Try.func29 (by kernel_rfl) rfl #[.slice A10 wv.length c10, .int .i64 n] rfl (by (try simp only [List.map_toArray, List.map_cons, List.map_nil]); first | done | rfl | (simp only [List.length_drop, List.length_take]; rfl)) ?_; (with_reducible refine (polliwoglaw03_SpanChanges.put (Φ := fun W => (Kd.int .i64).C W A6 all.length all ∧ (Kd.int .i64).C W A10 wv.length wv) (SL.swap (by (with_reducible repeat (first | apply SL.alloc | apply SL.drewN | apply SL.drew)); exact HS.out)) k A10 c10 wv n t (fun W h => h.2) HC10.out HP.out).mono ?_); rintro e w5 ⟨A', c', rfl, hle, hs⟩; refine ⟨_, rfl, ?_⟩; have HC' := Aside0.mk hle; have hs_ := Aside0.mk (SL.imm_mono (Ψ := fun W => (Kd.int .i64).C W A6 all.length all ∧ (Kd.int .i64).C W A' t.length t) hs (fun W h => ⟨h.1.1, h.2⟩)); clear HS; have HS := hs_; clear hs_; clear hle hs)
          | ((with_reducible refine gate_callee (f := 22) rfl ?_); refine goesL_ (some 44) rfl rfl Try.func22 (by kernel_rfl) rfl #[.slice A6 all.length c6, .int .i64 n] rfl (by (try simp only [List.map_toArray, List.map_cons, List.map_nil]); first | done | rfl | (simp only [List.length_drop, List.length_take]; rfl)) ?_; (with_reducible refine (polliwogref03_Has.calls k A6 c6 all n true _ ?s1 HC6.out HQ.out).mono ?_); (case s1 => exact (SL.know HS.out (.head _)).1); rintro e w' ⟨rfl, ⟨nd, rfl⟩⟩; refine ⟨_, rfl, ?_⟩; skip))
        go_roundw
        case rel => exact ⟨i + 1, t, gv, A', c', by omega, by go_num, rfl, HC', ⟨by simpa using HL'.out⟩, ⟨SL.swap (by (with_reducible repeat (first | apply SL.alloc | apply SL.drewN | apply SL.drew)); exact HS.out)⟩⟩
        case measure => simp [intOf]; omega
      | false =>
        go_wp2_with (first
          | ((with_reducible refine gate_callee (f := 29) rfl ?_); refine goesL_ (some 41) rfl rfl Try.func29 (by kernel_rfl) rfl #[.slice A10 wv.length c10, .int .i64 n] rfl (by (try simp only [List.map_toArray, List.map_cons, List.map_nil]); first | done | rfl | (simp only [List.length_drop, List.length_take]; rfl)) ?_; (with_reducible refine (polliwoglaw03_SpanChanges.put (Φ := fun W => (Kd.int .i64).C W A6 all.length all ∧ (Kd.int .i64).C W A10 wv.length wv) (SL.swap (by (with_reducible repeat (first | apply SL.alloc | apply SL.drewN | apply SL.drew)); exact HS.out)) k A10 c10 wv n t (fun W h => h.2) HC10.out HP.out).mono ?_); rintro e w5 ⟨A', c', rfl, hle, hs⟩; refine ⟨_, rfl, ?_⟩; have HC' := Aside0.mk hle; have hs_ := Aside0.mk (SL.imm_mono (Ψ := fun W => (Kd.int .i64).C W A6 all.length all ∧ (Kd.int .i64).C W A' t.length t) hs (fun W h => ⟨h.1.1, h.2⟩)); clear HS; have HS := hs_; clear hs_; clear hle hs)
          | ((with_reducible refine gate_callee (f := 22) rfl ?_); refine goesL_ (some 44) rfl rfl Try.func22 (by kernel_rfl) rfl #[.slice A6 all.length c6, .int .i64 n] rfl (by (try simp only [List.map_toArray, List.map_cons, List.map_nil]); first | done | rfl | (simp only [List.length_drop, List.length_take]; rfl)) ?_; (with_reducible refine (polliwogref03_Has.calls k A6 c6 all n false _ ?s1 HC6.out HQ.out).mono ?_); (case s1 => exact (SL.know HS.out (.head _)).1); rintro e w' ⟨rfl, ⟨nd, rfl⟩⟩; refine ⟨_, rfl, ?_⟩; skip)
          | ((with_reducible refine gate_builtin (b := .append) (xs := #[.tmp 46, .tmp 48]) rfl ?_); at_builtin; refine wpList_append1 (Kd.int .i64) rfl (.tmp 46) (.tmp 48) 25 3 (.int .i64 0) 8 rfl Try.underlying25 info3 rfl (by decide) (by omega) u12 gv n [.int .i64 n] rfl rfl rfl (SL.swap (by (with_reducible repeat (first | apply SL.alloc | apply SL.drewN | apply SL.drew)); exact HS.out)) (by have := HGL.out; omega) ?_; intro v1 w6 hs; have hs_ := Aside0.mk hs; clear HS hs; have HS := hs_; clear hs_))
        go_roundw
        case rel => exact ⟨i + 1, t, gv ++ [n], A', c', by omega, by go_num, rfl, HC', ⟨by simpa using HL'.out⟩, ⟨by (with_reducible repeat (first | apply SL.alloc | apply SL.drewN | apply SL.drew)); exact HS.out⟩⟩
        case measure => simp [intOf]; omega
    · obtain rfl : i = more.length := by omega
      have hL := HL.out
      rw [List.drop_length] at hL
      simp only [polliwoglaw03_SpanChanges.l1, Option.some.injEq, Prod.mk.injEq] at hL
      obtain ⟨e1, e2⟩ := hL
      subst e1
      subst e2
      obtain ⟨A12, c12, e12, hc12⟩ := SL.form HS.out (.head _)
      subst e12
      have HC12 := Aside0.mk hc12
      have q1 : decide ((more.length : Int) < (more.length : Int)) = false := decide_eq_false (by omega)
      clear HL hc12 hlt hi
      have HSn := Aside0.mk (SL.addNil (Kd.int .i64) 3 HS.out)
      clear HS
      go_wp2
      go_loopw [11, 53] (fun v11 v53 wr => ∃ (i : Nat) (ov : List Int), i ≤ all.length ∧ v53 = .int .i64 i ∧ Aside0 (polliwoglaw03_SpanChanges.l2 k more (all.drop i) ov = some wo) ∧
        Aside0 (SL w wr [Row (Kd.int .i64) 3 v11 ov, Row (Kd.int .i64) 3 (.slice A12 gv.length c12) gv, Imm (fun W => (Kd.int .i64).C W A6 all.length all ∧ (Kd.int .i64).C W A10 wv.length wv), Row k45 45 (.slice A9 s.length c9) s, Row k45 45 (.slice A7 (x :: one).length c7) (x :: one), Row (Kd.int .i64) 3 (.slice A8 more.length c8) more])) (fun _ v53 _ => all.length - (intOf v53).toNat)
      case atStart => exact ⟨0, [], Nat.zero_le _, rfl, H6, ⟨by (with_reducible repeat (first | apply SL.alloc | apply SL.drewN | apply SL.drew)); exact HSn.out⟩⟩
      case round =>
        obtain ⟨i, ov, hi, rfl, HL, HS⟩ := hrel
        clear HSn H6
        have hmx2 := (SL.know HS.out (.tail _ (.tail _ (.head _)))).1.2.1
        by_cases hlt : i < all.length
        · have hL := HL.out
          rw [polliwoglaw03_SpanChanges.drop_rd all i hlt] at hL
          simp only [polliwoglaw03_SpanChanges.l2] at hL
          obtain ⟨hh, hq, hL⟩ := Option.bind_eq_some_iff.mp hL
          by_cases hgl : ov.length < 1099511627776
          case neg => rw [if_neg hgl] at hL; cases hL
          rw [if_pos hgl] at hL
          have HQ := Aside0.mk hq
          have HL' := Aside0.mk hL
          have HGL := Aside0.mk hgl
          clear hq hL hgl HL
          obtain ⟨ad, ead, hx⟩ := Kd.at_int (SL.know HS.out (.tail _ (.tail _ (.head _)))).1 (i : Int) (Int.natCast_nonneg _) (Int.ofNat_lt.2 hlt)
          cases ead
          have p1 : 0 ≤ (i : Int) := Int.natCast_nonneg _
          have p2 : (i : Int) < (all.length : Int) := Int.ofNat_lt.2 hlt
          have p3 : decide ((i : Int) < (all.length : Int)) = true := decide_eq_true p2
          have p4 : ((i : Int)).toNat = i := Int.toNat_natCast i
          rw [p4] at hx
          generalize rd all (i : Int) = n at *
          have HP4 := Aside0.mk p4
          have HC8 := Aside0.mk (SL.cap HS.out (.tail _ (.tail _ (.tail _ (.tail _ (.tail _ (.head _)))))))
          replace p1 := eq_true p1
          replace p2 := eq_true p2
          cases hh with
          | true =>
            go_wp2_with (first
              | ((with_reducible refine gate_callee (f := 22) rfl ?_); refine goesL_ (some 59) rfl rfl Try.func22 (by kernel_rfl) rfl #[.slice A8 more.length c8, .int .i64 n] rfl (by (try simp only [List.map_toArray, List.map_cons, List.map_nil]); first | done | rfl | (simp only [List.length_drop, List.length_take]; rfl)) ?_; (with_reducible refine (polliwogref03_Has.calls k A8 c8 more n true _ ?s1 HC8.out HQ.out).mono ?_); (case s1 => exact SL.reads (by (with_reducible repeat (first | apply SL.alloc | apply SL.drewN | apply SL.drew)); exact HS.out) (.tail _ (.tail _ (.tail _ (.tail _ (.tail _ (.head _))))))); rintro e w' ⟨rfl, ⟨nd, rfl⟩⟩; refine ⟨_, rfl, ?_⟩; skip))
            go_roundw
            case rel => exact ⟨i + 1, ov, by omega, by go_num, ⟨by simpa using HL'.out⟩, ⟨by (with_reducible repeat (first | apply SL.alloc | apply SL.drewN | apply SL.drew)); exact HS.out⟩⟩
            case measure => simp [intOf]; omega
          | false =>
            go_wp2_with (first
              | ((with_reducible refine gate_callee (f := 22) rfl ?_); refine goesL_ (some 59) rfl rfl Try.func22 (by kernel_rfl) rfl #[.slice A8 more.length c8, .int .i64 n] rfl (by (try simp only [List.map_toArray, List.map_cons, List.map_nil]); first | done | rfl | (simp only [List.length_drop, List.length_take]; rfl)) ?_; (with_reducible refine (polliwogref03_Has.calls k A8 c8 more n false _ ?s1 HC8.out HQ.out).mono ?_); (case s1 => exact SL.reads (by (with_reducible repeat (first | apply SL.alloc | apply SL.drewN | apply SL.drew)); exact HS.out) (.tail _ (.tail _ (.tail _ (.tail _ (.tail _ (.head _))))))); rintro e w' ⟨rfl, ⟨nd, rfl⟩⟩; refine ⟨_, rfl, ?_⟩; skip)
              | ((with_reducible refine gate_builtin (b := .append) (xs := #[.tmp 61, .tmp 63]) rfl ?_); at_builtin; refine wpList_append1 (Kd.int .i64) rfl (.tmp 61) (.tmp 63) 25 3 (.int .i64 0) 8 rfl Try.underlying25 info3 rfl (by decide) (by omega) u11 ov n [.int .i64 n] rfl rfl rfl (by (with_reducible repeat (first | apply SL.alloc | apply SL.drewN | apply SL.drew)); exact HS.out) (by have := HGL.out; omega) ?_; intro v1 w6 hs; have hs_ := Aside0.mk hs; clear HS hs; have HS := hs_; clear hs_))
            go_roundw
            case rel => exact ⟨i + 1, ov ++ [n], by omega, by go_num, ⟨by simpa using HL'.out⟩, ⟨by (with_reducible repeat (first | apply SL.alloc | apply SL.drewN | apply SL.drew)); exact HS.out⟩⟩
            case measure => simp [intOf]; omega
        · obtain rfl : i = all.length := by omega
          have hL := HL.out
          rw [List.drop_length] at hL
          simp only [polliwoglaw03_SpanChanges.l2, Option.some.injEq] at hL
          subst hL
          obtain ⟨A11, c11, e11, hc11⟩ := SL.form HS.out (.head _)
          subst e11
          have HC11 := Aside0.mk hc11
          have q2 : decide ((all.length : Int) < (all.length : Int)) = false := decide_eq_false (by omega)
          clear HL hc11 hlt hi
          obtain ⟨g7, o7, ead, hx0, hx1⟩ := polliwoglaw03_SpanChanges.first HS.out (.tail _ (.tail _ (.tail _ (.tail _ (.head _)))))
          cases ead
          have h1l : 0 < (x :: one).length := by simp
          have HC9 := Aside0.mk (SL.cap HS.out (.tail _ (.tail _ (.tail _ (.head _)))))
          go_wp2_with (first
            | ((with_reducible refine gate_callee (f := 27) rfl ?_); refine goesL_ (some 70) rfl rfl Try.func27 (by kernel_rfl) rfl #[.slice A9 s.length c9, .agg #[.int .i64 x.f0, .int .i64 x.f1]] rfl (by (try simp only [List.map_toArray, List.map_cons, List.map_nil]); first | done | rfl | (simp only [List.length_drop, List.length_take]; rfl)) ?_; (with_reducible refine (span_Set_Add.calls k A9 c9 s x.f0 x.f1 t1 _ ?s1 HC9.out H7.out).mono ?_); (case s1 => exact SL.reads (by (with_reducible repeat (first | apply SL.alloc | apply SL.drewN | apply SL.drew)); exact HS.out) (.tail _ (.tail _ (.tail _ (.head _))))); rintro e w7 ⟨v70, rfl, ho0, hb⟩; refine ⟨_, rfl, ?_⟩; have hs_ := Aside0.mk (SL.addRow (by (with_reducible repeat (first | apply SL.alloc | apply SL.drewN | apply SL.drew)); exact HS.out) hb ho0); clear HS; have HS := hs_; clear hs_; obtain ⟨A70, c70, e70⟩ := Kd.R_slice ho0; subst e70; have HC70 := Aside0.mk (Kd.R_reads' ho0).2.1; clear hb ho0 hx0 hx1)
            | ((with_reducible refine gate_callee (f := 23) rfl ?_); refine goesL_ (some 72) rfl rfl Try.func23 (by kernel_rfl) rfl #[.slice A70 t1.length c70, .slice A10 wv.length c10] rfl (by (try simp only [List.map_toArray, List.map_cons, List.map_nil]); first | done | rfl | (simp only [List.length_drop, List.length_take]; rfl)) ?_; (with_reducible refine (polliwoglaw03_is.calls k A70 c70 t1 A10 c10 wv true _ ?s1 HC70.out ?s2 HC10.out H8.out).mono ?_); (case s1 => exact SL.reads (by (with_reducible repeat (first | apply SL.alloc | apply SL.drewN | apply SL.drew)); exact HS.out) (.head _)); (case s2 => exact (SL.know HS.out (.tail _ (.tail _ (.tail _ (.head _))))).2); rintro e w8 ⟨rfl, hb⟩; refine ⟨_, rfl, ?_⟩; have hs_ := Aside0.mk (SL.below (by (with_reducible repeat (first | apply SL.alloc | apply SL.drewN | apply SL.drew)); exact SL.tail HS.out) hb); clear HS; have HS := hs_; clear hs_; clear hb; obtain ⟨g_, o_, ead_, hx0, hx1⟩ := polliwoglaw03_SpanChanges.first HS.out (.tail _ (.tail _ (.tail _ (.tail _ (.head _))))); cases ead_)
            | (go_at_call 28; (with_reducible refine (span_Set_Drop.calls k A9 c9 s x.f0 x.f1 t2 _ ?s1 HC9.out H9.out).mono ?_); (case s1 => exact SL.reads (by (with_reducible repeat (first | apply SL.alloc | apply SL.drewN | apply SL.drew)); exact HS.out) (.tail _ (.tail _ (.tail _ (.head _))))); rintro e w9 ⟨v78, rfl, ho0, hb⟩; have hs_ := Aside0.mk (SL.addRow (by (with_reducible repeat (first | apply SL.alloc | apply SL.drewN | apply SL.drew)); exact HS.out) hb ho0); clear HS; have HS := hs_; clear hs_; obtain ⟨A78, c78, e78⟩ := Kd.R_slice ho0; subst e78; have HC78 := Aside0.mk (Kd.R_reads' ho0).2.1; clear hb ho0 hx0 hx1; have tok80 : True := trivial)
            | (go_at_call 23; (with_reducible refine (polliwoglaw03_is.calls k A78 c78 t2 A11 c11 ov true _ ?s1 HC78.out ?s2 HC11.out H10.out).mono ?_); (case s1 => exact SL.reads (by (with_reducible repeat (first | apply SL.alloc | apply SL.drewN | apply SL.drew)); exact HS.out) (.head _)); (case s2 => exact SL.reads (by (with_reducible repeat (first | apply SL.alloc | apply SL.drewN | apply SL.drew)); exact HS.out) (.tail _ (.head _))); rintro e w10 ⟨rfl, hb⟩; have hs_ := Aside0.mk (SL.below (by (with_reducible repeat (first | apply SL.alloc | apply SL.drewN | apply SL.drew)); exact SL.tail HS.out) hb); clear HS; have HS := hs_; clear hs_; clear hb; obtain ⟨g_, o_, ead_, hx0, hx1⟩ := polliwoglaw03_SpanChanges.first HS.out (.tail _ (.tail _ (.tail _ (.tail _ (.head _))))); cases ead_)
            | (go_at_call 30; (with_reducible refine (span_Set_Gaps.calls k A9 c9 s x.f0 x.f1 t3 _ ?s1 HC9.out H11.out).mono ?_); (case s1 => exact SL.reads (by (with_reducible repeat (first | apply SL.alloc | apply SL.drewN | apply SL.drew)); exact HS.out) (.tail _ (.tail _ (.tail _ (.head _))))); rintro e w11 ⟨v87, rfl, ho0, hb⟩; have hs_ := Aside0.mk (SL.addRow (by (with_reducible repeat (first | apply SL.alloc | apply SL.drewN | apply SL.drew)); exact HS.out) hb ho0); clear HS; have HS := hs_; clear hs_; obtain ⟨A87, c87, e87⟩ := Kd.R_slice ho0; subst e87; have HC87 := Aside0.mk (Kd.R_reads' ho0).2.1; clear hb ho0 hx0 hx1)
            | (go_at_call 23; (with_reducible refine (polliwoglaw03_is.calls k A87 c87 t3 A12 c12 gv true _ ?s1 HC87.out ?s2 HC12.out H12.out).mono ?_); (case s1 => exact SL.reads (by (with_reducible repeat (first | apply SL.alloc | apply SL.drewN | apply SL.drew)); exact HS.out) (.head _)); (case s2 => exact SL.reads (by (with_reducible repeat (first | apply SL.alloc | apply SL.drewN | apply SL.drew)); exact HS.out) (.tail _ (.tail _ (.head _)))); rintro e w12 ⟨rfl, hb⟩; have hs_ := Aside0.mk (SL.below (by (with_reducible repeat (first | apply SL.alloc | apply SL.drewN | apply SL.drew)); exact SL.tail HS.out) hb); clear HS; have HS := hs_; clear hs_; clear hb)
            | (go_at_call 23; (with_reducible refine (polliwoglaw03_is.calls k A9 c9 s A6 c6 all true _ ?s1 HC9.out ?s2 HC6.out H13.out).mono ?_); (case s1 => exact SL.reads (by (with_reducible repeat (first | apply SL.alloc | apply SL.drewN | apply SL.drew)); exact HS.out) (.tail _ (.tail _ (.tail _ (.head _))))); (case s2 => exact (SL.know HS.out (.tail _ (.tail _ (.head _)))).1); rintro e w13 ⟨rfl, hb⟩; have hs_ := Aside0.mk (SL.below (by (with_reducible repeat (first | apply SL.alloc | apply SL.drewN | apply SL.drew)); exact HS.out) hb); clear HS; have HS := hs_; clear hs_; clear hb))
          go_ret
          exact ⟨rfl, HS.out.1⟩
def polliwoglaw03_SpanChanges.fin (k : Nat) (s : List S45) (all : List Int) (wi ga wo : List Int) : List S45 → Option Bool
  | [] => none
  | x :: _ => (span_Set_Add.f k s x.f0 x.f1).bind fun t1 => (polliwoglaw03_is.f k t1 wi).bind fun b1 => if b1 = true then (span_Set_Drop.f k s x.f0 x.f1).bind fun t2 => (polliwoglaw03_is.f k t2 wo).bind fun b2 => if b2 = true then (span_Set_Gaps.f k s x.f0 x.f1).bind fun t3 => (polliwoglaw03_is.f k t3 ga).bind fun b3 => if b3 = true then (polliwoglaw03_is.f k s all).bind fun b4 => if b4 = true then some true else none else none else none else none
def polliwoglaw03_SpanChanges.f (k : Nat) (l0 : List S45) (a1_0 a1_1 : Int) : Option Bool :=
  (polliwoglaw03_awake.f k).bind fun t => if t = true then (polliwoglaw03_Few.f k l0).bind fun p => (polliwoglaw03_Few.f k [⟨a1_0, a1_1⟩]).bind fun q => (span_Of.f k p.1).bind fun s => (polliwoglaw03_SpanChanges.l1 k p.2 q.2 p.2 []).bind fun g => (polliwoglaw03_SpanChanges.l2 k q.2 p.2 []).bind fun wo => polliwoglaw03_SpanChanges.fin k s p.2 g.1 g.2 wo q.1 else none
theorem polliwoglaw03_SpanChanges.calls (k : Nat) (A0 : Option Addr) (c0 : Nat) (l0 : List (S45)) (a1_0 : Int) (a1_1 : Int) (r : Bool) (w : World) (hr0 : Kd.C k45 w A0 l0.length l0) (hc0 : l0.length ≤ c0) (h : polliwoglaw03_SpanChanges.f k l0 a1_0 a1_1 = some r) :
    Calls Try.prog 6 #[.slice A0 l0.length c0, .agg #[.int .i64 a1_0, .int .i64 a1_1]] w fun e w' => e = .returned (.bool r) ∧ Below w.heap.size w w' := by
  unfold polliwoglaw03_SpanChanges.f at h
  obtain ⟨t, h1, h⟩ := Option.bind_eq_some_iff.mp h
  cases t with
  | false => simp at h
  | true =>
    rw [if_pos rfl] at h
    obtain ⟨⟨few, all⟩, h2, h⟩ := Option.bind_eq_some_iff.mp h
    obtain ⟨⟨o, more⟩, h3, h⟩ := Option.bind_eq_some_iff.mp h
    obtain ⟨s, h4, h⟩ := Option.bind_eq_some_iff.mp h
    obtain ⟨⟨wi, ga⟩, h5, h⟩ := Option.bind_eq_some_iff.mp h
    obtain ⟨wo, h6, h⟩ := Option.bind_eq_some_iff.mp h
    cases o with
    | nil => simp [polliwoglaw03_SpanChanges.fin] at h
    | cons x one =>
      simp only [polliwoglaw03_SpanChanges.fin] at h
      obtain ⟨t1, h7, h⟩ := Option.bind_eq_some_iff.mp h
      obtain ⟨b1, h8, h⟩ := Option.bind_eq_some_iff.mp h
      cases b1 with
      | false => simp at h
      | true =>
      rw [if_pos rfl] at h
      obtain ⟨t2, h9, h⟩ := Option.bind_eq_some_iff.mp h
      obtain ⟨b2, h10, h⟩ := Option.bind_eq_some_iff.mp h
      cases b2 with
      | false => simp at h
      | true =>
      rw [if_pos rfl] at h
      obtain ⟨t3, h11, h⟩ := Option.bind_eq_some_iff.mp h
      obtain ⟨b3, h12, h⟩ := Option.bind_eq_some_iff.mp h
      cases b3 with
      | false => simp at h
      | true =>
      rw [if_pos rfl] at h
      obtain ⟨b4, h13, h⟩ := Option.bind_eq_some_iff.mp h
      cases b4 with
      | false => simp at h
      | true =>
      rw [if_pos rfl] at h
      obtain rfl := Option.some.inj h
      exact polliwoglaw03_SpanChanges.walk k A0 c0 l0 a1_0 a1_1 w hr0 hc0 few all x one more s wi ga wo t1 t2 t3 h1 h2 h3 h4 h5 h6 h7 h8 h9 h10 h11 h12 h13
end Go.Proofs.Ytihobchcmfamaaa.S
