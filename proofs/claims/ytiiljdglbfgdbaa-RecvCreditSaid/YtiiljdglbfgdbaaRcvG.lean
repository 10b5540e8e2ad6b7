/- The receiver's methods, seventh part: missing. -/
import Derived.Test.YtiiljdglbfgdbaaRcvF
import Derived.Test.YtiiljdglbfgdbaaEvGap
import Derived.Test.YtiiljdglbfgdbaaS0
import Derived.Test.YtiiljdglbfgdbaaS3
import Derived.Test.YtiiljdglbfgdbaaS4
import Derived.Test.YtiiljdglbfgdbaaS5
import Derived.Test.YtiiljdglbfgdbaaS7
set_option linter.unusedVariables false
set_option linter.unusedSimpArgs false
namespace Go.Proofs.Ytiiljdglbfgdbaa.Rcv
open Go Go.RowKit Go.Proofs.YtiiljdglbfgdbaaW.PrintWords Go.Proofs.YtiiljdglbfgdbaaW.PrintLast Go.Proofs.YtiiljdglbfgdbaaW.PrintMore Go.Proofs.Ytiiljdglbfgdbaa Go.Proofs.Ytiiljdglbfgdbaa.Sl Go.Proofs.Ytiiljdglbfgdbaa.S Go.Proofs.Ytiiljdglbfgdbaa.SpanTh Go.Proofs.Ytiiljdglbfgdbaa.SpanEv
theorem flatP : Flat k105 := flat_iso (flat_pair (flat_int _) (flat_int _))
/-- span.Of. -/
theorem spanOf_c {w0 W : World} {l : List As} (HS : SL w0 W l) (A : Option Addr) (n c : Nat) (xs : List S105) (hn : xs.length = n) (hC : k105.C W A xs.length xs) (hc : n ≤ c) (hl : n < 1099511627776) :
    Calls Try.prog 51 #[.slice A n c] W fun e w' => ∃ A' c', e = .returned (.slice A' (ofL xs).length c') ∧ SL w0 w' (Row k105 105 (.slice A' (ofL xs).length c') (ofL xs) :: l) := by
  subst hn
  obtain ⟨K, hK⟩ := of_ev xs hl
  refine (span_Of.calls K A c xs (ofL xs) W hC hc (hK K (Nat.le_refl _))).mono ?_
  rintro e w' ⟨v, rfl, ho, hb⟩
  obtain ⟨A', c', e2⟩ := Kd.R_slice ho
  subst e2
  exact ⟨A', c', rfl, HS.addRow hb ho⟩
/-- Drop. -/
theorem spanDrop_c {w0 W : World} {l : List As} (HS : SL w0 W l) (A : Option Addr) (n c : Nat) (xs : List S105) (x y : Int) (hn : xs.length = n) (hC : k105.C W A xs.length xs) (hc : n ≤ c) (hl : n < 1000000000) :
    Calls Try.prog 53 #[.slice A n c, .agg #[.int .i64 x, .int .i64 y]] W fun e w' => ∃ A' c', e = .returned (.slice A' (dropR xs ⟨x, y⟩).length c') ∧ SL w0 w' (Row k105 105 (.slice A' (dropR xs ⟨x, y⟩).length c') (dropR xs ⟨x, y⟩) :: l) := by
  subst hn
  obtain ⟨K, hK⟩ := drop_ev xs ⟨x, y⟩ hl
  refine (span_Set_Drop.calls K A c xs x y (dropR xs ⟨x, y⟩) W hC hc (hK K (Nat.le_refl _))).mono ?_
  rintro e w' ⟨v, rfl, ho, hb⟩
  obtain ⟨A', c', e2⟩ := Kd.R_slice ho
  subst e2
  exact ⟨A', c', rfl, HS.addRow hb ho⟩
/-- Both. -/
theorem spanBoth_c {w0 W : World} {l : List As} (HS : SL w0 W l) (A : Option Addr) (n c : Nat) (xs : List S105) (A2 : Option Addr) (n2 c2 : Nat) (ys : List S105) (hn : xs.length = n) (hn2 : ys.length = n2) (hC : k105.C W A xs.length xs) (hC2 : k105.C W A2 ys.length ys) (hc : n ≤ c) (hc2 : n2 ≤ c2) (hl : n < 1099511627776) (hl2 : n2 < 1099511627776) (hb : n * n2 < 1099511627776) :
    Calls Try.prog 50 #[.slice A n c, .slice A2 n2 c2] W fun e w' => ∃ A' c', e = .returned (.slice A' (ofL (meets xs ys)).length c') ∧ SL w0 w' (Row k105 105 (.slice A' (ofL (meets xs ys)).length c') (ofL (meets xs ys)) :: l) := by
  subst hn
  subst hn2
  obtain ⟨K, hK⟩ := both_ev xs ys hl hl2 hb
  refine (span_Set_Both.calls K A c xs A2 c2 ys (ofL (meets xs ys)) W hC hc hC2 hc2 (hK K (Nat.le_refl _))).mono ?_
  rintro e w' ⟨v, rfl, ho, hb⟩
  obtain ⟨A', c', e2⟩ := Kd.R_slice ho
  subst e2
  exact ⟨A', c', rfl, HS.addRow hb ho⟩
/-- gaps.List. -/
theorem list_c {w0 W : World} {l : List As} (HS : SL w0 W l) (b : Int) (A : Option Addr) (n c : Nat) (xs : List S105) (hn : xs.length = n) (hC : k105.C W A xs.length xs) (hc : n ≤ c) (hl : n < 1000000) :
    Calls Try.prog 34 #[.int .u32 b, .slice A n c] W fun e w' => ∃ v, e = .returned v ∧ SL w0 w' (Row (Kd.int .u32) 27 v (pairsOf b (cutH xs)) :: l) := by
  subst hn
  obtain ⟨K, hK⟩ := glist_ev b xs hl
  refine (gaps_List.calls K b A c xs (pairsOf b (cutH xs)) W hC hc (hK K (Nat.le_refl _))).mono ?_
  rintro e w' ⟨v, rfl, ho, hb⟩
  exact ⟨v, rfl, HS.addRow hb ho⟩
/-- What is missing, where 'left' did not come yet. -/
def MissL (x : RS) (left : List (Int × Value)) (s : List S105) : Prop := Norm s ∧ Small s ∧ ∀ n, Mem n s ↔ (0 ≤ n ∧ n < toN x.r x.h) ∧ ∀ p ∈ sM x.buf, toN x.r p.1 = n → p ∈ left
theorem MissL.len {x : RS} {left : List (Int × Value)} {s : List S105} (h : MissL x left s) : s.length ≤ 16777216 := by
  have h1 := norm_len h.1
  have h2 := rise_len (listL s) 0 16777216 (rise_listL h.1) (fun n hn => by
    have := ((h.2.2 n).1 ((mem_listL s n).1 hn)).1
    unfold toN at this
    omega)
  omega
theorem MissL.start (x : RS) : MissL x (sM x.buf) (ofL [⟨0, toN x.r x.h⟩]) := by
  have hs : Small [(⟨0, toN x.r x.h⟩ : S105)] := fun y hy => by
    rw [List.mem_singleton] at hy
    subst hy
    simp only [mostL, toN]
    omega
  refine ⟨(ofL_spec _).1, ofL_small _, fun n => ?_⟩
  rw [ofL_mem hs, mem_one]
  exact ⟨fun h => ⟨h, fun p hp _ => hp⟩, fun h => h.1⟩
theorem MissL.step {x : RS} {left : List (Int × Value)} {s : List S105} {p : Int × Value} (hn : ((sM x.buf).map (·.1)).Nodup) (hsub : ∀ q ∈ left, q ∈ sM x.buf) (h : MissL x left s) (hp : p ∈ left) :
    MissL x (left.filter fun q => !(q.1 == p.1)) (dropR s ⟨toN x.r p.1, toN x.r p.1 + 1⟩) := by
  obtain ⟨h1, h2, h3⟩ := drop_spec h.2.1 ⟨toN x.r p.1, toN x.r p.1 + 1⟩
  have e : nearL (⟨toN x.r p.1, toN x.r p.1 + 1⟩ : S105) = ⟨toN x.r p.1, toN x.r p.1 + 1⟩ := near_small (by simp only [mostL, toN]; omega)
  rw [e] at h3
  refine ⟨h1, h2, fun n => ?_⟩
  rw [h3, h.2.2]
  constructor
  · rintro ⟨⟨h4, h5⟩, h6⟩
    refine ⟨h4, fun q hq hqn => List.mem_filter.2 ⟨h5 q hq hqn, ?_⟩⟩
    have : ¬ q.1 = p.1 := fun e => h6 (by simp only; rw [← e, hqn]; omega)
    simpa using this
  · rintro ⟨h4, h5⟩
    refine ⟨⟨h4, fun q hq hqn => (List.mem_filter.1 (h5 q hq hqn)).1⟩, fun h6 => ?_⟩
    have h7 : toN x.r p.1 = n := by simp only at h6; omega
    have h8 := (List.mem_filter.1 (h5 p (hsub p hp) h7)).2
    simp at h8
/-- missing. -/
def Miss (x : RS) (s : List S105) : Prop := Norm s ∧ Small s ∧ ∀ n, Mem n s ↔ (0 ≤ n ∧ n < toN x.r x.h) ∧ ∀ p ∈ x.buf, toN x.r p.1 ≠ n
theorem MissL.miss {x : RS} {s : List S105} (h : MissL x [] s) : Miss x s := ⟨h.1, h.2.1, fun n => by
  rw [h.2.2]
  refine ⟨fun ⟨h1, h2⟩ => ⟨h1, fun p hp e => ?_⟩, fun ⟨h1, h2⟩ => ⟨h1, fun p hp e => ?_⟩⟩
  · cases h2 (p.1, .string p.2) (List.mem_map.2 ⟨p, hp, rfl⟩) e
  · obtain ⟨q, hq, rfl⟩ := List.mem_map.1 hp
    exact absurd e (h2 q hq)⟩
theorem Miss.len {x : RS} {s : List S105} (h : Miss x s) : s.length ≤ 16777216 := by
  have h1 := norm_len h.1
  have h2 := rise_len (listL s) 0 16777216 (rise_listL h.1) (fun n hn => by
    have := ((h.2.2 n).1 ((mem_listL s n).1 hn)).1
    unfold toN at this
    omega)
  omega
theorem filter_lt (l : List (Int × Value)) (p : Int × Value) (h : p ∈ l) : (l.filter fun q => !(q.1 == p.1)).length < l.length :=
  List.length_filter_lt_length_iff_exists.2 ⟨p, h, by simp⟩
set_option maxHeartbeats 2000000 in
set_option maxRecDepth 100000 in
theorem missing_c {w0 W : World} {l : List As} {b : Nat} {x : RS} (HS : SL w0 W (RecvA b x :: l)) :
    Calls Try.prog 36 #[.pointer (some ⟨b, 0, none⟩)] W fun e w' => ∃ A' c' s, e = .returned (.slice A' s.length c') ∧ Miss x s ∧ SL w0 w' (Row k105 105 (.slice A' s.length c') s :: RecvA b x :: l) := by
  obtain ⟨bm, Ai, ci, Ag, cg, hci, hcg, h⟩ := RecvA.open_ HS
  have HN := Aside0.mk (SL.mapAt h (.tail _ (.head _))).1
  have HS := Aside0.mk h
  have hu := Try.underlying73
  have hu2 := Try.underlying105
  clear h hci hcg
  go_enter Try.func36, Try.ntmps36
  go_wp2_with fail
  refine region_tail 10 (by kernel_rfl) (by kernel_rfl) (fun W1 hW_ => ?_); have hs_ := Aside0.mk (hW_.out ▸ SL.drew (by repeat (first | (with_reducible exact HS.out) | (with_reducible apply SL.alloc) | (with_reducible apply SL.drewN) | (with_reducible apply SL.drew)))); clear HS; have HS := hs_; clear hs_ hW_; obtain ⟨⟨q0, z0⟩, ⟨q1, z1⟩, ⟨q2, z2⟩, ⟨q3, z3⟩, ⟨q4, z4⟩, ⟨q5, z5⟩, ⟨q6, z6⟩⟩ := cellsAt HS.out; simp only [List.take_succ_cons, List.take_zero, List.drop_succ_cons, List.drop_zero]; (repeat (first | still_step | (refine wpStill_step (fun K hK => ?_); go_simp; (with_reducible refine ⟨_, to_c _ _ _, hK _ ?_⟩); clear hK K))); refine wpStill_nil ?_
  go_wp2_with (first
    | (go_at_call 51; (with_reducible refine (spanOf_c (SL.lit1 (d := k105) (p := ⟨0, toN x.r x.h⟩) (cs := [.int .i64 0, .int .i64 (toN x.r x.h)]) HS.out (fun W b o => k105_mkM W b o ⟨0, toN x.r x.h⟩)) (some ⟨W1.heap.size, 0, none⟩) 1 1 [⟨0, toN x.r x.h⟩] rfl ?s1 (Nat.le_refl _) (by decide)).mono ?_); (case s1 => exact SL.reads (SL.lit1 (d := k105) (p := ⟨0, toN x.r x.h⟩) (cs := [.int .i64 0, .int .i64 (toN x.r x.h)]) HS.out (fun W b o => k105_mkM W b o ⟨0, toN x.r x.h⟩)) (.head _)); rintro e w2 ⟨A3, c3, rfl, hs⟩; have hs2 := Aside0.mk (SL.tail (SL.swap hs)); clear HS hs q0 q1 q2 q3 q4 q5 q6 z0 z1 z2 z3 z4 z5 z6; have HS := hs2; clear hs2; obtain ⟨⟨q0, z0⟩, ⟨q1, z1⟩, ⟨q2, z2⟩, ⟨q3, z3⟩, ⟨q4, z4⟩, ⟨q5, z5⟩, ⟨q6, z6⟩⟩ := cellsAt (SL.tail HS.out))
    | (at_range; refine wpList_mrange rfl _ 70 27 9 .u32 rfl Try.underlying70 bm (sM x.buf) rfl (SL.pk [2] HS.out) ?_; intro w4 hs; have hs2 := Aside0.mk hs; clear HS hs q0 q1 q2 q3 q4 q5 q6 z0 z1 z2 z3 z4 z5 z6; have HS := hs2; clear hs2))
  go_frame
  go_loopg [3] (sM x.buf).length (fun kq v3 wr => ∃ (left : List (Int × Value)) (s : List S105) (A3 : Option Addr) (c3 : Nat), v3 = .slice A3 s.length c3 ∧ Aside0 (left.length = kq) ∧ Aside0 (∀ q ∈ left, q ∈ sM x.buf) ∧ Aside0 (MissL x left s) ∧
    Aside0 (SL w0 wr (RangeA .u32 bm w2.heap.size (sM x.buf) left :: Row k105 105 (.slice A3 s.length c3) s :: Blk b (cellsR x bm (.slice Ai x.inb.length ci) (.slice Ag x.gaps.length cg)) 73 :: Row Kd.string 9 (.slice Ai x.inb.length ci) x.inb :: Row kG 76 (.slice Ag x.gaps.length cg) x.gaps :: l)))
  case atStart => exact ⟨sM x.buf, _, A3, c3, rfl, ⟨rfl⟩, ⟨fun _ h => h⟩, ⟨MissL.start x⟩, HS⟩
  case round =>
    clear HS
    obtain ⟨left, s, A3, c3, rfl, HK, HSub, HM, HS⟩ := hrel
    go_wp2_with (at_next; refine wpList_mnext rfl _ rfl .u32 bm w2.heap.size (sM x.buf) left rfl HS.out ?_ ?_)
    · intro he
      have HE := Aside0.mk he
      clear he
      go_wp2
      go_ret
      refine ⟨A3, c3, s, rfl, (HE.out ▸ HM.out : MissL x [] s).miss, SL.swap (RecvA.shut (SL.pk [2, 0, 1, 1, 0] (SL.range_end HS.out)))⟩
    · intro y u hp w5 hs hen
      have HP := Aside0.mk hp
      have HS2 := Aside0.mk hs
      clear HS hs hp
      obtain ⟨q0, z0⟩ := SL.cell HS2.out (.tail _ (.tail _ (.head _))) 0 (v := .int .u32 x.r) rfl
      have b1 : 0 ≤ toN x.r y := by unfold toN; omega
      have b2 : toN x.r y < 16777216 := by unfold toN; omega
      have HL := Aside0.mk HM.out.len
      have HC := Aside0.mk (SL.cap HS2.out (.tail _ (.head _)))
      go_wp2_with (first
        | (go_at_call 17; (with_reducible refine (to_c _ _ _).mono ?_); rintro e w1 ⟨rfl, rfl⟩; skip)
        | (go_at_call 53; (with_reducible refine (spanDrop_c HS2.out A3 s.length c3 s (toN x.r y) (toN x.r y + 1) rfl ?s1 HC.out ?s2).mono ?_); (case s1 => exact SL.reads HS2.out (.tail _ (.head _))); (case s2 => have := HL.out; omega); rintro e w6 ⟨A7, c7, rfl, hs⟩; have hs2 := Aside0.mk hs; clear HS2 hs q0 z0; have HS := hs2; clear hs2))
      go_roundg (left.filter fun q => !(q.1 == y)).length
      case measure =>
        have h1 := HK.out
        have h2 := filter_lt left (y, u) HP.out
        exact h1 ▸ h2
      case rel =>
        have h3 : MissL x (left.filter fun q => !(q.1 == y)) (dropR s ⟨toN x.r y, toN x.r y + 1⟩) := MissL.step (p := (y, u)) HN.out HSub.out HM.out HP.out
        have h4 := SL.tail (SL.pk [2, 1, 0] HS.out)
        refine ⟨left.filter fun q => !(q.1 == y), dropR s ⟨toN x.r y, toN x.r y + 1⟩, A7, c7, rfl, ⟨rfl⟩, ⟨fun q hq => HSub.out q (List.mem_filter.1 hq).1⟩, ⟨h3⟩, ⟨h4⟩⟩
end Go.Proofs.Ytiiljdglbfgdbaa.Rcv
