/- The receiver's methods, seventh part: missing. -/
import Derived.Test.YtiiljdglbfgdbaaRcv1
import Derived.Test.YtiiljdglbfgdbaaEv1
import Derived.Test.YtiiljdglbfgdbaaS0
import Derived.Test.YtiiljdglbfgdbaaS3
import Derived.Test.YtiiljdglbfgdbaaS4
import Derived.Test.YtiiljdglbfgdbaaS5
import Derived.Test.YtiiljdglbfgdbaaS7
set_option linter.unusedVariables false
set_option linter.unusedSimpArgs false
/-! The receiver's methods, seventh part: missing. -/
namespace Go.Proofs.Ytiiljdglbfgdbaa.Rcv
open Go Go.RowKit Go.Proofs.YtiiljdglbfgdbaaW.PrintWords Go.Proofs.YtiiljdglbfgdbaaW.PrintLast Go.Proofs.YtiiljdglbfgdbaaW.PrintMore Go.Proofs.Ytiiljdglbfgdbaa Go.Proofs.Ytiiljdglbfgdbaa.Sl Go.Proofs.Ytiiljdglbfgdbaa.S Go.Proofs.Ytiiljdglbfgdbaa.SpanTh Go.Proofs.Ytiiljdglbfgdbaa.SpanEv
theorem flatP : Flat k105 := flat_iso (flat_pair (flat_int _) (flat_int _))
/-- span.Of. -/
theorem spanOf_c {w0 W : World} {l : List As} (HS : SL w0 W l) (A : Option Addr) (n c : Nat) (xs : List S105) (hn : xs.length = n) (hC : k105.C W A xs.length xs) (hc : n ≤ c) (hl : n < 1099511627776) :
    Calls Try.prog 51 #[.slice A n c] W fun e w' => ∃ A' c', e = .returned (.slice A' (ofL xs).length c') ∧ SL w0 w' (Row k105 105 (.slice A' (ofL xs).length c') (ofL xs) :: l) := by
  subst hn
  obtain ⟨K, hK⟩ := of_ev xs hl
  refine (span_Of.calls K A c xs (ofL xs) W hC hc (hK K (Nat.le_refl _))).mono ?_
  rintro e w' ⟨v, rfl, ho, hb⟩
  obtain ⟨A', c', e2⟩ := Kd.R_slice ho
  subst e2
  exact ⟨A', c', rfl, HS.addRow hb ho⟩
/-- Drop. -/
theorem spanDrop_c {w0 W : World} {l : List As} (HS : SL w0 W l) (A : Option Addr) (n c : Nat) (xs : List S105) (x y : Int) (hn : xs.length = n) (hC : k105.C W A xs.length xs) (hc : n ≤ c) (hl : n < 1000000000) :
    Calls Try.prog 53 #[.slice A n c, .agg #[.int .i64 x, .int .i64 y]] W fun e w' => ∃ A' c', e = .returned (.slice A' (dropR xs ⟨x, y⟩).length c') ∧ SL w0 w' (Row k105 105 (.slice A' (dropR xs ⟨x, y⟩).length c') (dropR xs ⟨x, y⟩) :: l) := by
  subst hn
  obtain ⟨K, hK⟩ := drop_ev xs ⟨x, y⟩ hl
  refine (span_Set_Drop.calls K A c xs x y (dropR xs ⟨x, y⟩) W hC hc (hK K (Nat.le_refl _))).mono ?_
  rintro e w' ⟨v, rfl, ho, hb⟩
  obtain ⟨A', c', e2⟩ := Kd.R_slice ho
  subst e2
  exact ⟨A', c', rfl, HS.addRow hb ho⟩
/-- Both. -/
theorem spanBoth_c {w0 W : World} {l : List As} (HS : SL w0 W l) (A : Option Addr) (n c : Nat) (xs : List S105) (A2 : Option Addr) (n2 c2 : Nat) (ys : List S105) (hn : xs.length = n) (hn2 : ys.length = n2) (hC : k105.C W A xs.length xs) (hC2 : k105.C W A2 ys.length ys) (hc : n ≤ c) (hc2 : n2 ≤ c2) (hl : n < 1099511627776) (hl2 : n2 < 1099511627776) (hb : n * n2 < 1099511627776) :
    Calls Try.prog 50 #[.slice A n c, .slice A2 n2 c2] W fun e w' => ∃ A' c', e = .returned (.slice A' (ofL (meets xs ys)).length c') ∧ SL w0 w' (Row k105 105 (.slice A' (ofL (meets xs ys)).length c') (ofL (meets xs ys)) :: l) := by
  subst hn
  subst hn2
  obtain ⟨K, hK⟩ := both_ev xs ys hl hl2 hb
  refine (span_Set_Both.calls K A c xs A2 c2 ys (ofL (meets xs ys)) W hC hc hC2 hc2 (hK K (Nat.le_refl _))).mono ?_
  rintro e w' ⟨v, rfl, ho, hb⟩
  obtain ⟨A', c', e2⟩ := Kd.R_slice ho
  subst e2
  exact ⟨A', c', rfl, HS.addRow hb ho⟩
/-- gaps.List. -/
theorem list_c {w0 W : World} {l : List As} (HS : SL w0 W l) (b : Int) (A : Option Addr) (n c : Nat) (xs : List S105) (hn : xs.length = n) (hC : k105.C W A xs.length xs) (hc : n ≤ c) (hl : n < 1000000) :
    Calls Try.prog 34 #[.int .u32 b, .slice A n c] W fun e w' => ∃ v, e = .returned v ∧ SL w0 w' (Row (Kd.int .u32) 27 v (pairsOf b (cutH xs)) :: l) := by
  subst hn
  obtain ⟨K, hK⟩ := glist_ev b xs hl
  refine (gaps_List.calls K b A c xs (pairsOf b (cutH xs)) W hC hc (hK K (Nat.le_refl _))).mono ?_
  rintro e w' ⟨v, rfl, ho, hb⟩
  exact ⟨v, rfl, HS.addRow hb ho⟩
/-- What is missing, where 'left' did not come yet. -/
def MissL (x : RS) (left : List (Int × Value)) (s : List S105) : Prop := Norm s ∧ Small s ∧ ∀ n, Mem n s ↔ (0 ≤ n ∧ n < toN x.r x.h) ∧ ∀ p ∈ sM x.buf, toN x.r p.1 = n → p ∈ left
theorem MissL.len {x : RS} {left : List (Int × Value)} {s : List S105} (h : MissL x left s) : s.length ≤ 16777216 := by
  have h1 := norm_len h.1
  have h2 := rise_len (listL s) 0 16777216 (rise_listL h.1) (fun n hn => by
    have := ((h.2.2 n).1 ((mem_listL s n).1 hn)).1
    unfold toN at this
    omega)
  omega
theorem MissL.start (x : RS) : MissL x (sM x.buf) (ofL [⟨0, toN x.r x.h⟩]) := by
  have hs : Small [(⟨0, toN x.r x.h⟩ : S105)] := fun y hy => by
    rw [List.mem_singleton] at hy
    subst hy
    simp only [mostL, toN]
    omega
  refine ⟨(ofL_spec _).1, ofL_small _, fun n => ?_⟩
  rw [ofL_mem hs, mem_one]
  exact ⟨fun h => ⟨h, fun p hp _ => hp⟩, fun h => h.1⟩
theorem MissL.step {x : RS} {left : List (Int × Value)} {s : List S105} {p : Int × Value} (hn : ((sM x.buf).map (·.1)).Nodup) (hsub : ∀ q ∈ left, q ∈ sM x.buf) (h : MissL x left s) (hp : p ∈ left) :
    MissL x (left.filter fun q => !(q.1 == p.1)) (dropR s ⟨toN x.r p.1, toN x.r p.1 + 1⟩) := by
  obtain ⟨h1, h2, h3⟩ := drop_spec h.2.1 ⟨toN x.r p.1, toN x.r p.1 + 1⟩
  have e : nearL (⟨toN x.r p.1, toN x.r p.1 + 1⟩ : S105) = ⟨toN x.r p.1, toN x.r p.1 + 1⟩ := near_small (by simp only [mostL, toN]; omega)
  rw [e] at h3
  refine ⟨h1, h2, fun n => ?_⟩
  rw [h3, h.2.2]
  constructor
  · rintro ⟨⟨h4, h5⟩, h6⟩
    refine ⟨h4, fun q hq hqn => List.mem_filter.2 ⟨h5 q hq hqn, ?_⟩⟩
    have : ¬ q.1 = p.1 := fun e => h6 (by simp only; rw [← e, hqn]; omega)
    simpa using this
  · rintro ⟨h4, h5⟩
    refine ⟨⟨h4, fun q hq hqn => (List.mem_filter.1 (h5 q hq hqn)).1⟩, fun h6 => ?_⟩
    have h7 : toN x.r p.1 = n := by simp only at h6; omega
    have h8 := (List.mem_filter.1 (h5 p (hsub p hp) h7)).2
    simp at h8
/-- missing. -/
def Miss (x : RS) (s : List S105) : Prop := Norm s ∧ Small s ∧ ∀ n, Mem n s ↔ (0 ≤ n ∧ n < toN x.r x.h) ∧ ∀ p ∈ x.buf, toN x.r p.1 ≠ n
theorem MissL.miss {x : RS} {s : List S105} (h : MissL x [] s) : Miss x s := ⟨h.1, h.2.1, fun n => by
  rw [h.2.2]
  refine ⟨fun ⟨h1, h2⟩ => ⟨h1, fun p hp e => ?_⟩, fun ⟨h1, h2⟩ => ⟨h1, fun p hp e => ?_⟩⟩
  · cases h2 (p.1, .string p.2) (List.mem_map.2 ⟨p, hp, rfl⟩) e
  · obtain ⟨q, hq, rfl⟩ := List.mem_map.1 hp
    exact absurd e (h2 q hq)⟩
theorem Miss.len {x : RS} {s : List S105} (h : Miss x s) : s.length ≤ 16777216 := by
  have h1 := norm_len h.1
  have h2 := rise_len (listL s) 0 16777216 (rise_listL h.1) (fun n hn => by
    have := ((h.2.2 n).1 ((mem_listL s n).1 hn)).1
    unfold toN at this
    omega)
  omega
theorem filter_lt (l : List (Int × Value)) (p : Int × Value) (h : p ∈ l) : (l.filter fun q => !(q.1 == p.1)).length < l.length :=
  List.length_filter_lt_length_iff_exists.2 ⟨p, h, by simp⟩
set_option maxHeartbeats 2000000 in
set_option maxRecDepth 100000 in
theorem missing_c {w0 W : World} {l : List As} {b : Nat} {x : RS} (HS : SL w0 W (RecvA b x :: l)) :
    Calls Try.prog 36 #[.pointer (some ⟨b, 0, none⟩)] W fun e w' => ∃ A' c' s, e = .returned (.slice A' s.length c') ∧ Miss x s ∧ SL w0 w' (Row k105 105 (.slice A' s.length c') s :: RecvA b x :: l) := by
  obtain ⟨bm, Ai, ci, Ag, cg, hci, hcg, h⟩ := RecvA.open_ HS
  have HN := Aside0.mk (SL.mapAt h (.tail _ (.head _))).1
  have HS := Aside0.mk h
  have hu := Try.underlying73
  have hu2 := Try.underlying105
  clear h hci hcg
  go_enter Try.func36, Try.ntmps36
  go_wp2_with fail
  refine region_tail 10 (by kernel_rfl) (by kernel_rfl) (fun W1 hW_ => ?_); have hs_ := Aside0.mk (hW_.out ▸ SL.drew (by repeat (first | (with_reducible exact HS.out) | (with_reducible apply SL.alloc) | (with_reducible apply SL.drewN) | (with_reducible apply SL.drew)))); clear HS; have HS := hs_; clear hs_ hW_; obtain ⟨⟨q0, z0⟩, ⟨q1, z1⟩, ⟨q2, z2⟩, ⟨q3, z3⟩, ⟨q4, z4⟩, ⟨q5, z5⟩, ⟨q6, z6⟩⟩ := cellsAt HS.out; simp only [List.take_succ_cons, List.take_zero, List.drop_succ_cons, List.drop_zero]; (repeat (first | still_step | (refine wpStill_step (fun K hK => ?_); go_simp; (with_reducible refine ⟨_, to_c _ _ _, hK _ ?_⟩); clear hK K))); refine wpStill_nil ?_
  go_wp2_with (first
    | (go_at_call 51; (with_reducible refine (spanOf_c (SL.lit1 (d := k105) (p := ⟨0, toN x.r x.h⟩) (cs := [.int .i64 0, .int .i64 (toN x.r x.h)]) HS.out (fun W b o => k105_mkM W b o ⟨0, toN x.r x.h⟩)) (some ⟨W1.heap.size, 0, none⟩) 1 1 [⟨0, toN x.r x.h⟩] rfl ?s1 (Nat.le_refl _) (by decide)).mono ?_); (case s1 => exact SL.reads (SL.lit1 (d := k105) (p := ⟨0, toN x.r x.h⟩) (cs := [.int .i64 0, .int .i64 (toN x.r x.h)]) HS.out (fun W b o => k105_mkM W b o ⟨0, toN x.r x.h⟩)) (.head _)); rintro e w2 ⟨A3, c3, rfl, hs⟩; have hs2 := Aside0.mk (SL.tail (SL.swap hs)); clear HS hs q0 q1 q2 q3 q4 q5 q6 z0 z1 z2 z3 z4 z5 z6; have HS := hs2; clear hs2; obtain ⟨⟨q0, z0⟩, ⟨q1, z1⟩, ⟨q2, z2⟩, ⟨q3, z3⟩, ⟨q4, z4⟩, ⟨q5, z5⟩, ⟨q6, z6⟩⟩ := cellsAt (SL.tail HS.out))
    | (at_range; refine wpList_mrange rfl _ 70 27 9 .u32 rfl Try.underlying70 bm (sM x.buf) rfl (SL.pk [2] HS.out) ?_; intro w4 hs; have hs2 := Aside0.mk hs; clear HS hs q0 q1 q2 q3 q4 q5 q6 z0 z1 z2 z3 z4 z5 z6; have HS := hs2; clear hs2))
  go_frame
  go_loopg [3] (sM x.buf).length (fun kq v3 wr => ∃ (left : List (Int × Value)) (s : List S105) (A3 : Option Addr) (c3 : Nat), v3 = .slice A3 s.length c3 ∧ Aside0 (left.length = kq) ∧ Aside0 (∀ q ∈ left, q ∈ sM x.buf) ∧ Aside0 (MissL x left s) ∧
    Aside0 (SL w0 wr (RangeA .u32 bm w2.heap.size (sM x.buf) left :: Row k105 105 (.slice A3 s.length c3) s :: Blk b (cellsR x bm (.slice Ai x.inb.length ci) (.slice Ag x.gaps.length cg)) 73 :: Row Kd.string 9 (.slice Ai x.inb.length ci) x.inb :: Row kG 76 (.slice Ag x.gaps.length cg) x.gaps :: l)))
  case atStart => exact ⟨sM x.buf, _, A3, c3, rfl, ⟨rfl⟩, ⟨fun _ h => h⟩, ⟨MissL.start x⟩, HS⟩
  case round =>
    clear HS
    obtain ⟨left, s, A3, c3, rfl, HK, HSub, HM, HS⟩ := hrel
    go_wp2_with (at_next; refine wpList_mnext rfl _ rfl .u32 bm w2.heap.size (sM x.buf) left rfl HS.out ?_ ?_)
    · intro he
      have HE := Aside0.mk he
      clear he
      go_wp2
      go_ret
      refine ⟨A3, c3, s, rfl, (HE.out ▸ HM.out : MissL x [] s).miss, SL.swap (RecvA.shut (SL.pk [2, 0, 1, 1, 0] (SL.range_end HS.out)))⟩
    · intro y u hp w5 hs hen
      have HP := Aside0.mk hp
      have HS2 := Aside0.mk hs
      clear HS hs hp
      obtain ⟨q0, z0⟩ := SL.cell HS2.out (.tail _ (.tail _ (.head _))) 0 (v := .int .u32 x.r) rfl
      have b1 : 0 ≤ toN x.r y := by unfold toN; omega
      have b2 : toN x.r y < 16777216 := by unfold toN; omega
      have HL := Aside0.mk HM.out.len
      have HC := Aside0.mk (SL.cap HS2.out (.tail _ (.head _)))
      go_wp2_with (first
        | (go_at_call 17; (with_reducible refine (to_c _ _ _).mono ?_); rintro e w1 ⟨rfl, rfl⟩; skip)
        | (go_at_call 53; (with_reducible refine (spanDrop_c HS2.out A3 s.length c3 s (toN x.r y) (toN x.r y + 1) rfl ?s1 HC.out ?s2).mono ?_); (case s1 => exact SL.reads HS2.out (.tail _ (.head _))); (case s2 => have := HL.out; omega); rintro e w6 ⟨A7, c7, rfl, hs⟩; have hs2 := Aside0.mk hs; clear HS2 hs q0 z0; have HS := hs2; clear hs2))
      go_roundg (left.filter fun q => !(q.1 == y)).length
      case measure =>
        have h1 := HK.out
        have h2 := filter_lt left (y, u) HP.out
        exact h1 ▸ h2
      case rel =>
        have h3 : MissL x (left.filter fun q => !(q.1 == y)) (dropR s ⟨toN x.r y, toN x.r y + 1⟩) := MissL.step (p := (y, u)) HN.out HSub.out HM.out HP.out
        have h4 := SL.tail (SL.pk [2, 1, 0] HS.out)
        refine ⟨left.filter fun q => !(q.1 == y), dropR s ⟨toN x.r y, toN x.r y + 1⟩, A7, c7, rfl, ⟨rfl⟩, ⟨fun q hq => HSub.out q (List.mem_filter.1 hq).1⟩, ⟨h3⟩, ⟨h4⟩⟩
end Go.Proofs.Ytiiljdglbfgdbaa.Rcv
/-! The receiver's methods, eighth part: still. -/
namespace Go.Proofs.Ytiiljdglbfgdbaa.Rcv
open Go Go.RowKit Go.Proofs.YtiiljdglbfgdbaaW.PrintWords Go.Proofs.YtiiljdglbfgdbaaW.PrintLast Go.Proofs.YtiiljdglbfgdbaaW.PrintMore Go.Proofs.Ytiiljdglbfgdbaa Go.Proofs.Ytiiljdglbfgdbaa.Sl Go.Proofs.Ytiiljdglbfgdbaa.S Go.Proofs.Ytiiljdglbfgdbaa.SpanTh Go.Proofs.Ytiiljdglbfgdbaa.SpanEv
theorem Miss.len2 {x : RS} {s : List S105} (h : Miss x s) : (s.length : Int) ≤ toN x.r x.h := by
  have h1 := norm_len h.1
  have h2 := rise_len (listL s) 0 (toN x.r x.h) (rise_listL h.1) (fun n hn => ((h.2.2 n).1 ((mem_listL s n).1 hn)).1)
  have : 0 ≤ toN x.r x.h := by unfold toN; omega
  omega
/-- What is missing still of a gap. -/
def StillR (x : RS) (g : Gp) (t : List S105) : Prop := Norm t ∧ Small t ∧ ∀ n, Mem n t ↔ toN x.r g.f1 ≤ toN x.r x.h ∧ (0 ≤ n ∧ n < toN x.r x.h) ∧ (∀ p ∈ x.buf, toN x.r p.1 ≠ n) ∧ toN x.r g.f1 - toN g.f0 g.f1 ≤ n ∧ n < toN x.r g.f1
theorem StillR.both {x : RS} {g : Gp} {s : List S105} (hs : Miss x s) (h : toN x.r g.f1 ≤ toN x.r x.h) : StillR x g (ofL (meets s (ofL [⟨toN x.r g.f1 - toN g.f0 g.f1, toN x.r g.f1⟩]))) := by
  have h1 : Small [(⟨toN x.r g.f1 - toN g.f0 g.f1, toN x.r g.f1⟩ : S105)] := by
    intro y hy
    rw [List.mem_singleton] at hy
    subst hy
    simp only [mostL, toN]
    omega
  obtain ⟨h2, h3, h4⟩ := both_spec hs.2.1 (ofL_small [(⟨toN x.r g.f1 - toN g.f0 g.f1, toN x.r g.f1⟩ : S105)])
  refine ⟨h2, h3, fun n => ?_⟩
  rw [h4, ofL_mem h1, mem_one, hs.2.2]
  exact ⟨fun ⟨⟨a, b⟩, c⟩ => ⟨h, a, b, c⟩, fun ⟨_, a, b, c⟩ => ⟨⟨a, b⟩, c⟩⟩
theorem StillR.far {x : RS} {g : Gp} (h : ¬ toN x.r g.f1 ≤ toN x.r x.h) : StillR x g [] :=
  ⟨norm_nil, fun _ h => (by cases h), fun n => ⟨fun h => absurd h (mem_nil n), fun h1 => absurd h1.1 h⟩⟩
theorem ofL_len1 (y : S105) : (ofL [y]).length ≤ 1 := by
  unfold ofL keptL
  simp only [List.map_cons, List.map_nil, List.filter_cons, List.filter_nil]
  split
  · rw [List.mergeSort_singleton]; exact Nat.le_refl _
  · rw [List.mergeSort_nil]; exact Nat.zero_le _
set_option maxHeartbeats 2000000 in
set_option maxRecDepth 100000 in
theorem still_far {w0 W : World} {l : List As} {b : Nat} {x : RS} (HS : SL w0 W (RecvA b x :: l)) (g : Gp) (h : toN x.r g.f1 > toN x.r x.h) :
    Calls Try.prog 32 #[.pointer (some ⟨b, 0, none⟩), .agg #[.int .u32 g.f0, .int .u32 g.f1]] W fun e w' => e = .returned (.slice none 0 0) ∧ SL w0 w' (RecvA b x :: l) := by
  have hg : decide (toN x.r g.f1 > toN x.r x.h) = true := decide_eq_true h
  clear h
  obtain ⟨bm, Ai, ci, Ag, cg, hci, hcg, h⟩ := RecvA.open_ HS
  have HS := Aside0.mk h
  have hu := Try.underlying73
  have hu2 := Try.underlying76
  clear h hci hcg
  go_enter Try.func32, Try.ntmps32
  go_wp2_with fail
  have hs_ := Aside0.mk (SL.new HS.out #[.int .u32 g.f0, .int .u32 g.f1] 76); clear HS; have HS := hs_; clear hs_
  obtain ⟨⟨q0, z0⟩, ⟨q1, z1⟩, ⟨q2, z2⟩, ⟨q3, z3⟩, ⟨q4, z4⟩, ⟨q5, z5⟩, ⟨q6, z6⟩⟩ := cellsAt (SL.tail HS.out)
  obtain ⟨x0, y0⟩ := SL.cell HS.out (.head _) 0 (v := .int .u32 g.f0) rfl
  obtain ⟨x1, y1⟩ := SL.cell HS.out (.head _) 1 (v := .int .u32 g.f1) rfl
  have HB : W.alloc (.cells #[.int .u32 g.f0, .int .u32 g.f1] 76) = W.alloc (.cells #[.int .u32 g.f0, .int .u32 g.f1] 76) := rfl
  generalize W.alloc (.cells #[.int .u32 g.f0, .int .u32 g.f1] 76) = w1 at *
  clear HB
  go_quiet ((first | (go_at_call 17; with_reducible exact Calls.quiet_of_same (to_c _ _ _))))
  go_wp2_with fail
  have hs_ := Aside0.mk (SL.drewN HS.out nq); clear HS; have HS := hs_; clear hs_
  clear q0 z0 q1 z1 q2 z2 q3 z3 q4 z4 q5 z5 q6 z6 x0 y0 x1 y1
  generalize w1.drewN nq = w2 at *
  obtain ⟨⟨q0, z0⟩, ⟨q1, z1⟩, ⟨q2, z2⟩, ⟨q3, z3⟩, ⟨q4, z4⟩, ⟨q5, z5⟩, ⟨q6, z6⟩⟩ := cellsAt (SL.tail HS.out)
  obtain ⟨x0, y0⟩ := SL.cell HS.out (.head _) 0 (v := .int .u32 g.f0) rfl
  obtain ⟨x1, y1⟩ := SL.cell HS.out (.head _) 1 (v := .int .u32 g.f1) rfl
  go_quiet ((first | (go_at_call 17; with_reducible exact Calls.quiet_of_same (to_c _ _ _))))
  go_wp2
  go_ret
  exact ⟨rfl, RecvA.shut (SL.tail (by (with_reducible repeat (first | apply SL.alloc | apply SL.drewN | apply SL.drew)); exact HS.out))⟩
set_option maxHeartbeats 2000000 in
set_option maxRecDepth 100000 in
theorem still_in {w0 W : World} {l : List As} {b : Nat} {x : RS} (HS : SL w0 W (RecvA b x :: l)) (g : Gp) (h : toN x.r g.f1 ≤ toN x.r x.h) (hh : toN x.r x.h ≤ 64) :
    Calls Try.prog 32 #[.pointer (some ⟨b, 0, none⟩), .agg #[.int .u32 g.f0, .int .u32 g.f1]] W fun e w' => ∃ A' c' t, e = .returned (.slice A' t.length c') ∧ StillR x g t ∧ SL w0 w' (Row k105 105 (.slice A' t.length c') t :: RecvA b x :: l) := by
  have hg : decide (toN x.r g.f1 > toN x.r x.h) = false := decide_eq_false (by omega)
  have HR := fun s hs => StillR.both (x := x) (g := g) (s := s) hs h
  clear h
  obtain ⟨bm, Ai, ci, Ag, cg, hci, hcg, h⟩ := RecvA.open_ HS
  have HS := Aside0.mk h
  have HH := Aside0.mk hh
  have hu := Try.underlying73
  have hu2 := Try.underlying76
  have hu3 := Try.underlying105
  have b1 : 0 ≤ toN x.r g.f1 := by unfold toN; omega
  have b2 : toN x.r g.f1 < 16777216 := by unfold toN; omega
  have b3 : 0 ≤ toN g.f0 g.f1 := by unfold toN; omega
  have b4 : toN g.f0 g.f1 < 16777216 := by unfold toN; omega
  have hwr : wrap64 (toN x.r g.f1 - toN g.f0 g.f1) = toN x.r g.f1 - toN g.f0 g.f1 := by unfold wrap64; omega
  clear h hci hcg hh
  go_enter Try.func32, Try.ntmps32
  go_wp2_with fail
  have hs_ := Aside0.mk (SL.new HS.out #[.int .u32 g.f0, .int .u32 g.f1] 76); clear HS; have HS := hs_; clear hs_
  obtain ⟨⟨q0, z0⟩, ⟨q1, z1⟩, ⟨q2, z2⟩, ⟨q3, z3⟩, ⟨q4, z4⟩, ⟨q5, z5⟩, ⟨q6, z6⟩⟩ := cellsAt (SL.tail HS.out)
  obtain ⟨x0, y0⟩ := SL.cell HS.out (.head _) 0 (v := .int .u32 g.f0) rfl
  obtain ⟨x1, y1⟩ := SL.cell HS.out (.head _) 1 (v := .int .u32 g.f1) rfl
  generalize W.alloc (.cells #[.int .u32 g.f0, .int .u32 g.f1] 76) = w1 at *
  go_quiet ((first | (go_at_call 17; with_reducible exact Calls.quiet_of_same (to_c _ _ _))))
  go_wp2_with fail
  have hs_ := Aside0.mk (SL.drewN HS.out nq); clear HS; have HS := hs_; clear hs_
  clear q0 z0 q1 z1 q2 z2 q3 z3 q4 z4 q5 z5 q6 z6 x0 y0 x1 y1
  generalize w1.drewN nq = w2 at *
  obtain ⟨⟨q0, z0⟩, ⟨q1, z1⟩, ⟨q2, z2⟩, ⟨q3, z3⟩, ⟨q4, z4⟩, ⟨q5, z5⟩, ⟨q6, z6⟩⟩ := cellsAt (SL.tail HS.out)
  obtain ⟨x0, y0⟩ := SL.cell HS.out (.head _) 0 (v := .int .u32 g.f0) rfl
  obtain ⟨x1, y1⟩ := SL.cell HS.out (.head _) 1 (v := .int .u32 g.f1) rfl
  go_quiet ((first | (go_at_call 17; with_reducible exact Calls.quiet_of_same (to_c _ _ _))))
  go_wp2
  have hs_ := Aside0.mk ((show SL w0 w2 (RecvA b x :: Blk W.heap.size #[.int .u32 g.f0, .int .u32 g.f1] 76 :: l) from RecvA.shut (SL.pk [1, 1, 1, 1] HS.out))); clear HS; have HS := hs_; clear hs_
  clear q0 z0 q1 z1 q2 z2 q3 z3 q4 z4 q5 z5 q6 z6
  refine start_ (n := 15) (S := fun w' => w'.cell? ⟨W.heap.size, 0, none⟩ = some (.int .u32 g.f0) ∧ w'.cell? ⟨W.heap.size, 1, none⟩ = some (.int .u32 g.f1)) (ds := []) #[false, false, false, false, false, false, false, false, false, false, false, false, false, false, false] (by kernel_rfl) rfl rfl ⟨x0, x1⟩ (fun hHeld => ?_)
  have hs_ := Aside0.mk (SL.drew (W := w2.drewN nq) (by repeat (first | (with_reducible exact HS.out) | (with_reducible apply SL.alloc) | (with_reducible apply SL.drewN) | (with_reducible apply SL.drew))))
  clear HS
  have HS := hs_
  clear hs_
  generalize (w2.drewN nq : World).drew = W4 at HS hHeld ⊢
  refine pure_ (i := 0) (N := (some 24)) (v := ?_) (a' := ?_) #[true, false, false, false, false, false, false, false, false, false, false, false, false, false, false] rfl rfl (by kernel_rfl) (fun _ _ _ h => h) (Or.inl ⟨by rfl, ?_⟩) ?_ ?_
  rotate_left
  · intro w'; go_simp; with_reducible rfl
  rotate_left
  · simp only [Act.put, List.setIfInBounds_toArray, List.set_cons_zero, List.set_cons_succ, i64_w, i32_w]; rfl
  refine pure_ (i := 2) (N := (some 26)) (v := ?_) (a' := ?_) #[true, false, true, false, false, false, false, false, false, false, false, false, false, false, false] rfl rfl (by kernel_rfl) (fun _ _ _ h => h) (Or.inl ⟨by rfl, ?_⟩) ?_ ?_
  rotate_left
  · intro w'; go_simp; with_reducible rfl
  rotate_left
  · simp only [Act.put, List.setIfInBounds_toArray, List.set_cons_zero, List.set_cons_succ, i64_w, i32_w]; rfl
  refine pure_ (i := 3) (N := (some 27)) (v := ?_) (a' := ?_) #[true, false, true, true, false, false, false, false, false, false, false, false, false, false, false] rfl rfl (by kernel_rfl) (fun _ _ _ h => h) (Or.inl ⟨by rfl, ?_⟩) ?_ ?_
  rotate_left
  · intro w'; go_simp; with_reducible rfl
  rotate_left
  · simp only [Act.put, List.setIfInBounds_toArray, List.set_cons_zero, List.set_cons_succ, i64_w, i32_w]; rfl
  refine pure_ (i := 5) (N := (some 29)) (v := ?_) (a' := ?_) #[true, false, true, true, false, true, false, false, false, false, false, false, false, false, false] rfl rfl (by kernel_rfl) (fun _ _ _ h => h) (Or.inl ⟨by rfl, ?_⟩) ?_ ?_
  rotate_left
  · intro w'; go_simp; with_reducible rfl
  rotate_left
  · simp only [Act.put, List.setIfInBounds_toArray, List.set_cons_zero, List.set_cons_succ, i64_w, i32_w]; rfl
  refine pure_ (i := 9) (N := (some 33)) (v := ?_) (a' := ?_) #[true, false, true, true, false, true, false, false, false, true, false, false, false, false, false] rfl rfl (by kernel_rfl) (fun _ _ _ h => h) (Or.inl ⟨by rfl, ?_⟩) ?_ ?_
  rotate_left
  · intro w'; go_simp; with_reducible rfl
  rotate_left
  · simp only [Act.put, List.setIfInBounds_toArray, List.set_cons_zero, List.set_cons_succ, i64_w, i32_w]; rfl
  refine take_ (i := 4) (N := (some 28)) (v := ?_) (a' := ?_) #[true, false, true, true, true, true, false, false, false, true, false, false, false, false, false] rfl rfl (by kernel_rfl) (fun _ _ _ h => h) (Or.inl ⟨by rfl, ?_⟩) hHeld ?_ ?_
  rotate_left
  · rintro w' ⟨s0, s1⟩; go_simp; with_reducible rfl
  rotate_left
  · simp only [Act.put, List.setIfInBounds_toArray, List.set_cons_zero, List.set_cons_succ, i64_w, i32_w]; rfl
  refine take_ (i := 6) (N := (some 30)) (v := ?_) (a' := ?_) #[true, false, true, true, true, true, true, false, false, true, false, false, false, false, false] rfl rfl (by kernel_rfl) (fun _ _ _ h => h) (Or.inl ⟨by rfl, ?_⟩) hHeld ?_ ?_
  rotate_left
  · rintro w' ⟨s0, s1⟩; go_simp; with_reducible rfl
  rotate_left
  · simp only [Act.put, List.setIfInBounds_toArray, List.set_cons_zero, List.set_cons_succ, i64_w, i32_w]; rfl
  refine one_ (i := 1) (N := (some 25)) #[true, true, true, true, true, true, true, false, false, true, false, false, false, false, false] rfl rfl (by kernel_rfl) (by decide) (fun K hK => ?_)
  refine goes_ Try.func36 (by kernel_rfl) rfl #[.pointer (some ⟨b, 0, none⟩)] (by rfl) rfl rfl (by (try simp only [List.map_toArray, List.map_cons, List.map_nil]); first | done | rfl | (simp only [List.length_drop, List.length_take]; rfl)) ?_
  refine (missing_c HS.out).mono ?_
  rintro e w5 ⟨A5, c5, s5, rfl, hM, hs⟩
  refine ⟨_, rfl, ?_⟩
  have HM := Aside0.mk hM
  clear hM
  have hs2 := Aside0.mk (hs)
  clear HS x0 x1 y0 y1
  have HS := hs2
  clear hs2
  clear hs
  obtain ⟨x0, y0⟩ := SL.cell HS.out (.tail _ (.tail _ (.head _))) 0 (v := .int .u32 g.f0) rfl
  obtain ⟨x1, y1⟩ := SL.cell HS.out (.tail _ (.tail _ (.head _))) 1 (v := .int .u32 g.f1) rfl
  refine hK.out _ _ ⟨x0, x1⟩ (fun hHeld => ?_)
  clear hK K
  refine norm_ (a' := ?_) ?_ ?_
  rotate_left
  · show Act.put _ (some 25) _ = _; simp only [Act.put, List.setIfInBounds_toArray, List.set_cons_zero, List.set_cons_succ, i64_w, i32_w]; rfl
  refine one_ (i := 7) (N := (some 31)) #[true, true, true, true, true, true, true, true, false, true, false, false, false, false, false] rfl rfl (by kernel_rfl) (by decide) (fun K hK => ?_)
  refine goes_ Try.func17 (by kernel_rfl) rfl #[.int .u32 g.f0, .int .u32 g.f1] (by rfl) rfl rfl (by (try simp only [List.map_toArray, List.map_cons, List.map_nil]); first | done | rfl | (simp only [List.length_drop, List.length_take]; rfl)) ?_
  refine (to_c _ _ _).mono ?_
  rintro e w6 ⟨rfl, rfl⟩
  refine ⟨_, rfl, ?_⟩
  refine hK.out _ _ ⟨x0, x1⟩ (fun hHeld => ?_)
  clear hK K
  refine norm_ (a' := ?_) ?_ ?_
  rotate_left
  · show Act.put _ (some 31) _ = _; simp only [Act.put, List.setIfInBounds_toArray, List.set_cons_zero, List.set_cons_succ, i64_w, i32_w]; rfl
  refine pure_ (i := 8) (N := (some 32)) (v := ?_) (a' := ?_) #[true, true, true, true, true, true, true, true, true, true, false, false, false, false, false] rfl rfl (by kernel_rfl) (fun _ _ _ h => h) (Or.inl ⟨by rfl, ?_⟩) ?_ ?_
  rotate_left
  · intro w'; go_simp; with_reducible rfl
  rotate_left
  · simp only [Act.put, List.setIfInBounds_toArray, List.set_cons_zero, List.set_cons_succ, i64_w, i32_w]; rfl
  refine pure_ (i := 10) (N := (some 34)) (v := ?_) (a' := ?_) #[true, true, true, true, true, true, true, true, true, true, true, false, false, false, false] rfl rfl (by kernel_rfl) (fun _ _ _ h => h) (Or.inl ⟨by rfl, ?_⟩) ?_ ?_
  rotate_left
  · intro w'; go_simp; with_reducible rfl
  rotate_left
  · simp only [Act.put, List.setIfInBounds_toArray, List.set_cons_zero, List.set_cons_succ, i64_w, i32_w]; rfl
  refine one_ (i := 11) (N := (some 35)) #[true, true, true, true, true, true, true, true, true, true, true, true, false, false, false] rfl rfl (by kernel_rfl) (by decide) (fun K hK => ?_)
  refine val_ (v := .slice (some ⟨w6.heap.size, 0, none⟩) 1 1) (w1 := w6.alloc (.cells #[.int .i64 (toN x.r g.f1 - toN g.f0 g.f1), .int .i64 (toN x.r g.f1)] 105)) (by rfl) rfl (by go_simp) ?_
  have hs2 := Aside0.mk (SL.lit1 (d := k105) (e := 105) (p := ⟨toN x.r g.f1 - toN g.f0 g.f1, toN x.r g.f1⟩) (cs := [.int .i64 (toN x.r g.f1 - toN g.f0 g.f1), .int .i64 (toN x.r g.f1)]) HS.out (fun W b o => k105_mkM W b o ⟨toN x.r g.f1 - toN g.f0 g.f1, toN x.r g.f1⟩))
  clear HS x0 x1 y0 y1
  have HS := hs2
  clear hs2
  obtain ⟨x0, y0⟩ := SL.cell HS.out (.tail _ (.tail _ (.tail _ (.head _)))) 0 (v := .int .u32 g.f0) rfl
  obtain ⟨x1, y1⟩ := SL.cell HS.out (.tail _ (.tail _ (.tail _ (.head _)))) 1 (v := .int .u32 g.f1) rfl
  refine hK.out _ _ ⟨x0, x1⟩ (fun hHeld => ?_)
  clear hK K
  refine norm_ (a' := ?_) ?_ ?_
  rotate_left
  · show Act.put _ (some 35) _ = _; simp only [Act.put, List.setIfInBounds_toArray, List.set_cons_zero, List.set_cons_succ, i64_w, i32_w]; rfl
  refine one_ (i := 12) (N := (some 36)) #[true, true, true, true, true, true, true, true, true, true, true, true, true, false, false] rfl rfl (by kernel_rfl) (by decide) (fun K hK => ?_)
  refine goes_ Try.func51 (by kernel_rfl) rfl #[.slice (some ⟨w6.heap.size, 0, none⟩) 1 1] (by rfl) rfl rfl (by (try simp only [List.map_toArray, List.map_cons, List.map_nil]); first | done | rfl | (simp only [List.length_drop, List.length_take]; rfl)) ?_
  refine (spanOf_c HS.out (some ⟨w6.heap.size, 0, none⟩) 1 1 [⟨toN x.r g.f1 - toN g.f0 g.f1, toN x.r g.f1⟩] rfl (SL.reads HS.out (.head _)) (Nat.le_refl _) (by decide)).mono ?_
  rintro e w7 ⟨A7, c7, rfl, hs⟩
  refine ⟨_, rfl, ?_⟩
  have hs2 := Aside0.mk (hs)
  clear HS x0 x1 y0 y1
  have HS := hs2
  clear hs2
  clear hs
  obtain ⟨x0, y0⟩ := SL.cell HS.out (.tail _ (.tail _ (.tail _ (.tail _ (.head _))))) 0 (v := .int .u32 g.f0) rfl
  obtain ⟨x1, y1⟩ := SL.cell HS.out (.tail _ (.tail _ (.tail _ (.tail _ (.head _))))) 1 (v := .int .u32 g.f1) rfl
  refine hK.out _ _ ⟨x0, x1⟩ (fun hHeld => ?_)
  clear hK K
  refine norm_ (a' := ?_) ?_ ?_
  rotate_left
  · show Act.put _ (some 36) _ = _; simp only [Act.put, List.setIfInBounds_toArray, List.set_cons_zero, List.set_cons_succ, i64_w, i32_w]; rfl
  refine one_ (i := 13) (N := (some 37)) #[true, true, true, true, true, true, true, true, true, true, true, true, true, true, false] rfl rfl (by kernel_rfl) (by decide) (fun K hK => ?_)
  refine goes_ Try.func50 (by kernel_rfl) rfl #[.slice A5 s5.length c5, .slice A7 (ofL [(⟨toN x.r g.f1 - toN g.f0 g.f1, toN x.r g.f1⟩ : S105)]).length c7] (by rfl) rfl rfl (by (try simp only [List.map_toArray, List.map_cons, List.map_nil]); first | done | rfl | (simp only [List.length_drop, List.length_take]; rfl)) ?_
  refine (spanBoth_c HS.out A5 s5.length c5 s5 A7 _ c7 (ofL [⟨toN x.r g.f1 - toN g.f0 g.f1, toN x.r g.f1⟩]) rfl rfl (SL.reads HS.out (.tail _ (.tail _ (.head _)))) (SL.reads HS.out (.head _)) (SL.cap HS.out (.tail _ (.tail _ (.head _)))) (SL.cap HS.out (.head _)) ?s1 ?s2 ?s3).mono ?_
  case s1 => have := HM.out.len; omega
  case s2 => exact Nat.lt_of_le_of_lt (ofL_len1 _) (by decide)
  case s3 => have h1 := HM.out.len; exact Nat.lt_of_le_of_lt (Nat.mul_le_mul h1 (ofL_len1 _)) (by decide)
  rintro e w8 ⟨A8, c8, rfl, hs⟩
  refine ⟨_, rfl, ?_⟩
  have hs2 := Aside0.mk (hs)
  clear HS x0 x1 y0 y1
  have HS := hs2
  clear hs2
  clear hs
  obtain ⟨x0, y0⟩ := SL.cell HS.out (.tail _ (.tail _ (.tail _ (.tail _ (.tail _ (.head _)))))) 0 (v := .int .u32 g.f0) rfl
  obtain ⟨x1, y1⟩ := SL.cell HS.out (.tail _ (.tail _ (.tail _ (.tail _ (.tail _ (.head _)))))) 1 (v := .int .u32 g.f1) rfl
  refine hK.out _ _ ⟨x0, x1⟩ (fun hHeld => ?_)
  clear hK K
  refine norm_ (a' := ?_) ?_ ?_
  rotate_left
  · show Act.put _ (some 37) _ = _; simp only [Act.put, List.setIfInBounds_toArray, List.set_cons_zero, List.set_cons_succ, i64_w, i32_w]; rfl
  refine pure_ (i := 14) (N := (some 4)) (v := ?_) (a' := ?_) #[true, true, true, true, true, true, true, true, true, true, true, true, true, true, true] rfl rfl (by kernel_rfl) (fun _ _ _ h => h) (Or.inl ⟨by rfl, ?_⟩) ?_ ?_
  rotate_left
  · intro w'; go_simp; with_reducible rfl
  rotate_left
  · simp only [Act.put, List.setIfInBounds_toArray, List.set_cons_zero, List.set_cons_succ, i64_w, i32_w]; rfl
  refine done_ (by kernel_rfl) ?_
  go_wp2
  go_ret
  exact ⟨_, _, _, rfl, HR _ HM.out, SL.sub HS.out (.cons_cons _ (.cons _ (.cons _ (.cons _ (.cons_cons _ (.cons _ (List.Sublist.refl _)))))))⟩
/-- still. -/
theorem still_c {w0 W : World} {l : List As} {b : Nat} {x : RS} (HS : SL w0 W (RecvA b x :: l)) (g : Gp) (hh : toN x.r x.h ≤ 64) :
    Calls Try.prog 32 #[.pointer (some ⟨b, 0, none⟩), .agg #[.int .u32 g.f0, .int .u32 g.f1]] W fun e w' => ∃ A' c' t, e = .returned (.slice A' t.length c') ∧ StillR x g t ∧ SL w0 w' (Row k105 105 (.slice A' t.length c') t :: RecvA b x :: l) := by
  by_cases h : toN x.r g.f1 ≤ toN x.r x.h
  · exact still_in HS g h hh
  · refine (still_far HS g (by omega)).mono ?_
    rintro e w' ⟨rfl, hs⟩
    exact ⟨none, 0, [], rfl, StillR.far h, SL.addNil _ _ hs⟩
end Go.Proofs.Ytiiljdglbfgdbaa.Rcv
/-! The receiver's methods, ninth part: Stat, Gap. -/
namespace Go.Proofs.Ytiiljdglbfgdbaa.Rcv
open Go Go.RowKit Go.Proofs.YtiiljdglbfgdbaaW.PrintWords Go.Proofs.YtiiljdglbfgdbaaW.PrintLast Go.Proofs.YtiiljdglbfgdbaaW.PrintMore Go.Proofs.Ytiiljdglbfgdbaa Go.Proofs.Ytiiljdglbfgdbaa.Sl Go.Proofs.Ytiiljdglbfgdbaa.S Go.Proofs.Ytiiljdglbfgdbaa.SpanTh Go.Proofs.Ytiiljdglbfgdbaa.SpanEv
theorem results_t3 {fn : Func} {a b c : Tmp} (h : fn.results = #[.tmp a, .tmp b, .tmp c]) (tmps : Array Value) (P : Program) (w : World) : (results fn tmps).run P w = .ok (.tuple #[tmps.getD a undef, tmps.getD b undef, tmps.getD c undef]) w := by
  simp [results, h]
theorem results_t4 {fn : Func} {a b c d : Tmp} (h : fn.results = #[.tmp a, .tmp b, .tmp c, .tmp d]) (tmps : Array Value) (P : Program) (w : World) : (results fn tmps).run P w = .ok (.tuple #[tmps.getD a undef, tmps.getD b undef, tmps.getD c undef, tmps.getD d undef]) w := by
  simp [results, h]
set_option maxHeartbeats 2000000 in
set_option maxRecDepth 100000 in
theorem stat_c {w0 W : World} {l : List As} {b : Nat} {x : RS} (hx : x.Ok) (hh : toN x.r x.h ≤ 64) (HS : SL w0 W (RecvA b x :: l)) :
    Calls Try.prog 22 #[.pointer (some ⟨b, 0, none⟩)] W fun e w' => ∃ v s, e = .returned (.tuple #[v, .int .u32 x.r, .int .u32 (renewF x).mr]) ∧ Miss x s ∧ SL w0 w' (Row (Kd.int .u32) 27 v (pairsOf x.r (cutH s)) :: RecvA b (renewF x) :: l) := by
  have HX := Aside0.mk hx
  have HH := Aside0.mk hh
  have HS := Aside0.mk HS
  have hu := Try.underlying73
  clear hx hh
  go_enter Try.func22, Try.ntmps22
  go_wp2_with fail
  refine (renew_c HX.out HS.out).mono ?_
  rintro e w1 ⟨rfl, hs⟩
  obtain ⟨bm, Ai, ci, Ag, cg, hci, hcg, h⟩ := RecvA.open_ hs
  have HP := Aside0.mk h
  clear HS hs h hci hcg
  have HS := HP
  clear HP
  obtain ⟨⟨q0, z0⟩, ⟨q1, z1⟩, ⟨q2, z2⟩, ⟨q3, z3⟩, ⟨q4, z4⟩, ⟨q5, z5⟩, ⟨q6, z6⟩⟩ := cellsAt HS.out
  go_wp2_with fail
  refine start_ (n := 18) (S := fun w' => w'.cell? ⟨b, 0, none⟩ = some (.int .u32 x.r) ∧ w'.cell? ⟨b, 2, none⟩ = some (.int .u32 (renewF x).mr)) (ds := []) #[false, false, false, false, false, false, false, false, false, false, false, false, false, false, false, false, false, false] (by kernel_rfl) rfl rfl ⟨q0, q2⟩ (fun hHeld => ?_)
  have hs_ := Aside0.mk (SL.drew (W := w1) (by repeat (first | (with_reducible exact HS.out) | (with_reducible apply SL.alloc) | (with_reducible apply SL.drewN) | (with_reducible apply SL.drew))))
  clear HS
  have HS := hs_
  clear hs_
  generalize (w1 : World).drew = W4 at HS hHeld q0 q1 q2 q3 q4 q5 q6 z0 z1 z2 z3 z4 z5 z6 ⊢
  refine pure_ (i := 0) (N := (some 7)) (v := ?_) (a' := ?_) #[true, false, false, false, false, false, false, false, false, false, false, false, false, false, false, false, false, false] rfl rfl (by kernel_rfl) (fun _ _ _ h => h) (Or.inl ⟨by rfl, ?_⟩) ?_ ?_
  rotate_left
  · intro w'; go_simp; with_reducible rfl
  rotate_left
  · simp only [Act.put, List.setIfInBounds_toArray, List.set_cons_zero, List.set_cons_succ, i64_w, i32_w]; rfl
  refine pure_ (i := 1) (N := (some 8)) (v := ?_) (a' := ?_) #[true, true, false, false, false, false, false, false, false, false, false, false, false, false, false, false, false, false] rfl rfl (by kernel_rfl) (fun _ _ _ h => h) (Or.inl ⟨by rfl, ?_⟩) ?_ ?_
  rotate_left
  · intro w'; go_simp; with_reducible rfl
  rotate_left
  · simp only [Act.put, List.setIfInBounds_toArray, List.set_cons_zero, List.set_cons_succ, i64_w, i32_w]; rfl
  refine pure_ (i := 2) (N := (some 9)) (v := ?_) (a' := ?_) #[true, true, true, false, false, false, false, false, false, false, false, false, false, false, false, false, false, false] rfl rfl (by kernel_rfl) (fun _ _ _ h => h) (Or.inl ⟨by rfl, ?_⟩) ?_ ?_
  rotate_left
  · intro w'; go_simp; with_reducible rfl
  rotate_left
  · simp only [Act.put, List.setIfInBounds_toArray, List.set_cons_zero, List.set_cons_succ, i64_w, i32_w]; rfl
  refine pure_ (i := 4) (N := (some 11)) (v := ?_) (a' := ?_) #[true, true, true, false, true, false, false, false, false, false, false, false, false, false, false, false, false, false] rfl rfl (by kernel_rfl) (fun _ _ _ h => h) (Or.inl ⟨by rfl, ?_⟩) ?_ ?_
  rotate_left
  · intro w'; go_simp; with_reducible rfl
  rotate_left
  · simp only [Act.put, List.setIfInBounds_toArray, List.set_cons_zero, List.set_cons_succ, i64_w, i32_w]; rfl
  refine pure_ (i := 7) (N := (some 14)) (v := ?_) (a' := ?_) #[true, true, true, false, true, false, false, true, false, false, false, false, false, false, false, false, false, false] rfl rfl (by kernel_rfl) (fun _ _ _ h => h) (Or.inl ⟨by rfl, ?_⟩) ?_ ?_
  rotate_left
  · intro w'; go_simp; with_reducible rfl
  rotate_left
  · simp only [Act.put, List.setIfInBounds_toArray, List.set_cons_zero, List.set_cons_succ, i64_w, i32_w]; rfl
  refine pure_ (i := 8) (N := (some 15)) (v := ?_) (a' := ?_) #[true, true, true, false, true, false, false, true, true, false, false, false, false, false, false, false, false, false] rfl rfl (by kernel_rfl) (fun _ _ _ h => h) (Or.inl ⟨by rfl, ?_⟩) ?_ ?_
  rotate_left
  · intro w'; go_simp; with_reducible rfl
  rotate_left
  · simp only [Act.put, List.setIfInBounds_toArray, List.set_cons_zero, List.set_cons_succ, i64_w, i32_w]; rfl
  refine pure_ (i := 9) (N := (some 16)) (v := ?_) (a' := ?_) #[true, true, true, false, true, false, false, true, true, true, false, false, false, false, false, false, false, false] rfl rfl (by kernel_rfl) (fun _ _ _ h => h) (Or.inl ⟨by rfl, ?_⟩) ?_ ?_
  rotate_left
  · intro w'; go_simp; with_reducible rfl
  rotate_left
  · simp only [Act.put, List.setIfInBounds_toArray, List.set_cons_zero, List.set_cons_succ, i64_w, i32_w]; rfl
  refine pure_ (i := 11) (N := (some 18)) (v := ?_) (a' := ?_) #[true, true, true, false, true, false, false, true, true, true, false, true, false, false, false, false, false, false] rfl rfl (by kernel_rfl) (fun _ _ _ h => h) (Or.inl ⟨by rfl, ?_⟩) ?_ ?_
  rotate_left
  · intro w'; go_simp; with_reducible rfl
  rotate_left
  · simp only [Act.put, List.setIfInBounds_toArray, List.set_cons_zero, List.set_cons_succ, i64_w, i32_w]; rfl
  refine pure_ (i := 12) (N := (some 19)) (v := ?_) (a' := ?_) #[true, true, true, false, true, false, false, true, true, true, false, true, true, false, false, false, false, false] rfl rfl (by kernel_rfl) (fun _ _ _ h => h) (Or.inl ⟨by rfl, ?_⟩) ?_ ?_
  rotate_left
  · intro w'; go_simp; with_reducible rfl
  rotate_left
  · simp only [Act.put, List.setIfInBounds_toArray, List.set_cons_zero, List.set_cons_succ, i64_w, i32_w]; rfl
  refine pure_ (i := 13) (N := (some 20)) (v := ?_) (a' := ?_) #[true, true, true, false, true, false, false, true, true, true, false, true, true, true, false, false, false, false] rfl rfl (by kernel_rfl) (fun _ _ _ h => h) (Or.inl ⟨by rfl, ?_⟩) ?_ ?_
  rotate_left
  · intro w'; go_simp; with_reducible rfl
  rotate_left
  · simp only [Act.put, List.setIfInBounds_toArray, List.set_cons_zero, List.set_cons_succ, i64_w, i32_w]; rfl
  refine take_ (i := 3) (N := (some 10)) (v := ?_) (a' := ?_) #[true, true, true, true, true, false, false, true, true, true, false, true, true, true, false, false, false, false] rfl rfl (by kernel_rfl) (fun _ _ _ h => h) (Or.inl ⟨by rfl, ?_⟩) hHeld ?_ ?_
  rotate_left
  · rintro w' ⟨s0, s1⟩; go_simp; with_reducible rfl
  rotate_left
  · simp only [Act.put, List.setIfInBounds_toArray, List.set_cons_zero, List.set_cons_succ, i64_w, i32_w]; rfl
  refine take_ (i := 10) (N := (some 17)) (v := ?_) (a' := ?_) #[true, true, true, true, true, false, false, true, true, true, true, true, true, true, false, false, false, false] rfl rfl (by kernel_rfl) (fun _ _ _ h => h) (Or.inl ⟨by rfl, ?_⟩) hHeld ?_ ?_
  rotate_left
  · rintro w' ⟨s0, s1⟩; go_simp; with_reducible rfl
  rotate_left
  · simp only [Act.put, List.setIfInBounds_toArray, List.set_cons_zero, List.set_cons_succ, i64_w, i32_w]; rfl
  refine take_ (i := 14) (N := (some 21)) (v := ?_) (a' := ?_) #[true, true, true, true, true, false, false, true, true, true, true, true, true, true, true, false, false, false] rfl rfl (by kernel_rfl) (fun _ _ _ h => h) (Or.inl ⟨by rfl, ?_⟩) hHeld ?_ ?_
  rotate_left
  · rintro w' ⟨s0, s1⟩; go_simp; with_reducible rfl
  rotate_left
  · simp only [Act.put, List.setIfInBounds_toArray, List.set_cons_zero, List.set_cons_succ, i64_w, i32_w]; rfl
  refine one_ (i := 5) (N := (some 12)) #[true, true, true, true, true, true, false, true, true, true, true, true, true, true, true, false, false, false] rfl rfl (by kernel_rfl) (by decide) (fun K hK => ?_)
  refine goes_ Try.func36 (by kernel_rfl) rfl #[.pointer (some ⟨b, 0, none⟩)] (by rfl) rfl rfl (by (try simp only [List.map_toArray, List.map_cons, List.map_nil]); first | done | rfl | (simp only [List.length_drop, List.length_take]; rfl)) ?_
  refine (missing_c (RecvA.shut (x := renewF x) HS.out)).mono ?_
  rintro e w5 ⟨A5, c5, s5, rfl, hM, hs⟩
  refine ⟨_, rfl, ?_⟩
  have HM := Aside0.mk hM
  clear hM HS q0 q1 q2 q3 q4 q5 q6 z0 z1 z2 z3 z4 z5 z6
  have HC5 := Aside0.mk (SL.cap hs (.head _))
  have HR5 := Aside0.mk (SL.reads hs (.head _))
  obtain ⟨bm5, Ai5, ci5, Ag5, cg5, _, _, h5⟩ := RecvA.open_ (SL.swap hs)
  have HS := Aside0.mk h5
  clear hs h5
  obtain ⟨⟨q0, z0⟩, ⟨q1, z1⟩, ⟨q2, z2⟩, ⟨q3, z3⟩, ⟨q4, z4⟩, ⟨q5, z5⟩, ⟨q6, z6⟩⟩ := cellsAt HS.out
  refine hK.out _ _ ⟨q0, q2⟩ (fun hHeld => ?_)
  clear hK K
  refine norm_ (a' := ?_) ?_ ?_
  rotate_left
  · show Act.put _ (some 12) _ = _; simp only [Act.put, List.setIfInBounds_toArray, List.set_cons_zero, List.set_cons_succ, i64_w, i32_w]; rfl
  refine one_ (i := 6) (N := (some 13)) #[true, true, true, true, true, true, true, true, true, true, true, true, true, true, true, false, false, false] rfl rfl (by kernel_rfl) (by decide) (fun K hK => ?_)
  refine goes_ Try.func34 (by kernel_rfl) rfl #[.int .u32 x.r, .slice A5 s5.length c5] (by rfl) rfl rfl (by (try simp only [List.map_toArray, List.map_cons, List.map_nil]); first | done | rfl | (simp only [List.length_drop, List.length_take]; rfl)) ?_
  refine (list_c HS.out x.r A5 s5.length c5 s5 rfl (SL.reads HS.out (.tail _ (.tail _ (.tail _ (.tail _ (.head _)))))) HC5.out (by have h1 := HM.out.len2; have h2 := HH.out; have h3 : toN (renewF x).r (renewF x).h = toN x.r x.h := rfl; omega)).mono ?_
  rintro e w6 ⟨v6, rfl, hs⟩
  refine ⟨_, rfl, ?_⟩
  clear HS q0 q1 q2 q3 q4 q5 q6 z0 z1 z2 z3 z4 z5 z6
  have HS := Aside0.mk hs
  clear hs
  obtain ⟨⟨q0, z0⟩, ⟨q1, z1⟩, ⟨q2, z2⟩, ⟨q3, z3⟩, ⟨q4, z4⟩, ⟨q5, z5⟩, ⟨q6, z6⟩⟩ := cellsAt (SL.tail HS.out)
  refine hK.out _ _ ⟨q0, q2⟩ (fun hHeld => ?_)
  clear hK K
  refine norm_ (a' := ?_) ?_ ?_
  rotate_left
  · show Act.put _ (some 13) _ = _; simp only [Act.put, List.setIfInBounds_toArray, List.set_cons_zero, List.set_cons_succ, i64_w, i32_w]; rfl
  refine pure_ (i := 15) (N := (some 2)) (v := ?_) (a' := ?_) #[true, true, true, true, true, true, true, true, true, true, true, true, true, true, true, true, false, false] rfl rfl (by kernel_rfl) (fun _ _ _ h => h) (Or.inl ⟨by rfl, ?_⟩) ?_ ?_
  rotate_left
  · intro w'; go_simp; with_reducible rfl
  rotate_left
  · simp only [Act.put, List.setIfInBounds_toArray, List.set_cons_zero, List.set_cons_succ, i64_w, i32_w]; rfl
  refine pure_ (i := 16) (N := (some 3)) (v := ?_) (a' := ?_) #[true, true, true, true, true, true, true, true, true, true, true, true, true, true, true, true, true, false] rfl rfl (by kernel_rfl) (fun _ _ _ h => h) (Or.inl ⟨by rfl, ?_⟩) ?_ ?_
  rotate_left
  · intro w'; go_simp; with_reducible rfl
  rotate_left
  · simp only [Act.put, List.setIfInBounds_toArray, List.set_cons_zero, List.set_cons_succ, i64_w, i32_w]; rfl
  refine pure_ (i := 17) (N := (some 4)) (v := ?_) (a' := ?_) #[true, true, true, true, true, true, true, true, true, true, true, true, true, true, true, true, true, true] rfl rfl (by kernel_rfl) (fun _ _ _ h => h) (Or.inl ⟨by rfl, ?_⟩) ?_ ?_
  rotate_left
  · intro w'; go_simp; with_reducible rfl
  rotate_left
  · simp only [Act.put, List.setIfInBounds_toArray, List.set_cons_zero, List.set_cons_succ, i64_w, i32_w]; rfl
  refine done_ (by kernel_rfl) ?_
  go_wp2
  ((try simp only [Exit.inBlock, Exit.then]); refine bodyPost_ret (results_t3 rfl _ _ _) rfl ?_)
  exact ⟨_, _, rfl, HM.out, SL.sub (show SL w0 w6 (Row (Kd.int .u32) 27 v6 (pairsOf x.r (cutH s5)) :: RecvA b (renewF x) :: Row k105 105 (.slice A5 s5.length c5) s5 :: l) from SL.swap (RecvA.shut (SL.pk [1, 1, 1, 1] HS.out))) (.cons_cons _ (.cons_cons _ (.cons _ (List.Sublist.refl _))))⟩
end Go.Proofs.Ytiiljdglbfgdbaa.Rcv
/-! The receiver's methods, tenth part: Gap. -/
namespace Go.Proofs.Ytiiljdglbfgdbaa.Rcv
open Go Go.RowKit Go.Proofs.YtiiljdglbfgdbaaW.PrintWords Go.Proofs.YtiiljdglbfgdbaaW.PrintLast Go.Proofs.YtiiljdglbfgdbaaW.PrintMore Go.Proofs.Ytiiljdglbfgdbaa Go.Proofs.Ytiiljdglbfgdbaa.Sl Go.Proofs.Ytiiljdglbfgdbaa.S Go.Proofs.Ytiiljdglbfgdbaa.SpanTh Go.Proofs.Ytiiljdglbfgdbaa.SpanEv
theorem at_G {w : World} {A : Option Addr} {n : Nat} {g : Gp} {gs : List Gp} (h : kG.C w A n (g :: gs)) (h1 : (0 : Int) < n) : ∃ ad, A = some ad ∧ w.cell? ad = some (.int .u32 g.f0) ∧ w.cell? ⟨ad.block, ad.off + 1, none⟩ = some (.int .u32 g.f1) := by
  obtain ⟨ad, c, e, _, hK, hc0⟩ := Kd.C_get h g 0 (Int.le_refl _) h1
  have hc : ∀ j u, c[j]? = some u → w.cell? (ad.add (0 * 2 + j)) = some u := hc0
  obtain rfl := kG_open hK
  have e1 := hc 0 _ rfl
  have e2 := hc 1 _ rfl
  rw [add_field _ _ 1 (by omega)] at e2
  simp only [Nat.zero_mul, Nat.add_zero, Int.toNat_zero, List.getD_cons_zero] at e1 e2
  have ea : ad.add 0 = ad := by cases ad; rfl
  rw [ea] at e1 e2
  exact ⟨ad, e, e1, e2⟩
theorem infoP : (Try.prog.info? 105).map (fun i => (i.zero, i.size, i.bytes)) = some (some (.agg #[.int .i64 0, .int .i64 0]), 2, 16) := by kernel_rfl
theorem row_tail {α : Type} {d : Kd α} {e n c : Nat} {w0 W : World} {l : List As} {A A2 : Option Addr} {y : α} {ys : List α} (h : SL w0 W (Row d e (.slice A n c) (y :: ys) :: l)) (hA : A2 = if c = 1 then A else A.map (·.add (1 * d.sz))) (hn : n = ys.length + 1) : SL w0 W (Row d e (.slice A2 ys.length (c - 1)) ys :: l) := by
  subst hA
  subst hn
  exact SL.row_drop (m := 1) h (by simp)
set_option maxHeartbeats 2000000 in
set_option maxRecDepth 100000 in
theorem gap_c {w0 W : World} {l : List As} {b : Nat} {x : RS} (hx : x.Ok) (hh : toN x.r x.h ≤ 64) (HS : SL w0 W (RecvA b x :: l)) :
    Calls Try.prog 15 #[.pointer (some ⟨b, 0, none⟩)] W fun e w' =>
      (e = .returned (.tuple #[.slice none 0 0, .int .u32 0, .int .u32 0, .bool false]) ∧ (∀ g ∈ x.gaps, StillR x g []) ∧ SL w0 w' (RecvA b { x with gaps := [] } :: l)) ∨
      (∃ pre g post v s0 t, x.gaps = pre ++ g :: post ∧ (∀ g ∈ pre, StillR x g []) ∧ StillR x g (s0 :: t) ∧ e = .returned (.tuple #[v, .int .u32 x.r, .int .u32 (renewF x).mr, .bool true]) ∧ SL w0 w' (Row (Kd.int .u32) 27 v (pairsOf x.r (cutH [s0])) :: RecvA b (renewF { x with gaps := post }) :: l)) := by
  obtain ⟨i0, hi, hzz⟩ := Option.map_eq_some_iff.1 infoG
  simp only [Prod.mk.injEq] at hzz
  obtain ⟨i1, hi1, hz1⟩ := Option.map_eq_some_iff.1 infoP
  have hsl : ∀ (A : Option Addr) (n c : Nat), 0 < n → ∃ A2, ∀ W, (Instr.slice 71 (.slice A n c) (some (.int .i64 1)) none none).run Try.prog W = .ok (.slice A2 (n - 1) (c - 1)) W ∧ A2 = (if c = 1 then A else A.map (·.add (1 * 2))) := fun A n c hn => ⟨_, fun W => ⟨cut_from 71 76 .i64 Try.underlying71 hi 2 hzz.2.1 A n c 1 (by omega) (by omega) W, rfl⟩⟩
  have hsp : ∀ (A : Option Addr) (n c : Nat), 0 < n → n ≤ c → ∀ W, (Instr.slice 79 (.slice A n c) none (some (.int .i64 1)) none).run Try.prog W = .ok (.slice A 1 c) W := fun A n c hn hc W => cut_to 79 105 .i64 Try.underlying79 hi1 A n c 1 (by omega) (by omega) hc W
  have HL := Aside0.mk hsl
  have HP := Aside0.mk hsp
  have HX := Aside0.mk hx
  have HH := Aside0.mk hh
  have HS := Aside0.mk HS
  have hu := Try.underlying73
  have hu2 := Try.underlying76
  clear hx hh hi hzz i0 hi1 hz1 i1 hsl hsp
  go_enter Try.func15, Try.ntmps15
  go_wp2
  go_loopg [] x.gaps.length (fun kq wr => ∃ (pre post : List Gp), Aside0 (post.length = kq) ∧ Aside0 (x.gaps = pre ++ post) ∧ Aside0 (∀ g ∈ pre, StillR x g []) ∧ Aside0 (SL w0 wr (RecvA b { x with gaps := post } :: l)))
  case atStart => exact ⟨[], x.gaps, ⟨rfl⟩, ⟨rfl⟩, ⟨fun _ h => by cases h⟩, HS⟩
  case round =>
    clear HS
    obtain ⟨pre, post, HK, HE, HN, HS⟩ := hrel
    cases post with
    | nil =>
      have HE2 := HE.out
      rw [List.append_nil] at HE2
      have HN2 := Aside0.mk (HE2 ▸ HN.out)
      clear HE2 HE HN
      obtain ⟨bm, Ai, ci, Ag, cg, hci, hcg, h⟩ := RecvA.open_ HS.out
      have HS := Aside0.mk h
      clear h hci hcg
      obtain ⟨⟨q0, z0⟩, ⟨q1, z1⟩, ⟨q2, z2⟩, ⟨q3, z3⟩, ⟨q4, z4⟩, ⟨q5, z5⟩, ⟨q6, z6⟩⟩ := cellsAt HS.out
      go_wp2
      ((try simp only [Exit.inBlock, Exit.then]); refine bodyPost_ret (results_t4 rfl _ _ _) rfl ?_)
      exact Or.inl ⟨rfl, HN2.out, RecvA.shut (by (with_reducible repeat (first | apply SL.alloc | apply SL.drewN | apply SL.drew)); exact HS.out)⟩
    | cons g post =>
      obtain ⟨bm, Ai, ci, Ag, cg, hci, hcg, h⟩ := RecvA.open_ HS.out
      have HS2 := Aside0.mk h
      have HS1 := HS
      clear HS h hci hcg
      have HS := HS2
      clear HS2
      obtain ⟨⟨q0, z0⟩, ⟨q1, z1⟩, ⟨q2, z2⟩, ⟨q3, z3⟩, ⟨q4, z4⟩, ⟨q5, z5⟩, ⟨q6, z6⟩⟩ := cellsAt HS.out
      have p1 : (0 : Int) < ((g :: post).length : Int) := by simp only [List.length_cons]; omega
      have p2 : decide ((0 : Int) < ((g :: post).length : Int)) = true := decide_eq_true p1
      have p3 : (0 : Nat) < (g :: post).length := by simp only [List.length_cons]; omega
      obtain ⟨ad, rfl, hg0, hg1⟩ := at_G (SL.reads HS.out (.tail _ (.tail _ (.tail _ (.head _))))) p1
      go_wp2_with fail
      refine (still_c (x := { x with gaps := g :: post }) (RecvA.shut HS.out) g HH.out).mono ?_
      rintro e w1 ⟨A6, c6, t, rfl, hT, hs⟩
      have HT := Aside0.mk (show StillR x g t from hT)
      have HC6 := Aside0.mk (SL.cap hs (.head _))
      clear HS hT hg0 hg1 q0 q1 q2 q3 q4 q5 q6 z0 z1 z2 z3 z4 z5 z6
      obtain ⟨bm1, Ai1, ci1, Ag1, cg1, hci, hcg, h⟩ := RecvA.open_ (SL.swap hs)
      have HS := Aside0.mk h
      clear hs h hci hcg
      obtain ⟨A2, hA2⟩ := HL.out Ag1 (g :: post).length cg1 p3
      have hs2 : ∀ W, (Instr.slice 71 (.slice Ag1 (post.length + 1) cg1) (some (.int .i64 1)) none none).run Try.prog W = .ok (.slice A2 post.length (cg1 - 1)) W := fun W => (hA2 W).1
      have HA2 := Aside0.mk (hA2 w1).2
      clear hA2
      have h2 := SL.set (cs' := cellsR { x with gaps := post } bm1 (.slice Ai1 x.inb.length ci1) (.slice A2 post.length (cg1 - 1))) HS.out 6 (.slice A2 post.length (cg1 - 1)) rfl
      have h3 := row_tail (SL.pk [3] h2) HA2.out rfl
      have HB := Aside0.mk (show SL w0 _ (RecvA b { x with gaps := post } :: Row k105 105 (.slice A6 t.length c6) t :: l) from RecvA.shut (SL.pk [1, 1, 1, 0] h3))
      clear h2 h3
      obtain ⟨⟨q0, z0⟩, ⟨q1, z1⟩, ⟨q2, z2⟩, ⟨q3, z3⟩, ⟨q4, z4⟩, ⟨q5, z5⟩, ⟨q6, z6⟩⟩ := cellsAt HS.out
      cases t with
      | nil =>
        go_wp2
        have HS2 := HB
        clear HS HB
        go_roundg post.length
        case measure => have := HK.out; simp only [List.length_cons] at this; omega
        case rel => exact ⟨pre ++ [g], post, ⟨rfl⟩, ⟨by rw [HE.out, List.append_assoc]; rfl⟩, ⟨fun y hy => (List.mem_append.1 hy).elim (HN.out y) (fun h => by rw [List.mem_singleton] at h; subst h; exact HT.out)⟩, ⟨SL.sub HS2.out (.cons_cons _ (.cons _ (List.Sublist.refl _)))⟩⟩
      | cons s0 t =>
        have hs3 : ∀ W, (Instr.slice 79 (.slice A6 (t.length + 1) c6) none (some (.int .i64 1)) none).run Try.prog W = .ok (.slice A6 1 c6) W := HP.out A6 (t.length + 1) c6 (Nat.succ_pos _) HC6.out
        have p4 : decide (0 < t.length + 1) = true := decide_eq_true (Nat.succ_pos _)
        have p5 : decide ((0 : Int) < ((t.length : Int) + 1)) = true := decide_eq_true (by omega)
        go_wp2_with fail
        clear HS q0 q1 q2 q3 q4 q5 q6 z0 z1 z2 z3 z4 z5 z6
        have hok : RS.Ok { x with gaps := post } := ⟨HX.out.r, HX.out.h, HX.out.mr, HX.out.win, HX.out.buf, HX.out.inb, by have h7 := HX.out.gaps; have h8 := HE.out; rw [h8, List.length_append, List.length_cons] at h7; show post.length ≤ 8; omega⟩
        refine (renew_c hok HB.out).mono ?_
        rintro e w2 ⟨rfl, hs⟩
        obtain ⟨bm2, Ai2, ci2, Ag2, cg2, hci, hcg, h⟩ := RecvA.open_ hs
        have HS := Aside0.mk h
        clear hs h hci hcg HB hok
        obtain ⟨⟨q0, z0⟩, ⟨q1, z1⟩, ⟨q2, z2⟩, ⟨q3, z3⟩, ⟨q4, z4⟩, ⟨q5, z5⟩, ⟨q6, z6⟩⟩ := cellsAt HS.out
        go_wp2_with fail
        refine start_ (n := 19) (S := fun w' => w'.cell? ⟨b, 0, none⟩ = some (.int .u32 x.r) ∧ w'.cell? ⟨b, 2, none⟩ = some (.int .u32 (renewF x).mr)) (ds := []) #[false, false, false, false, false, false, false, false, false, false, false, false, false, false, false, false, false, false, false] (by kernel_rfl) rfl rfl ⟨q0, q2⟩ (fun hHeld => ?_)
        have hs_ := Aside0.mk (SL.drew (W := w2) (by repeat (first | (with_reducible exact HS.out) | (with_reducible apply SL.alloc) | (with_reducible apply SL.drewN) | (with_reducible apply SL.drew))))
        clear HS
        have HS := hs_
        clear hs_
        generalize (w2 : World).drew = W4 at HS hHeld q0 q1 q2 q3 q4 q5 q6 z0 z1 z2 z3 z4 z5 z6 ⊢
        refine pure_ (i := 0) (N := (some 34)) (v := ?_) (a' := ?_) #[true, false, false, false, false, false, false, false, false, false, false, false, false, false, false, false, false, false, false] rfl rfl (by kernel_rfl) (fun _ _ _ h => h) (Or.inl ⟨by rfl, ?_⟩) ?_ ?_
        rotate_left
        · intro w'; go_simp; with_reducible rfl
        rotate_left
        · simp only [Act.put, List.setIfInBounds_toArray, List.set_cons_zero, List.set_cons_succ, i64_w, i32_w]; rfl
        refine pure_ (i := 1) (N := (some 35)) (v := ?_) (a' := ?_) #[true, true, false, false, false, false, false, false, false, false, false, false, false, false, false, false, false, false, false] rfl rfl (by kernel_rfl) (fun _ _ _ h => h) (Or.inl ⟨by rfl, ?_⟩) ?_ ?_
        rotate_left
        · intro w'; go_simp; with_reducible rfl
        rotate_left
        · simp only [Act.put, List.setIfInBounds_toArray, List.set_cons_zero, List.set_cons_succ, i64_w, i32_w]; rfl
        refine pure_ (i := 2) (N := (some 36)) (v := ?_) (a' := ?_) #[true, true, true, false, false, false, false, false, false, false, false, false, false, false, false, false, false, false, false] rfl rfl (by kernel_rfl) (fun _ _ _ h => h) (Or.inl ⟨by rfl, ?_⟩) ?_ ?_
        rotate_left
        · intro w'; go_simp; with_reducible rfl
        rotate_left
        · simp only [Act.put, List.setIfInBounds_toArray, List.set_cons_zero, List.set_cons_succ, i64_w, i32_w]; rfl
        refine pure_ (i := 4) (N := (some 38)) (v := ?_) (a' := ?_) #[true, true, true, false, true, false, false, false, false, false, false, false, false, false, false, false, false, false, false] rfl rfl (by kernel_rfl) (fun _ _ _ h => h) (Or.inl ⟨by rfl, ?_⟩) ?_ ?_
        rotate_left
        · intro w'; go_simp; with_reducible rfl
        rotate_left
        · simp only [Act.put, List.setIfInBounds_toArray, List.set_cons_zero, List.set_cons_succ, i64_w, i32_w]; rfl
        refine pure_ (i := 7) (N := (some 41)) (v := ?_) (a' := ?_) #[true, true, true, false, true, false, false, true, false, false, false, false, false, false, false, false, false, false, false] rfl rfl (by kernel_rfl) (fun _ _ _ h => h) (Or.inl ⟨by rfl, ?_⟩) ?_ ?_
        rotate_left
        · intro w'; go_simp; with_reducible rfl
        rotate_left
        · simp only [Act.put, List.setIfInBounds_toArray, List.set_cons_zero, List.set_cons_succ, i64_w, i32_w]; rfl
        refine pure_ (i := 8) (N := (some 42)) (v := ?_) (a' := ?_) #[true, true, true, false, true, false, false, true, true, false, false, false, false, false, false, false, false, false, false] rfl rfl (by kernel_rfl) (fun _ _ _ h => h) (Or.inl ⟨by rfl, ?_⟩) ?_ ?_
        rotate_left
        · intro w'; go_simp; with_reducible rfl
        rotate_left
        · simp only [Act.put, List.setIfInBounds_toArray, List.set_cons_zero, List.set_cons_succ, i64_w, i32_w]; rfl
        refine pure_ (i := 9) (N := (some 43)) (v := ?_) (a' := ?_) #[true, true, true, false, true, false, false, true, true, true, false, false, false, false, false, false, false, false, false] rfl rfl (by kernel_rfl) (fun _ _ _ h => h) (Or.inl ⟨by rfl, ?_⟩) ?_ ?_
        rotate_left
        · intro w'; go_simp; with_reducible rfl
        rotate_left
        · simp only [Act.put, List.setIfInBounds_toArray, List.set_cons_zero, List.set_cons_succ, i64_w, i32_w]; rfl
        refine pure_ (i := 11) (N := (some 45)) (v := ?_) (a' := ?_) #[true, true, true, false, true, false, false, true, true, true, false, true, false, false, false, false, false, false, false] rfl rfl (by kernel_rfl) (fun _ _ _ h => h) (Or.inl ⟨by rfl, ?_⟩) ?_ ?_
        rotate_left
        · intro w'; go_simp; with_reducible rfl
        rotate_left
        · simp only [Act.put, List.setIfInBounds_toArray, List.set_cons_zero, List.set_cons_succ, i64_w, i32_w]; rfl
        refine pure_ (i := 12) (N := (some 46)) (v := ?_) (a' := ?_) #[true, true, true, false, true, false, false, true, true, true, false, true, true, false, false, false, false, false, false] rfl rfl (by kernel_rfl) (fun _ _ _ h => h) (Or.inl ⟨by rfl, ?_⟩) ?_ ?_
        rotate_left
        · intro w'; go_simp; with_reducible rfl
        rotate_left
        · simp only [Act.put, List.setIfInBounds_toArray, List.set_cons_zero, List.set_cons_succ, i64_w, i32_w]; rfl
        refine pure_ (i := 13) (N := (some 47)) (v := ?_) (a' := ?_) #[true, true, true, false, true, false, false, true, true, true, false, true, true, true, false, false, false, false, false] rfl rfl (by kernel_rfl) (fun _ _ _ h => h) (Or.inl ⟨by rfl, ?_⟩) ?_ ?_
        rotate_left
        · intro w'; go_simp; with_reducible rfl
        rotate_left
        · simp only [Act.put, List.setIfInBounds_toArray, List.set_cons_zero, List.set_cons_succ, i64_w, i32_w]; rfl
        refine take_ (i := 3) (N := (some 37)) (v := ?_) (a' := ?_) #[true, true, true, true, true, false, false, true, true, true, false, true, true, true, false, false, false, false, false] rfl rfl (by kernel_rfl) (fun _ _ _ h => h) (Or.inl ⟨by rfl, ?_⟩) hHeld ?_ ?_
        rotate_left
        · rintro w' ⟨s0, s1⟩; go_simp; with_reducible rfl
        rotate_left
        · simp only [Act.put, List.setIfInBounds_toArray, List.set_cons_zero, List.set_cons_succ, i64_w, i32_w]; rfl
        refine take_ (i := 10) (N := (some 44)) (v := ?_) (a' := ?_) #[true, true, true, true, true, false, false, true, true, true, true, true, true, true, false, false, false, false, false] rfl rfl (by kernel_rfl) (fun _ _ _ h => h) (Or.inl ⟨by rfl, ?_⟩) hHeld ?_ ?_
        rotate_left
        · rintro w' ⟨s0, s1⟩; go_simp; with_reducible rfl
        rotate_left
        · simp only [Act.put, List.setIfInBounds_toArray, List.set_cons_zero, List.set_cons_succ, i64_w, i32_w]; rfl
        refine take_ (i := 14) (N := (some 48)) (v := ?_) (a' := ?_) #[true, true, true, true, true, false, false, true, true, true, true, true, true, true, true, false, false, false, false] rfl rfl (by kernel_rfl) (fun _ _ _ h => h) (Or.inl ⟨by rfl, ?_⟩) hHeld ?_ ?_
        rotate_left
        · rintro w' ⟨s0, s1⟩; go_simp; with_reducible rfl
        rotate_left
        · simp only [Act.put, List.setIfInBounds_toArray, List.set_cons_zero, List.set_cons_succ, i64_w, i32_w]; rfl
        refine one_ (i := 5) (N := (some 39)) #[true, true, true, true, true, true, false, true, true, true, true, true, true, true, true, false, false, false, false] rfl rfl (by kernel_rfl) (by decide) (fun K hK => ?_)
        refine val_ (v := .slice A6 1 c6) (w1 := W4) (by rfl) rfl (by go_simp) ?_
        refine hK.out _ _ hHeld (fun hHeld => ?_)
        clear hK K
        refine norm_ (a' := ?_) ?_ ?_
        rotate_left
        · show Act.put _ (some 39) _ = _; simp only [Act.put, List.setIfInBounds_toArray, List.set_cons_zero, List.set_cons_succ, i64_w, i32_w]; rfl
        refine one_ (i := 6) (N := (some 40)) #[true, true, true, true, true, true, true, true, true, true, true, true, true, true, true, false, false, false, false] rfl rfl (by kernel_rfl) (by decide) (fun K hK => ?_)
        refine goes_ Try.func34 (by kernel_rfl) rfl #[.int .u32 x.r, .slice A6 1 c6] (by rfl) rfl rfl (by (try simp only [List.map_toArray, List.map_cons, List.map_nil]); first | done | rfl | (simp only [List.length_drop, List.length_take]; rfl)) ?_
        refine (list_c HS.out x.r A6 1 c6 [s0] rfl (by have h9 := SL.reads_take (m := 1) HS.out (.tail _ (.tail _ (.tail _ (.tail _ (.head _))))) (by simp); exact h9) (by have := HC6.out; simp only [List.length_cons] at this; omega) (by decide)).mono ?_
        rintro e w9 ⟨v9, rfl, hs⟩
        refine ⟨_, rfl, ?_⟩
        clear HS q0 q1 q2 q3 q4 q5 q6 z0 z1 z2 z3 z4 z5 z6
        have HS := Aside0.mk hs
        clear hs
        obtain ⟨⟨q0, z0⟩, ⟨q1, z1⟩, ⟨q2, z2⟩, ⟨q3, z3⟩, ⟨q4, z4⟩, ⟨q5, z5⟩, ⟨q6, z6⟩⟩ := cellsAt (SL.tail HS.out)
        refine hK.out _ _ ⟨q0, q2⟩ (fun hHeld => ?_)
        clear hK K
        refine norm_ (a' := ?_) ?_ ?_
        rotate_left
        · show Act.put _ (some 40) _ = _; simp only [Act.put, List.setIfInBounds_toArray, List.set_cons_zero, List.set_cons_succ, i64_w, i32_w]; rfl
        refine pure_ (i := 15) (N := (some 2)) (v := ?_) (a' := ?_) #[true, true, true, true, true, true, true, true, true, true, true, true, true, true, true, true, false, false, false] rfl rfl (by kernel_rfl) (fun _ _ _ h => h) (Or.inl ⟨by rfl, ?_⟩) ?_ ?_
        rotate_left
        · intro w'; go_simp; with_reducible rfl
        rotate_left
        · simp only [Act.put, List.setIfInBounds_toArray, List.set_cons_zero, List.set_cons_succ, i64_w, i32_w]; rfl
        refine pure_ (i := 16) (N := (some 3)) (v := ?_) (a' := ?_) #[true, true, true, true, true, true, true, true, true, true, true, true, true, true, true, true, true, false, false] rfl rfl (by kernel_rfl) (fun _ _ _ h => h) (Or.inl ⟨by rfl, ?_⟩) ?_ ?_
        rotate_left
        · intro w'; go_simp; with_reducible rfl
        rotate_left
        · simp only [Act.put, List.setIfInBounds_toArray, List.set_cons_zero, List.set_cons_succ, i64_w, i32_w]; rfl
        refine pure_ (i := 17) (N := (some 4)) (v := ?_) (a' := ?_) #[true, true, true, true, true, true, true, true, true, true, true, true, true, true, true, true, true, true, false] rfl rfl (by kernel_rfl) (fun _ _ _ h => h) (Or.inl ⟨by rfl, ?_⟩) ?_ ?_
        rotate_left
        · intro w'; go_simp; with_reducible rfl
        rotate_left
        · simp only [Act.put, List.setIfInBounds_toArray, List.set_cons_zero, List.set_cons_succ, i64_w, i32_w]; rfl
        refine pure_ (i := 18) (N := (some 5)) (v := ?_) (a' := ?_) #[true, true, true, true, true, true, true, true, true, true, true, true, true, true, true, true, true, true, true] rfl rfl (by kernel_rfl) (fun _ _ _ h => h) (Or.inl ⟨by rfl, ?_⟩) ?_ ?_
        rotate_left
        · intro w'; go_simp; with_reducible rfl
        rotate_left
        · simp only [Act.put, List.setIfInBounds_toArray, List.set_cons_zero, List.set_cons_succ, i64_w, i32_w]; rfl
        refine done_ (by kernel_rfl) ?_
        go_wp2
        ((try simp only [Exit.inBlock, Exit.then]); refine bodyPost_ret (results_t4 rfl _ _ _) rfl ?_)
        exact Or.inr ⟨pre, g, post, _, s0, t, HE.out, HN.out, HT.out, rfl, SL.sub (show SL w0 w9 (Row (Kd.int .u32) 27 v9 (pairsOf x.r (cutH [s0])) :: RecvA b (renewF { x with gaps := post }) :: Row k105 105 (.slice A6 (s0 :: t).length c6) (s0 :: t) :: l) from SL.swap (RecvA.shut (SL.pk [1, 1, 1, 1] HS.out))) (.cons_cons _ (.cons_cons _ (.cons _ (List.Sublist.refl _))))⟩
end Go.Proofs.Ytiiljdglbfgdbaa.Rcv
/-! The law's awake. -/
namespace Go.Proofs.Ytiiljdglbfgdbaa.Rcv
open Go Go.RowKit Go.Proofs.YtiiljdglbfgdbaaW.PrintWords Go.Proofs.YtiiljdglbfgdbaaW.PrintLast Go.Proofs.YtiiljdglbfgdbaaW.PrintMore Go.Proofs.Ytiiljdglbfgdbaa Go.Proofs.Ytiiljdglbfgdbaa.Sl Go.Proofs.Ytiiljdglbfgdbaa.S Go.Proofs.Ytiiljdglbfgdbaa.SpanTh Go.Proofs.Ytiiljdglbfgdbaa.SpanEv
def y0 : RS := ⟨0, 0, 8, 8, [], [], []⟩
def y1 : RS := ⟨0, 2, 8, 8, [(1, ⟨#[98]⟩)], [], [⟨0, 1⟩]⟩
def y2 : RS := ⟨0, 2, 8, 8, [(1, ⟨#[98]⟩)], [], []⟩
def y3 : RS := ⟨2, 2, 8, 8, [], [⟨#[97]⟩, ⟨#[98]⟩], []⟩
theorem y0_eq : newF 0 8 = y0 := by kernel_rfl
theorem y1_eq : dataF y0 1 ⟨#[98]⟩ = (y1, []) := by kernel_rfl
theorem y2_eq : renewF { y1 with gaps := [] } = y2 := by kernel_rfl
theorem y3_eq : dataF y2 0 ⟨#[97]⟩ = (y3, [⟨#[97]⟩, ⟨#[98]⟩]) := by kernel_rfl
theorem ok1 : (dataG { y0 with buf := bput y0.buf (lowN 1) ⟨#[98]⟩ } (lowN 1)).Ok := by
  have e : dataG { y0 with buf := bput y0.buf (lowN 1) ⟨#[98]⟩ } (lowN 1) = y1 := by kernel_rfl
  rw [e]
  constructor <;> simp [y1]
theorem ok3 : (dataG { y2 with buf := bput y2.buf (lowN 0) ⟨#[97]⟩ } (lowN 0)).Ok := by
  have e : dataG { y2 with buf := bput y2.buf (lowN 0) ⟨#[97]⟩ } (lowN 0) = ⟨0, 2, 8, 8, [(1, ⟨#[98]⟩), (0, ⟨#[97]⟩)], [], []⟩ := by kernel_rfl
  rw [e]
  constructor <;> simp
theorem oky1 : y1.Ok := by constructor <;> simp [y1]
theorem one_norm : Norm [(⟨0, 1⟩ : S105)] ∧ Small [(⟨0, 1⟩ : S105)] := by
  refine ⟨⟨fun y hy => ?_, List.pairwise_singleton _ _⟩, fun y hy => ?_⟩
  · rw [List.mem_singleton] at hy; subst hy; decide
  · rw [List.mem_singleton] at hy; subst hy; simp [mostL]
theorem still1 (t : List S105) (h : StillR y1 ⟨0, 1⟩ t) : t = [⟨0, 1⟩] := by
  refine norm_ext h.1 one_norm.1 (fun n => ?_)
  rw [h.2.2, mem_one]
  show (1 : Int) ≤ 2 ∧ (0 ≤ n ∧ n < 2) ∧ (∀ p ∈ [((1 : Int), (⟨#[98]⟩ : ByteArray))], toN 0 p.1 ≠ n) ∧ (1 - 1 : Int) ≤ n ∧ n < 1 ↔ (0 : Int) ≤ n ∧ n < 1
  constructor
  · rintro ⟨_, _, _, a, b⟩
    exact ⟨a, b⟩
  · rintro ⟨a, b⟩
    refine ⟨by decide, ⟨a, by omega⟩, fun p hp e => ?_, a, b⟩
    rw [List.mem_singleton] at hp
    subst hp
    have : (1 : Int) = n := e
    omega
theorem cut1 : pairsOf 0 (cutH [(⟨0, 1⟩ : S105)]) = [0, 1] := by
  have h := cutH_spec one_norm.2
  have e : cutH [(⟨0, 1⟩ : S105)] = [⟨0, 1⟩] := by
    refine norm_ext h.1 one_norm.1 (fun n => ?_)
    rw [h.2.2.1, mem_one]
    show (0 ≤ n ∧ n < 1) ∧ 0 ≤ n ∧ n < 8388609 ↔ 0 ≤ n ∧ n < 1
    omega
  rw [e]
  rfl
theorem gap1 {w0 W : World} {l : List As} {b : Nat} (HS : SL w0 W (RecvA b y1 :: l)) :
    Calls Try.prog 15 #[.pointer (some ⟨b, 0, none⟩)] W fun e w' => ∃ v, e = .returned (.tuple #[v, .int .u32 0, .int .u32 8, .bool true]) ∧ SL w0 w' (Row (Kd.int .u32) 27 v [0, 1] :: RecvA b y2 :: l) := by
  refine (gap_c oky1 (by decide) HS).mono ?_
  rintro e w' (⟨_, h, _⟩ | ⟨pre, g, post, v, s0, t, h1, _, h2, h3, h4⟩)
  · exact absurd (still1 _ (h ⟨0, 1⟩ (.head _))) (by simp)
  · have : pre = [] ∧ g = ⟨0, 1⟩ ∧ post = [] := by
      cases pre with
      | nil => simpa [y1] using h1.symm
      | cons a p => simp [y1] at h1
    obtain ⟨rfl, rfl, rfl⟩ := this
    have h5 := still1 _ h2
    simp only [List.cons.injEq] at h5
    obtain ⟨rfl, rfl⟩ := h5
    refine ⟨v, h3, ?_⟩
    have h6 : SL w0 w' (Row (Kd.int .u32) 27 v (pairsOf 0 (cutH [(⟨0, 1⟩ : S105)])) :: RecvA b (renewF { y1 with gaps := [] }) :: l) := h4
    rw [cut1, y2_eq] at h6
    exact h6
end Go.Proofs.Ytiiljdglbfgdbaa.Rcv
/-! The law's awake: its walk. -/
namespace Go.Proofs.Ytiiljdglbfgdbaa.Rcv
open Go Go.RowKit Go.Proofs.YtiiljdglbfgdbaaW.PrintWords Go.Proofs.YtiiljdglbfgdbaaW.PrintLast Go.Proofs.YtiiljdglbfgdbaaW.PrintMore Go.Proofs.Ytiiljdglbfgdbaa Go.Proofs.Ytiiljdglbfgdbaa.Sl Go.Proofs.Ytiiljdglbfgdbaa.S Go.Proofs.Ytiiljdglbfgdbaa.SpanTh Go.Proofs.Ytiiljdglbfgdbaa.SpanEv
theorem newY {w0 W : World} {l : List As} (HS : SL w0 W l) : Calls Try.prog 11 #[.int .u32 0, .int .i64 8] W fun e w' => ∃ b, e = .returned (.pointer (some ⟨b, 0, none⟩)) ∧ SL w0 w' (RecvA b y0 :: l) := by
  have h := new_c HS 0 8
  rw [y0_eq] at h
  exact h
theorem dataY1 {w0 W : World} {l : List As} {b : Nat} (HS : SL w0 W (RecvA b y0 :: l)) : Calls Try.prog 13 #[.pointer (some ⟨b, 0, none⟩), .int .u32 1, .string ⟨#[98]⟩] W fun e w' => ∃ A c, e = .returned (.slice A 0 c) ∧ SL w0 w' (RecvA b y1 :: l) := by
  refine (data_c HS 1 ⟨#[98]⟩ ok1).mono ?_
  rintro e w' ⟨v, rfl, hs⟩
  rw [y1_eq] at hs
  obtain ⟨A, c, rfl, _⟩ := SL.form hs (.head _)
  exact ⟨A, c, rfl, SL.tail hs⟩
theorem dataY3 {w0 W : World} {l : List As} {b : Nat} (HS : SL w0 W (RecvA b y2 :: l)) : Calls Try.prog 13 #[.pointer (some ⟨b, 0, none⟩), .int .u32 0, .string ⟨#[97]⟩] W fun e w' => ∃ A c, e = .returned (.slice A 2 c) ∧ SL w0 w' (Row Kd.string 9 (.slice A 2 c) [⟨#[97]⟩, ⟨#[98]⟩] :: RecvA b y3 :: l) := by
  refine (data_c HS 0 ⟨#[97]⟩ ok3).mono ?_
  rintro e w' ⟨v, rfl, hs⟩
  rw [y3_eq] at hs
  obtain ⟨A, c, rfl, _⟩ := SL.form hs (.head _)
  exact ⟨A, c, rfl, hs⟩
theorem gapY {w0 W : World} {l : List As} {b : Nat} (HS : SL w0 W (RecvA b y1 :: l)) : Calls Try.prog 15 #[.pointer (some ⟨b, 0, none⟩)] W fun e w' => ∃ A c, e = .returned (.tuple #[.slice A 2 c, .int .u32 0, .int .u32 8, .bool true]) ∧ SL w0 w' (RecvA b y2 :: Row (Kd.int .u32) 27 (.slice A 2 c) [0, 1] :: l) := by
  refine (gap1 HS).mono ?_
  rintro e w' ⟨v, rfl, hs⟩
  obtain ⟨A, c, rfl, _⟩ := SL.form hs (.head _)
  exact ⟨A, c, rfl, SL.swap hs⟩
theorem varsY {w0 W : World} {l : List As} {b : Nat} (HS : SL w0 W (RecvA b y1 :: l)) : Calls Try.prog 16 #[.pointer (some ⟨b, 0, none⟩)] W fun e w' => e = .returned (.agg #[.int .u32 0, .int .u32 2, .int .u32 8, .int .i64 1, .int .i64 0, .int .i64 1]) ∧ SL w0 w' (RecvA b y1 :: l) := vars_c HS
theorem at2i {w : World} {A : Option Addr} {x y : Int} (h : (Kd.int .u32).C w A 2 [x, y]) : ∃ ad, A = some ad ∧ w.cell? ad = some (.int .u32 x) ∧ w.cell? ⟨ad.block, ad.off + 1, none⟩ = some (.int .u32 y) := by
  obtain ⟨ad, rfl, a0⟩ := Kd.at_int h 0 (by decide) (by decide)
  obtain ⟨ad2, e2, a1⟩ := Kd.at_int h 1 (by decide) (by decide)
  cases e2
  have ea : ad.add (Int.toNat 0) = ad := by cases ad; rfl
  rw [ea] at a0
  exact ⟨ad, rfl, a0, a1⟩
theorem at2s {w : World} {A : Option Addr} {x y : ByteArray} (h : Kd.string.C w A 2 [x, y]) : ∃ ad, A = some ad ∧ w.cell? ⟨ad.block, ad.off + 1, none⟩ = some (.string y) := by
  obtain ⟨ad, rfl, a0⟩ := Kd.at_string h 1 (by decide) (by decide)
  exact ⟨ad, rfl, a0⟩
set_option maxHeartbeats 2000000 in
set_option maxRecDepth 100000 in
theorem awake_c {w0 W : World} {l : List As} (HS : SL w0 W l) :
    Calls Try.prog 10 #[] W fun e w' => e = .returned (.bool true) ∧ SL w0 w' l := by
  have HS := Aside0.mk HS
  have hf1 : ∀ (a b c d e f : Value) (w : World), (Instr.field 36 (.agg #[a, b, c, d, e, f]) 1).run Try.prog w = .ok b w := fun _ _ _ _ _ _ _ => by kernel_rfl
  have hf5 : ∀ (a b c d e f : Value) (w : World), (Instr.field 36 (.agg #[a, b, c, d, e, f]) 5).run Try.prog w = .ok f w := fun _ _ _ _ _ _ _ => by kernel_rfl
  go_enter Try.func10, Try.ntmps10
  go_wp2_with (first
    | (go_at_call 11; (with_reducible refine (newY HS.out).mono ?_); rintro e w1 ⟨b, rfl, hs⟩; have hs2 := Aside0.mk hs; clear HS hs; have HS := hs2; clear hs2)
    | (go_at_call 13; (with_reducible refine (dataY1 HS.out).mono ?_); rintro e w2 ⟨A1, c1, rfl, hs⟩; have hs2 := Aside0.mk hs; clear HS hs; have HS := hs2; clear hs2)
    | (go_at_call 16; (with_reducible refine (varsY HS.out).mono ?_); rintro e w3 ⟨rfl, hs⟩; have hs2 := Aside0.mk hs; clear HS hs; have HS := hs2; clear hs2)
    | (go_at_call 15; (with_reducible refine (gapY HS.out).mono ?_); rintro e w4 ⟨A4, c4, rfl, hs⟩; have hs2 := Aside0.mk hs; clear HS hs; have HS := hs2; clear hs2)
    | (go_at_call 13; (with_reducible refine (dataY3 HS.out).mono ?_); rintro e w5 ⟨A5, c5, rfl, hs⟩; have hs2 := Aside0.mk hs; clear HS hs; have HS := hs2; clear hs2; obtain ⟨ad, rfl, a0, a1⟩ := at2i (SL.reads HS.out (.tail _ (.tail _ (.head _)))); obtain ⟨ad3, rfl, a3⟩ := at2s (SL.reads HS.out (.head _))))
  trace_state
  go_ret
  exact ⟨rfl, SL.tail (SL.tail (SL.tail HS.out))⟩
end Go.Proofs.Ytiiljdglbfgdbaa.Rcv
