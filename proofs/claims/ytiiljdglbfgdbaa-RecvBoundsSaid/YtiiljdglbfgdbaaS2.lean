-- Printed for this claim by wip/tools/pp.py (a session's program, over the kit's print with hand-made functions let in). Not trusted: Lean checks it.
import Derived.WalkSpells
import Derived.Test.YtiiljdglbfgdbaaLay
import Derived.Test.YtiiljdglbfgdbaaS0
namespace Go.Proofs.Ytiiljdglbfgdbaa.S
open Go.RowKit Go.Proofs.YtiiljdglbfgdbaaW.PrintWords Go.Proofs.YtiiljdglbfgdbaaW.PrintLast Go.Proofs.YtiiljdglbfgdbaaW.PrintMore
attribute [local go_sem] max2_int min2_int max_two min_two max_three min_three max_four min_four   -- for this text's walks alone
set_option linter.unusedVariables false
set_option linter.unusedSimpArgs false

-- FOREIGN Derived.WalkSpells,Derived.Test.YtiiljdglbfgdbaaLay
/-! ### span_Span: function 58 -/
/-- A span's two cells. -/
def span_Span.enc (x : Int × Int) : List Value := [.int .i64 x.1, .int .i64 x.2]
def span_Span.cf (x y : Int × Int) : Int := Lib.compareInt x.1 y.1
def span_Span.pr (x : S105) : Int × Int := (x.f0, x.f1)
def span_Span.un (x : Int × Int) : S105 := ⟨x.1, x.2⟩
def span_Span.f (l0 : List (S105)) : Option (List (S105)) :=
  if l0.length < 4611686018427387904 then some ((Go.Sort.pdq (ltOf span_Span.cf) (l0.map span_Span.pr).toArray 0 l0.length (Lib.bitLen l0.length) true true).toList.map span_Span.un) else none
theorem span_Span.lt (x y : Int × Int) : ltOf span_Span.cf x y = decide (x.1 < y.1) := by
  unfold ltOf span_Span.cf Lib.compareInt
  by_cases h1 : x.1 < y.1
  · simp [h1]
  · by_cases h2 : y.1 < x.1 <;> simp [h1, h2]
theorem span_Span.swo : Go.Sort.SWO (ltOf span_Span.cf) where
  irrefl x := by rw [span_Span.lt]; simp
  trans x y z h1 h2 := by rw [span_Span.lt] at *; simp at *; omega
  ntrans x y z h1 h2 := by rw [span_Span.lt] at *; simp at *; omega
set_option maxHeartbeats 1000000 in
theorem span_Span.closure (x y : Int × Int) (W : World) : Calls Try.prog 59 #[.agg #[.int .i64 x.1, .int .i64 x.2], .agg #[.int .i64 y.1, .int .i64 y.2]] W fun e w' => e = .returned (.int .i64 (span_Span.cf x y)) ∧ ∃ q os', w' = Go.Sort.grow (W.drewN q) os' := by
  have hcon := fun W' => AnyG.cmp_Compare_int Try.cmpInt x.1 y.1 W'
  change ∀ W', Calls Try.prog 60 _ _ _ at hcon
  have hu := Try.underlying105
  unfold span_Span.cf
  generalize Lib.compareInt x.1 y.1 = r at hcon ⊢
  go_enter Try.func59, Try.ntmps59
  go_wp2_with (go_at_call 60; refine (hcon _).mono ?_; rintro e w' ⟨rfl, rfl⟩)
  go_ret
  exact ⟨rfl, 0, _, by rw [Go.Sort.alloc_eq_grow, Go.Sort.alloc_eq_grow, Go.Sort.grow_grow]; rfl⟩
theorem span_Span.cmpLays (blk off size : Nat) (w : World) : CmpLays Try.prog 59 #[] span_Span.enc 2 span_Span.cf blk off size w :=
  fun _ _ _ _ x y => span_Span.closure x y _
theorem span_Span.reps_get {w : World} {base : Nat} {ok : Nat → Prop} {l0 : List (S105)} {inner : List Value} (hr : Reps (k105.M w base ok) 2 l0 inner) (t : Nat) (ht : t < l0.length * 2) :
    inner[t]? = (span_Span.enc (span_Span.pr (l0[t / 2]'(by omega))))[t % 2]? := by
  have h := hr.2 (t / 2) _ (List.getElem?_eq_getElem (by omega))
  have h2 := k105_openM h
  have e : inner[t]? = ((inner.drop (t / 2 * 2)).take 2)[t % 2]? := by
    rw [List.getElem?_take, if_pos (by omega), List.getElem?_drop, show t / 2 * 2 + t % 2 = t by omega]
  rw [e, h2]
  rfl
theorem span_Span.enc_len (x : Int × Int) : (span_Span.enc x).length = 2 := rfl
theorem span_Span.flat_get (d : Array (Int × Int)) (t : Nat) (ht : t < d.size * 2) : (Go.Sort.flatK span_Span.enc 2 d)[t]? = (span_Span.enc (d[t / 2]'(by omega)))[t % 2]? := by
  have h := Go.Sort.get_flatK span_Span.enc 2 d t ht
  have hs : t < (Go.Sort.flatK span_Span.enc 2 d).size := by simpa using ht
  rw [Array.getElem?_eq_getElem hs, List.getElem?_eq_getElem (by rw [span_Span.enc_len]; omega)]
  rw [getElem!_pos _ t hs, getElem!_pos d (t / 2) (by omega), getElem!_pos _ (t % 2) (by rw [span_Span.enc_len]; omega)] at h
  rw [h]
theorem span_Span.holds {w : World} {base e g : Nat} {cur : Array Value} {l0 : List (S105)} {inner : List Value} {ok : Nat → Prop} (hb : w.heap[g]? = some (.cells cur e (0, 0))) (hi : cur.toList.take (l0.length * 2) = inner)
    (hr : Reps (k105.M w base ok) 2 l0 inner) : Go.Sort.HoldsK span_Span.enc 2 w g 0 (l0.map span_Span.pr).toArray := by
  intro j hj
  have hj' : j < l0.length * 2 := by simpa using hj
  have h1 := span_Span.reps_get hr j hj'
  have h2 := span_Span.flat_get (l0.map span_Span.pr).toArray j (by simpa using hj')
  have h3 : cur[j]? = (Go.Sort.flatK span_Span.enc 2 (l0.map span_Span.pr).toArray)[j]? := by
    rw [h2, ← hi, List.getElem?_take, if_pos hj'] at *
    rw [← Array.getElem?_toList, h1]
    simp
  have h4 : (Go.Sort.flatK span_Span.enc 2 (l0.map span_Span.pr).toArray)[j]? = some (Go.Sort.flatK span_Span.enc 2 (l0.map span_Span.pr).toArray)[j]! := by
    rw [getElem!_pos _ j hj, Array.getElem?_eq_getElem hj]
  refine ⟨?_, ?_⟩
  · rw [Nat.zero_add, blk_cell hb j, h3, h4]; rfl
  · rw [Nat.zero_add]; exact blk_frozen hb j
/-- The row's block behind the sort. -/
theorem span_Span.block {w : World} {e g m : Nat} {cur : Array Value} {d' : Array (Int × Int)} {os : Array Obj} (hb : w.heap[g]? = some (.cells cur e (0, 0))) :
    (sortWorldK span_Span.enc 2 w g 0 m d' os).heap[g]? = some (.cells (Go.Sort.putCells id 0 (Go.Sort.flatK span_Span.enc 2 d') cur) e (0, 0)) := by
  have hlt := blk_lt hb
  show ((w.heap.modify g (Go.Sort.onCells (Go.Sort.putCells id 0 (Go.Sort.flatK span_Span.enc 2 d')))) ++ os)[g]? = _
  rw [Array.getElem?_append, if_pos (by simpa using hlt), Array.getElem?_modify, if_pos rfl, hb]
  rfl
theorem span_Span.others {w : World} {g m : Nat} {d' : Array (Int × Int)} {os : Array Obj} (k : Nat) (hk : k < w.heap.size) (hg : k ≠ g) :
    (sortWorldK span_Span.enc 2 w g 0 m d' os).heap[k]? = w.heap[k]? := by
  show ((w.heap.modify g (Go.Sort.onCells (Go.Sort.putCells id 0 (Go.Sort.flatK span_Span.enc 2 d')))) ++ os)[k]? = _
  rw [Array.getElem?_append, if_pos (by simpa using hk), Array.getElem?_modify, if_neg (fun e => hg e.symm)]
theorem span_Span.taken {d' : Array (Int × Int)} {cur : Array Value} {n : Nat} (h0 : n * 2 = n * 2) (hc : n * 2 ≤ cur.size) (hs : d'.size = n) :
    (Go.Sort.putCells id 0 (Go.Sort.flatK span_Span.enc 2 d') cur).toList.take (n * 2) = (Go.Sort.flatK span_Span.enc 2 d').toList := by
  have hF : (Go.Sort.flatK span_Span.enc 2 d').size = n * 2 := by rw [Go.Sort.size_flatK, hs]
  apply List.ext_getElem?
  intro t
  rw [List.getElem?_take]
  by_cases ht : t < n * 2
  · rw [if_pos ht, Array.getElem?_toList, Array.getElem?_toList]
    simp only [Go.Sort.putCells, Array.getElem?_mapIdx]
    rw [Array.getElem?_eq_getElem (by omega : t < cur.size), Option.map_some, if_pos ⟨by omega, by omega⟩, Array.getElem?_eq_getElem (by omega), Nat.sub_zero, getElem!_pos _ t (by omega)]
    rfl
  · rw [if_neg ht, Array.getElem?_toList, Array.getElem?_eq_none (by omega)]
theorem span_Span.elem {w : World} {base j : Nat} {ok : Nat → Prop} {d' : Array (Int × Int)} {q : Int × Int} (hq : d'.toList[j]? = some q) :
    k105.M w base ok (span_Span.un q) (((Go.Sort.flatK span_Span.enc 2 d').toList.drop (j * 2)).take 2) := by
  rw [Array.getElem?_toList] at hq
  obtain ⟨hj, hq⟩ := Array.getElem?_eq_some_iff.1 hq
  have e : ((Go.Sort.flatK span_Span.enc 2 d').toList.drop (j * 2)).take 2 = span_Span.enc q := by
    apply List.ext_getElem?
    intro t
    rw [List.getElem?_take]
    by_cases ht : t < 2
    · rw [if_pos ht, List.getElem?_drop, Array.getElem?_toList, span_Span.flat_get _ _ (by omega)]
      have e1 : (j * 2 + t) / 2 = j := by omega
      have e2 : (j * 2 + t) % 2 = t := by omega
      rw [e2]
      simp only [e1, hq]
    · rw [if_neg ht, List.getElem?_eq_none (by rw [span_Span.enc_len]; omega)]
  rw [e]
  exact k105_mkM _ _ _ (span_Span.un q)
set_option maxHeartbeats 1000000 in
theorem span_Span.calls (P0_ : Nat → Prop) (u9000_ : Value) (l0 : List (S105)) (r : List (S105)) (w0 w : World) (hB : Below w0.heap.size w0 w) (ho0 : Kd.R k105 105 w w0.heap.size P0_ u9000_ l0) (h : span_Span.f l0 = some r) :
    Calls Try.prog 58 #[u9000_, .func (.func 59) #[] #[]] w fun e w' => e = .returned (.tuple #[]) ∧ Kd.R k105 105 w' w0.heap.size (fun k_ => (P0_ k_ ∨ w.heap.size ≤ k_)) u9000_ r ∧ Below w0.heap.size w0 w' ∧ Kept w w' (fun k_ => P0_ k_) := by
  unfold span_Span.f at h
  by_cases hl : l0.length < 4611686018427387904
  · rw [if_pos hl] at h
    have hr := Option.some.inj h
    clear h
    have hps := Go.Sort.pdq_sorts (ltOf span_Span.cf) span_Span.swo (l0.map span_Span.pr).toArray 0 l0.length (Lib.bitLen l0.length) true true (Nat.zero_le _) (by simp) (Or.inl rfl)
    have hsz : (Go.Sort.pdq (ltOf span_Span.cf) (l0.map span_Span.pr).toArray 0 l0.length (Lib.bitLen l0.length) true true).size = l0.length := by rw [hps.1.1]; simp
    obtain ⟨hP, inner, ho, hreps⟩ := ho0
    rcases ho.2 with ⟨rfl, hn⟩ | ⟨g, cap, cur, rfl, hbase, hb, hnc, hcm, hcs, hin⟩
    · have hnil : l0 = [] := List.eq_nil_of_length_eq_zero hn
      have hrn : r = [] := by
        rw [← hr]
        have : (Go.Sort.pdq (ltOf span_Span.cf) (l0.map span_Span.pr).toArray 0 l0.length (Lib.bitLen l0.length) true true).toList.length = 0 := by rw [Array.length_toList, hsz, hn]
        rw [List.eq_nil_of_length_eq_zero this]; rfl
      rw [hrn]
      have hc := AnyF.slices_SortFunc_none Try.sortSpan none 0 (.func (.func 59) #[] #[]) w
      change Calls Try.prog 58 _ _ _ at hc
      refine hc.mono fun e w' ⟨he, hw⟩ => ?_
      subst hw
      exact ⟨he, Kd.R_nil _ _ _ _ _, hB, Kept.refl _ _⟩
    · have h2 : k105.sz = 2 := rfl
      rw [h2] at hcs hin
      have eg : ∀ args w, (callFunc 59 args).run Try.prog w = .ok (.enter 59 args) w := Go.Proofs.enters_of Try.func59 (by kernel_rfl) rfl
      have hg := blk_lt hb
      have hc := AnyQ.slices_SortFunc_eq Try.sortSpan 2 Try.isAgg105 Try.sizeOf105 span_Span.enc (fun _ => rfl) (fun x v hv => by simp [span_Span.enc] at hv; rcases hv with rfl | rfl <;> rfl) span_Span.cf span_Span.swo 59 #[] g 0 cap (l0.map span_Span.pr).toArray w eg (span_Span.cmpLays g 0 _ w) (span_Span.holds hb hin hreps) hg (by simpa using hl)
      change Calls Try.prog 58 _ _ _ at hc
      simp only [List.size_toArray, List.length_map] at hc
      refine hc.mono fun e w' ⟨he, m, os, hw⟩ => ?_
      generalize Go.Sort.pdq (ltOf span_Span.cf) (l0.map span_Span.pr).toArray 0 l0.length (Lib.bitLen l0.length) true true = d' at *
      have hb' := span_Span.block (m := m) (d' := d') (os := os) hb
      have hoth := fun k hk hne => span_Span.others (w := w) (g := g) (m := m) (d' := d') (os := os) k hk hne
      rw [← hw] at hb' hoth
      have hst : w'.os = w.os ∧ w'.tape = w.tape ∧ w'.output = w.output ∧ w.heap.size ≤ w'.heap.size := by
        rw [hw]
        refine ⟨rfl, rfl, rfl, ?_⟩
        show w.heap.size ≤ ((w.heap.modify g (Go.Sort.onCells (Go.Sort.putCells id 0 (Go.Sort.flatK span_Span.enc 2 d')))) ++ os).size
        simp
      have hPg : P0_ g := hP g rfl
      have hrl : r.length = l0.length := by rw [← hr, List.length_map, Array.length_toList, hsz]
      refine ⟨he, ⟨fun k hk => .inl (hP k hk), (Go.Sort.flatK span_Span.enc 2 d').toList, ?_, ?_⟩, ?_, ?_⟩
      · refine ⟨by rw [Array.length_toList, Go.Sort.size_flatK, hsz, hrl, h2], .inr ⟨g, cap, _, by rw [hrl], hbase, hb', by omega, hcm, by rw [h2]; simpa [Go.Sort.putCells] using hcs, ?_⟩⟩
        rw [hrl, h2]
        exact span_Span.taken (by omega) (by have := Nat.mul_le_mul_right 2 hnc; omega) hsz
      · refine ⟨by rw [Array.length_toList, Go.Sort.size_flatK, hsz, hrl]; rfl, fun j p hp => ?_⟩
        rw [← hr, List.getElem?_map, Option.map_eq_some_iff] at hp
        obtain ⟨q, hq, rfl⟩ := hp
        exact span_Span.elem hq
      · exact ⟨hst.1.trans hB.os, hst.2.1.trans hB.tape, hst.2.2.1.trans hB.output, Nat.le_trans hB.size hst.2.2.2, fun k hk => (hoth k (Nat.lt_of_lt_of_le hk hB.size) (by omega)).trans (hB.block k hk)⟩
      · exact ⟨hst.2.2.2, fun k hk hn => hoth k hk (fun e => hn (e ▸ hPg))⟩
  · rw [if_neg hl] at h
    cases h

end Go.Proofs.Ytiiljdglbfgdbaa.S
