/- Plain laws that the walks use: masks as remainders; a map keyed by whole numbers; an append whose source is still read. -/
import Derived.Laws.BitsLemmas
import Derived.Maps.Keyed
import Derived.Maps.Own
import Derived.Below
import Derived.Maps.OwnOps
import Derived.Maps.OwnSet
import Derived.Test.YtiiljdglbfgdbaaWWords
import Derived.Maps.AppendAt
import Derived.Deep.DeepAppendRoom
/- Masks of 24 bits (and of fewer), as remainders: plain arithmetic, no program in sight. -/
namespace Go.Proofs.Ytiiljdglbfgdbaa.Bits
open Go
theorem and_u32_mask (x : Int) : Go.bits .and .u32 x 16777215 = x % 16777216 := by
  have hm : (BitVec.ofInt 32 16777215).toNat = 2 ^ 24 - 1 := by decide
  have key : (BitVec.ofInt 32 x &&& BitVec.ofInt 32 16777215).toNat = (x % ((2 ^ 32 : Nat) : Int)).toNat % 2 ^ 24 := by
    rw [BitVec.toNat_and, BitVec.toNat_ofInt, hm, Nat.and_two_pow_sub_one_eq_mod]
  show IntKind.u32.wrap ((BitVec.ofInt 32 x &&& BitVec.ofInt 32 16777215).toNat : Nat) = x % 16777216
  rw [key]
  simp only [IntKind.wrap, IntKind.bits, IntKind.signed]
  simp
  omega
theorem and_i64_mask (x : Int) : Go.bits .and .i64 x 16777215 = x % 16777216 := by
  have hm : (BitVec.ofInt 64 16777215).toNat = 2 ^ 24 - 1 := by decide
  have key : (BitVec.ofInt 64 x &&& BitVec.ofInt 64 16777215).toNat = (x % ((2 ^ 64 : Nat) : Int)).toNat % 2 ^ 24 := by
    rw [BitVec.toNat_and, BitVec.toNat_ofInt, hm, Nat.and_two_pow_sub_one_eq_mod]
  show IntKind.i64.wrap ((BitVec.ofInt 64 x &&& BitVec.ofInt 64 16777215).toNat : Nat) = x % 16777216
  rw [key, IntKind.wrap_i64]
  omega
theorem and_i64_63 (x : Int) : Go.bits .and .i64 x 63 = x % 64 := by
  have hm : (BitVec.ofInt 64 63).toNat = 2 ^ 6 - 1 := by decide
  have key : (BitVec.ofInt 64 x &&& BitVec.ofInt 64 63).toNat = (x % ((2 ^ 64 : Nat) : Int)).toNat % 2 ^ 6 := by
    rw [BitVec.toNat_and, BitVec.toNat_ofInt, hm, Nat.and_two_pow_sub_one_eq_mod]
  show IntKind.i64.wrap ((BitVec.ofInt 64 x &&& BitVec.ofInt 64 63).toNat : Nat) = x % 64
  rw [key, IntKind.wrap_i64]
  omega
theorem and_i64_255 (x : Int) : Go.bits .and .i64 x 255 = x % 256 := by
  have hm : (BitVec.ofInt 64 255).toNat = 2 ^ 8 - 1 := by decide
  have key : (BitVec.ofInt 64 x &&& BitVec.ofInt 64 255).toNat = (x % ((2 ^ 64 : Nat) : Int)).toNat % 2 ^ 8 := by
    rw [BitVec.toNat_and, BitVec.toNat_ofInt, hm, Nat.and_two_pow_sub_one_eq_mod]
  show IntKind.i64.wrap ((BitVec.ofInt 64 x &&& BitVec.ofInt 64 255).toNat : Nat) = x % 256
  rw [key, IntKind.wrap_i64]
  omega
end Go.Proofs.Ytiiljdglbfgdbaa.Bits

/- A map keyed by whole numbers, as its block holds it: a list of pairs, no key twice. What a look-up, a store, a delete and len come to, over any program. -/
namespace Go.Proofs.Ytiiljdglbfgdbaa.Im
open Go Go.Maps Go.RowKit
open Go.ChangeMaps (setBlock map_eraseIdx)

def look (m : List (Int × Value)) (x : Int) : Option Value := (m.find? fun p => p.1 == x).map (·.2)
def put (m : List (Int × Value)) (x : Int) (v : Value) : List (Int × Value) := if m.any (fun p => p.1 == x) then m.map (fun p => if p.1 == x then (x, v) else p) else m ++ [(x, v)]
def del (m : List (Int × Value)) (x : Int) : List (Int × Value) := m.filter fun p => !(p.1 == x)

theorem nd_inj {m : List (Int × Value)} (h : (m.map (·.1)).Nodup) {i j : Nat} (hi : i < m.length) (hj : j < m.length) (e : m[i].1 = m[j].1) : i = j := by
  have hp := List.pairwise_iff_getElem.1 h
  rcases Nat.lt_trichotomy i j with hlt | heq | hgt
  · exact absurd (by rw [List.getElem_map, List.getElem_map]; exact e) (hp i j (by simpa using hi) (by simpa using hj) hlt)
  · exact heq
  · exact absurd (by rw [List.getElem_map, List.getElem_map]; exact e.symm) (hp j i (by simpa using hj) (by simpa using hi) hgt)
/-- Block b holds the map m, its keys of kind k. -/
def MapAt (k : IntKind) (w : World) (b : Nat) (m : List (Int × Value)) : Prop :=
  (m.map (·.1)).Nodup ∧ (∀ p ∈ m, (Lit.int k p.1).wf = true) ∧ ∃ es clock, w.heap[b]? = some (.map es clock) ∧ es.toList.map (fun e => (e.key, e.val)) = m.map (fun p => (Value.int k p.1, p.2)) ∧ (∀ e ∈ es.toList, e.born < clock) ∧ (es.toList.map (·.born)).Nodup

section
variable {P : Program} {k : IntKind} {kt e t : TypeId} {w w1 : World} {b : Nat} {m : List (Int × Value)} {x : Int} {v z : Value}

theorem MapAt.move (h : MapAt k w b m) (hb : w1.heap[b]? = w.heap[b]?) : MapAt k w1 b m := by
  obtain ⟨h1, h2, es, c, h3, h4, h5⟩ := h
  exact ⟨h1, h2, es, c, hb.trans h3, h4, h5⟩
theorem MapAt.lt (h : MapAt k w b m) : b < w.heap.size := by
  obtain ⟨_, _, es, c, h3, _⟩ := h
  exact (Array.getElem?_eq_some_iff.1 h3).1
theorem MapAt.new (k : IntKind) (w : World) : MapAt k (w.alloc (.map #[] 0)) w.heap.size [] :=
  ⟨List.nodup_nil, (fun _ h => by cases h), #[], 0, (MapKept.heap_alloc w _).1, rfl, (fun _ h => by cases h), List.nodup_nil⟩
theorem MapAt.below {B : Nat} (h : MapAt k w b m) (hb : Below B w w1) (hB : b < B) : MapAt k w1 b m := h.move (hb.block b hB)

theorem entry_of {es : Array MapEntry} (he : es.toList.map (fun e => (e.key, e.val)) = m.map fun p => (Value.int k p.1, p.2)) {j : Nat} {e0 : MapEntry} (hj : es.toList[j]? = some e0) :
    ∃ p, m[j]? = some p ∧ e0.key = .int k p.1 ∧ e0.val = p.2 := by
  have h := congrArg (fun l => l[j]?) he
  simp only [List.getElem?_map, hj, Option.map_some] at h
  obtain ⟨p, hp, hq⟩ := Option.map_eq_some_iff.1 h.symm
  simp only [Prod.mk.injEq] at hq
  exact ⟨p, hp, hq.1.symm, hq.2.symm⟩
theorem keys_of (hk : P.underlying kt = some (.int k)) {es : Array MapEntry} (hw : ∀ p ∈ m, (Lit.int k p.1).wf = true) (he : es.toList.map (fun e => (e.key, e.val)) = m.map fun p => (Value.int k p.1, p.2)) :
    ∀ e0 ∈ es.toList, ∃ l, keyOf P kt e0.key = some l := by
  intro e0 h0
  obtain ⟨j, hj⟩ := List.mem_iff_getElem?.1 h0
  obtain ⟨p, hp, h1, _⟩ := entry_of he hj
  exact ⟨_, by rw [h1]; exact keyOf_int_mk hk (hw p (List.mem_of_getElem? hp))⟩
theorem find_of (hk : P.underlying kt = some (.int k)) {es : Array MapEntry} (hn : (m.map (·.1)).Nodup) (hw : ∀ p ∈ m, (Lit.int k p.1).wf = true)
    (he : es.toList.map (fun e => (e.key, e.val)) = m.map fun p => (Value.int k p.1, p.2)) (hx : (Lit.int k x).wf = true) (w : World) :
    ((Instr.findKey kt (.int k x) es.toList).run P w = .ok none w ∧ look m x = none ∧ ∀ p ∈ m, p.1 ≠ x) ∨
    ∃ j e0, (Instr.findKey kt (.int k x) es.toList).run P w = .ok (some (j, e0.val)) w ∧ es.toList[j]? = some e0 ∧ e0.key = .int k x ∧ m[j]? = some (x, e0.val) ∧ look m x = some e0.val := by
  rcases (int_keyed hk).find w (keyOf_int_mk hk hx) es.toList (keys_of hk hw he) with ⟨h1, h2⟩ | ⟨j, e0, h1, h2, h3⟩
  · have hne : ∀ p ∈ m, p.1 ≠ x := by
      intro p hp hpx
      obtain ⟨j, hj⟩ := List.mem_iff_getElem?.1 hp
      have h := congrArg (fun l => l[j]?) he
      simp only [List.getElem?_map, hj, Option.map_some] at h
      obtain ⟨e0, h0, hq⟩ := Option.map_eq_some_iff.1 h
      simp only [Prod.mk.injEq] at hq
      exact h2 e0 (List.mem_of_getElem? h0) (by rw [hq.1, hpx])
    refine .inl ⟨h1, ?_, hne⟩
    unfold look
    rw [List.find?_eq_none.2 (fun p hp => by simpa using hne p hp)]
    rfl
  · obtain ⟨p, hp, h4, h5⟩ := entry_of he h2
    have h6 : p.1 = x := by
      rw [h3] at h4
      injection h4 with _ h4
      exact h4.symm
    have hpe : p = (x, e0.val) := by rw [h5, ← h6]
    refine .inr ⟨j, e0, h1, h2, h3, by rw [hp, hpe], ?_⟩
    unfold look
    have hf : (m.find? fun q => q.1 == x) = some p := by
      obtain ⟨hjl, hpj⟩ := List.getElem?_eq_some_iff.1 hp
      rw [List.find?_eq_some_iff_getElem]
      refine ⟨by simp [h6], j, hjl, hpj, fun i hi => ?_⟩
      simp only [Bool.not_eq_true', beq_eq_false_iff_ne, ne_eq]
      intro heq
      have := nd_inj hn (Nat.lt_trans hi hjl) hjl (by rw [heq, hpj, h6])
      omega
    rw [hf, h5]
    rfl
/-- 'm[x]'. -/
theorem MapAt.lookup (h : MapAt k w b m) (ht : P.underlying t = some (.map kt e)) (hk : P.underlying kt = some (.int k)) (hz : (zeroValue e).run P w = .ok z w) (hx : (Lit.int k x).wf = true) :
    (Instr.lookup t (.map (some b)) (.int k x) false).run P w = .ok ((look m x).getD z) w := by
  obtain ⟨h1, h2, es, c, h3, h4, h5, h6⟩ := h
  have hc := (int_keyed hk).check w es.isEmpty (keyOf_int_mk hk hx)
  rcases find_of hk h1 h2 h4 hx w with ⟨hf, hl, _⟩ | ⟨j, e0, hf, _, _, _, hl⟩
  · simp [Instr.lookup, run_underlying ht, MapKept.run_getObj_map h3, hc, hf, hl, hz, Result.andThen]
  · simp [Instr.lookup, run_underlying ht, MapKept.run_getObj_map h3, hc, hf, hl, Result.andThen]
/-- 'v, ok := m[x]'. -/
theorem MapAt.lookup_ok (h : MapAt k w b m) (ht : P.underlying t = some (.map kt e)) (hk : P.underlying kt = some (.int k)) (hz : (zeroValue e).run P w = .ok z w) (hx : (Lit.int k x).wf = true) :
    (Instr.lookup t (.map (some b)) (.int k x) true).run P w = .ok (.tuple #[(look m x).getD z, .bool (look m x).isSome]) w := by
  obtain ⟨h1, h2, es, c, h3, h4, h5, h6⟩ := h
  have hc := (int_keyed hk).check w es.isEmpty (keyOf_int_mk hk hx)
  rcases find_of hk h1 h2 h4 hx w with ⟨hf, hl, _⟩ | ⟨j, e0, hf, _, _, _, hl⟩
  · simp [Instr.lookup, run_underlying ht, MapKept.run_getObj_map h3, hc, hf, hl, hz, Result.andThen]
  · simp [Instr.lookup, run_underlying ht, MapKept.run_getObj_map h3, hc, hf, hl, Result.andThen]
theorem MapAt.len (h : MapAt k w b m) (ht : P.underlying t = some (.map kt e)) (ty : TypeId) : (Builtin.len_ #[t] ty #[.map (some b)]).run P w = .ok (.int .i64 m.length) w := by
  obtain ⟨h1, h2, es, c, h3, h4, h5, h6⟩ := h
  have hl := congrArg List.length h4
  simp only [List.length_map, Array.length_toList] at hl
  simp [Builtin.len_, run_underlying ht, MapKept.run_getObj_map h3, goInt, Result.andThen, hl]
theorem put_nodup (hn : (m.map (·.1)).Nodup) : ((put m x v).map (·.1)).Nodup := by
  unfold put
  split
  · rw [List.map_map]
    have : ((fun p : Int × Value => p.1) ∘ fun p : Int × Value => if p.1 == x then (x, v) else p) = fun p => p.1 := by
      funext p
      simp only [Function.comp]
      split
      · rename_i h; exact (by simpa using h : p.1 = x).symm
      · rfl
    rw [this]
    exact hn
  · rename_i h
    rw [List.map_append, List.nodup_append]
    refine ⟨hn, by simp, fun a ha c hc => ?_⟩
    simp only [List.map_cons, List.map_nil, List.mem_singleton] at hc
    subst hc
    rintro rfl
    obtain ⟨p, hp, rfl⟩ := List.mem_map.1 ha
    exact h (List.any_eq_true.2 ⟨p, hp, by simp⟩)
theorem put_wf (hw : ∀ p ∈ m, (Lit.int k p.1).wf = true) (hx : (Lit.int k x).wf = true) : ∀ p ∈ put m x v, (Lit.int k p.1).wf = true := by
  intro p hp
  unfold put at hp
  split at hp
  · obtain ⟨q, hq, rfl⟩ := List.mem_map.1 hp
    split
    · exact hx
    · exact hw q hq
  · rcases List.mem_append.1 hp with h | h
    · exact hw p h
    · rw [List.mem_singleton] at h; subst h; exact hx
theorem put_set (hn : (m.map (·.1)).Nodup) {j : Nat} {u : Value} (hj : m[j]? = some (x, u)) : put m x v = m.set j (x, v) := by
  unfold put
  obtain ⟨hjl, hpj⟩ := List.getElem?_eq_some_iff.1 hj
  rw [if_pos (List.any_eq_true.2 ⟨_, List.mem_of_getElem? hj, by simp⟩)]
  apply List.ext_getElem?
  intro i
  rw [List.getElem?_map, List.getElem?_set]
  by_cases hij : j = i
  · subst hij
    rw [if_pos rfl, if_pos hjl, hj]
    simp
  · rw [if_neg hij]
    rcases hq : m[i]? with _ | q
    · rfl
    · simp only [Option.map_some, Option.some.injEq]
      rw [if_neg]
      intro hqx
      obtain ⟨hil, hpi⟩ := List.getElem?_eq_some_iff.1 hq
      have := nd_inj hn hil hjl (by rw [hpi, hpj]; simpa using hqx)
      omega
/-- 'm[x] = v'. -/
theorem MapAt.update (h : MapAt k w b m) (ht : P.underlying t = some (.map kt e)) (hk : P.underlying kt = some (.int k)) (hx : (Lit.int k x).wf = true) (v : Value) :
    ∃ w', (Instr.mapUpdate t (.map (some b)) (.int k x) v).run P w = .ok () w' ∧ MapAt k w' b (put m x v) ∧ w.grownBy w' (some b) := by
  obtain ⟨h1, h2, es, c, h3, h4, h5, h6⟩ := h
  have hlt := (Array.getElem?_eq_some_iff.1 h3).1
  have hgrow : ∀ o, w.grownBy (setBlock w b o) (some b) := fun o => ⟨rfl, rfl, rfl, by simp [setBlock], fun i _ hi => by
    show (w.heap.setIfInBounds b o)[i]? = _
    rw [Array.getElem?_setIfInBounds, if_neg (fun e => hi (by rw [e]))]⟩
  have hat : ∀ o, (setBlock w b o).heap[b]? = some o := fun o => by
    show (w.heap.setIfInBounds b o)[b]? = _
    rw [Array.getElem?_setIfInBounds, if_pos rfl, if_pos hlt]
  have hc := (int_keyed hk).check w false (keyOf_int_mk hk hx)
  have hs := (int_keyed hk).stays w (keyOf_int_mk hk hx)
  rcases find_of hk h1 h2 h4 hx w with ⟨hf, _, hne⟩ | ⟨j, e0, hf, hj, hkey, hmj, _⟩
  · refine ⟨setBlock w b (.map (es.push ⟨.int k x, v, c⟩) (c + 1)), ?_, ⟨put_nodup h1, put_wf h2 hx, _, _, hat _, ?_, fun e he => ?_, ?_⟩, hgrow _⟩
    · simp [Instr.mapUpdate, run_underlying ht, MapKept.run_getObj_map h3, hc, hf, MapKept.run_setObj_map _ h3, Result.andThen, setBlock]
    · unfold put
      rw [if_neg (by
        intro ha
        obtain ⟨p, hp, hpx⟩ := List.any_eq_true.1 ha
        exact hne p hp (by simpa using hpx))]
      rw [Array.toList_push, List.map_append, h4]
      simp
    · rw [Array.toList_push, List.mem_append, List.mem_singleton] at he
      rcases he with he | rfl
      · exact Nat.lt_succ_of_lt (h5 e he)
      · exact Nat.lt_succ_self _
    · rw [Array.toList_push, List.map_append, List.nodup_append]
      refine ⟨h6, by simp, fun a ha d hd => ?_⟩
      simp only [List.map_cons, List.map_nil, List.mem_singleton] at hd
      obtain ⟨e, he, rfl⟩ := List.mem_map.1 ha
      have := h5 e he
      omega
  · have hj' : es[j]? = some e0 := by simpa using hj
    have hborn : (es.modify j fun e' => { e' with key := .int k x, val := v }).toList.map (·.born) = es.toList.map (·.born) := by
      apply List.ext_getElem?
      intro i
      rw [List.getElem?_map, Array.getElem?_toList, Array.getElem?_modify, List.getElem?_map, Array.getElem?_toList]
      by_cases hij : j = i
      · rw [if_pos hij]
        cases es[i]? <;> rfl
      · rw [if_neg hij]
    refine ⟨setBlock w b (.map (es.modify j fun e' => { e' with key := .int k x, val := v }) c), ?_, ⟨put_nodup h1, put_wf h2 hx, _, _, hat _, ?_, fun e he => ?_, by rw [hborn]; exact h6⟩, hgrow _⟩
    · simp [Instr.mapUpdate, run_underlying ht, MapKept.run_getObj_map h3, hc, hf, hj', hkey, hs, MapKept.run_setObj_map _ h3, Result.andThen, setBlock]
    · rw [put_set h1 hmj, List.map_set, ← h4]
      apply List.ext_getElem?
      intro i
      rw [List.getElem?_map, Array.getElem?_toList, Array.getElem?_modify, List.getElem?_set]
      by_cases hij : j = i
      · subst hij
        obtain ⟨hjl, _⟩ := List.getElem?_eq_some_iff.1 hj
        rw [if_pos rfl, if_pos rfl, if_pos (by simpa using hjl), hj']
        rfl
      · rw [if_neg hij, if_neg hij, List.getElem?_map, Array.getElem?_toList]
    · have hm : e.born ∈ es.toList.map (·.born) := by rw [← hborn]; exact List.mem_map.2 ⟨e, he, rfl⟩
      obtain ⟨e', he', hb'⟩ := List.mem_map.1 hm
      rw [← hb']
      exact h5 e' he'
theorem del_nodup (hn : (m.map (·.1)).Nodup) : ((del m x).map (·.1)).Nodup := hn.sublist (List.filter_sublist.map _)
theorem del_none (hne : ∀ p ∈ m, p.1 ≠ x) : del m x = m := List.filter_eq_self.2 (fun p hp => by simpa using hne p hp)
theorem del_erase (hn : (m.map (·.1)).Nodup) {j : Nat} {u : Value} (hj : m[j]? = some (x, u)) : del m x = m.eraseIdx j := by
  obtain ⟨hjl, hpj⟩ := List.getElem?_eq_some_iff.1 hj
  have hsplit : m = m.take j ++ (x, u) :: m.drop (j + 1) := by
    conv => lhs; rw [← List.take_append_drop j m, List.drop_eq_getElem_cons hjl, hpj]
  have hne : ∀ i (hi : i < m.length), i ≠ j → m[i].1 ≠ x := by
    intro i hi hij hx
    have := nd_inj hn hi hjl (by rw [hx, hpj])
    omega
  have h1 : (m.take j).filter (fun p => !(p.1 == x)) = m.take j := List.filter_eq_self.2 (fun p hp => by
    obtain ⟨i, hi, rfl⟩ := List.getElem_of_mem hp
    rw [List.length_take] at hi
    rw [List.getElem_take]
    simpa using hne i (by omega) (by omega))
  have h2 : (m.drop (j + 1)).filter (fun p => !(p.1 == x)) = m.drop (j + 1) := List.filter_eq_self.2 (fun p hp => by
    obtain ⟨i, hi, rfl⟩ := List.getElem_of_mem hp
    rw [List.length_drop] at hi
    rw [List.getElem_drop]
    simpa using hne (j + 1 + i) (by omega) (by omega))
  unfold del
  rw [List.eraseIdx_eq_take_drop_succ]
  conv => lhs; rw [hsplit]
  rw [List.filter_append, List.filter_cons, h1, h2]
  simp
/-- 'delete(m, x)'. -/
theorem MapAt.delete (h : MapAt k w b m) (ht : P.underlying t = some (.map kt e)) (hk : P.underlying kt = some (.int k)) (hx : (Lit.int k x).wf = true) (t2 ty : TypeId) :
    ∃ w', (Builtin.delete_ #[t, t2] ty #[.map (some b), .int k x]).run P w = .ok (.tuple #[]) w' ∧ MapAt k w' b (del m x) ∧ w.grownBy w' (some b) := by
  obtain ⟨h1, h2, es, c, h3, h4, h5, h6⟩ := h
  have hlt := (Array.getElem?_eq_some_iff.1 h3).1
  have hgrow : ∀ o, w.grownBy (setBlock w b o) (some b) := fun o => ⟨rfl, rfl, rfl, by simp [setBlock], fun i _ hi => by
    show (w.heap.setIfInBounds b o)[i]? = _
    rw [Array.getElem?_setIfInBounds, if_neg (fun e => hi (by rw [e]))]⟩
  have hat : ∀ o, (setBlock w b o).heap[b]? = some o := fun o => by
    show (w.heap.setIfInBounds b o)[b]? = _
    rw [Array.getElem?_setIfInBounds, if_pos rfl, if_pos hlt]
  have hc := (int_keyed hk).check w es.isEmpty (keyOf_int_mk hk hx)
  have hwd : ∀ p ∈ del m x, (Lit.int k p.1).wf = true := fun p hp => h2 p (List.mem_filter.1 hp).1
  rcases find_of hk h1 h2 h4 hx w with ⟨hf, _, hne⟩ | ⟨j, e0, hf, hj, hkey, hmj, _⟩
  · refine ⟨setBlock w b (.map es c), ?_, ⟨del_nodup h1, hwd, _, _, hat _, by rw [del_none hne]; exact h4, h5, h6⟩, hgrow _⟩
    simp [Builtin.delete_, run_underlying ht, MapKept.run_getObj_map h3, hc, hf, MapKept.run_setObj_map _ h3, Result.andThen, setBlock]
  · have hjl := (List.getElem?_eq_some_iff.1 hj).1
    have hj2 : j < es.size := by simpa using hjl
    have hle : (es.eraseIdxIfInBounds j).toList = es.toList.eraseIdx j := by rw [Array.eraseIdxIfInBounds, dif_pos hj2, Array.toList_eraseIdx]
    refine ⟨setBlock w b (.map (es.eraseIdxIfInBounds j) c), ?_, ⟨del_nodup h1, hwd, _, _, hat _, ?_, fun e he => ?_, ?_⟩, hgrow _⟩
    · simp [Builtin.delete_, run_underlying ht, MapKept.run_getObj_map h3, hc, hf, MapKept.run_setObj_map _ h3, Result.andThen, setBlock]
    · rw [del_erase h1 hmj]
      rw [hle, map_eraseIdx, h4, map_eraseIdx]
    · rw [hle] at he
      exact h5 e (List.mem_of_mem_eraseIdx he)
    · rw [hle]
      exact h6.sublist ((List.eraseIdx_sublist es.toList j).map _)
end
theorem look_cons (p : Int × Value) (m : List (Int × Value)) (y : Int) : look (p :: m) y = if p.1 = y then some p.2 else look m y := by
  unfold look
  rw [List.find?_cons]
  by_cases h : p.1 = y
  · simp [h]
  · rw [if_neg h]
    have : (p.1 == y) = false := by simpa using h
    rw [this]
theorem look_put (m : List (Int × Value)) (x : Int) (v : Value) (y : Int) : look (put m x v) y = if y = x then some v else look m y := by
  unfold put
  by_cases ha : m.any (fun p => p.1 == x) = true
  · rw [if_pos ha]
    induction m with
    | nil => simp at ha
    | cons p m ih =>
      rw [List.map_cons, look_cons, look_cons]
      by_cases hp : p.1 = x
      · have hp' : (p.1 == x) = true := by simpa using hp
        rw [hp', if_pos rfl]
        by_cases hy : x = y
        · rw [if_pos hy, if_pos hy.symm]
        · rw [if_neg hy, if_neg (fun e => hy e.symm), if_neg (fun e => hy (hp.symm.trans e))]
          clear ih ha
          induction m with
          | nil => rfl
          | cons q m ih =>
            rw [List.map_cons, look_cons, look_cons, ih]
            by_cases hq : q.1 = x
            · have hq' : (q.1 == x) = true := by simpa using hq
              rw [hq', if_pos rfl, if_neg hy, if_neg (fun e => hy (hq.symm.trans e))]
            · have hq' : (q.1 == x) = false := by simpa using hq
              rw [hq']; rfl
      · have hp' : (p.1 == x) = false := by simpa using hp
        simp only [hp', Bool.false_eq_true, if_false]
        rw [List.any_cons, hp', Bool.false_or] at ha
        rw [ih ha]
        by_cases hy : y = x
        · subst hy
          simp [hp]
        · rw [if_neg hy, if_neg hy]
  · rw [if_neg ha]
    induction m with
    | nil => rw [List.nil_append, look_cons]; by_cases hy : y = x
             · subst hy; simp
             · rw [if_neg (fun e => hy e.symm), if_neg hy]
    | cons p m ih =>
      rw [List.any_cons, Bool.or_eq_true, not_or] at ha
      have hp : p.1 ≠ x := by simpa using ha.1
      rw [List.cons_append, look_cons, look_cons, ih ha.2]
      by_cases hy : y = x
      · subst hy
        simp [hp]
      · rw [if_neg hy, if_neg hy]
theorem look_del (m : List (Int × Value)) (x y : Int) : look (del m x) y = if y = x then none else look m y := by
  unfold del
  induction m with
  | nil => simp [look]
  | cons p m ih =>
    rw [List.filter_cons]
    by_cases hp : p.1 = x
    · have hp' : (p.1 == x) = true := by simpa using hp
      rw [hp', if_neg (by simp), ih, look_cons]
      by_cases hy : y = x
      · rw [if_pos hy, if_pos hy]
      · rw [if_neg hy, if_neg hy, if_neg (fun e => hy (e.symm.trans hp))]
    · have hp' : (p.1 == x) = false := by simpa using hp
      rw [hp', if_pos (by simp), look_cons, look_cons, ih]
      by_cases hy : y = x
      · subst hy
        simp [hp]
      · rw [if_neg hy, if_neg hy]
section
variable {P : Program} {k : IntKind} {kt e t : TypeId} {ops : Array Oper} {rest : List Oper} {o : Oper} {a : Act} {Q : Exit → Act → World → Prop} (w : World)
theorem wpList_look (hg : o.guard = none) (m x : Operand) (t : TypeId) (hop : o.op = Op.lookup t m x false) (kt e : TypeId) (k : IntKind) (ht : P.underlying t = some (.map kt e)) (hk : P.underlying kt = some (.int k))
    (z : Value) (hz : (zeroValue e).run P w = .ok z w) (b : Nat) (M : List (Int × Value)) (hm : a.eval m = .map (some b)) (hat : MapAt k w b M) (y : Int) (hx : a.eval x = .int k y) (hy : (Lit.int k y).wf = true)
    (hK : wpList P ops Q rest (a.put o.dst ((look M y).getD z)) w) : wpList P ops Q (o :: rest) a w := by
  refine wpList_plain hg fun K' hK' => ?_
  unfold Oper.wp
  simp [execOp, hop, hm, hx, hat.lookup ht hk hz hy, Result.andThen]
  exact hK' _ _ hK
theorem wpList_look_ok (hg : o.guard = none) (m x : Operand) (t : TypeId) (hop : o.op = Op.lookup t m x true) (kt e : TypeId) (k : IntKind) (ht : P.underlying t = some (.map kt e)) (hk : P.underlying kt = some (.int k))
    (z : Value) (hz : (zeroValue e).run P w = .ok z w) (b : Nat) (M : List (Int × Value)) (hm : a.eval m = .map (some b)) (hat : MapAt k w b M) (y : Int) (hx : a.eval x = .int k y) (hy : (Lit.int k y).wf = true)
    (hK : wpList P ops Q rest (a.put o.dst (.tuple #[(look M y).getD z, .bool (look M y).isSome])) w) : wpList P ops Q (o :: rest) a w := by
  refine wpList_plain hg fun K' hK' => ?_
  unfold Oper.wp
  simp [execOp, hop, hm, hx, hat.lookup_ok ht hk hz hy, Result.andThen]
  exact hK' _ _ hK
theorem wpList_put (hg : o.guard = none) (m x v : Operand) (t : TypeId) (hop : o.op = Op.mapUpdate t m x v) (kt e : TypeId) (k : IntKind) (ht : P.underlying t = some (.map kt e)) (hk : P.underlying kt = some (.int k))
    (b : Nat) (M : List (Int × Value)) (hm : a.eval m = .map (some b)) (hat : MapAt k w b M) (y : Int) (u : Value) (hx : a.eval x = .int k y) (hv : a.eval v = u) (hy : (Lit.int k y).wf = true)
    (hK : ∀ w', MapAt k w' b (put M y u) → w.grownBy w' (some b) → wpList P ops Q rest (a.put o.dst undef) w') : wpList P ops Q (o :: rest) a w := by
  refine wpList_plain hg fun K' hK' => ?_
  obtain ⟨w', hrun, r1, r2⟩ := hat.update ht hk hy u
  unfold Oper.wp
  simp [execOp, hop, hm, hx, hv, hrun, Result.andThen]
  exact hK' _ _ (hK w' r1 r2)
theorem wpList_del (hg : o.guard = none) (m x : Operand) (t t2 : TypeId) (hop : o.op = Op.call { callee := Callee.builtin Builtin.delete, args := #[m, x], argTypes := #[t, t2] }) (kt e : TypeId) (k : IntKind) (ht : P.underlying t = some (.map kt e)) (hk : P.underlying kt = some (.int k))
    (b : Nat) (M : List (Int × Value)) (hm : a.eval m = .map (some b)) (hat : MapAt k w b M) (y : Int) (hx : a.eval x = .int k y) (hy : (Lit.int k y).wf = true)
    (hK : ∀ w', MapAt k w' b (del M y) → w.grownBy w' (some b) → wpList P ops Q rest (a.put o.dst (.tuple #[])) w') : wpList P ops Q (o :: rest) a w := by
  refine wpList_plain hg fun K' hK' => ?_
  obtain ⟨w', hrun, r1, r2⟩ := hat.delete ht hk hy t2 o.type
  unfold Oper.wp
  simp [execOp, hop, resolve, invoke, builtin, hm, hx, hrun, Result.andThen]
  exact hK' _ _ (hK w' r1 r2)
theorem wpList_len (hg : o.guard = none) (m : Operand) (t : TypeId) (hop : o.op = Op.call { callee := Callee.builtin Builtin.len, args := #[m], argTypes := #[t] }) (kt e : TypeId) (k : IntKind) (ht : P.underlying t = some (.map kt e))
    (b : Nat) (M : List (Int × Value)) (hm : a.eval m = .map (some b)) (hat : MapAt k w b M)
    (hK : wpList P ops Q rest (a.put o.dst (.int .i64 M.length)) w) : wpList P ops Q (o :: rest) a w := by
  refine wpList_plain hg fun K' hK' => ?_
  unfold Oper.wp
  simp [execOp, hop, resolve, invoke, builtin, hm, hat.len ht o.type, Result.andThen]
  exact hK' _ _ hK
end
end Go.Proofs.Ytiiljdglbfgdbaa.Im

/- An append whose source is still read behind it: the source's row reads as it did. Any program, any world. -/
namespace Go.Proofs.Ytiiljdglbfgdbaa.Keep
open Go Go.RowKit Go.Proofs.YtiiljdglbfgdbaaW.PrintWords
section
variable {P : Program} {w : World}
theorem run_keep (base : Nat) (t ty e : TypeId) (i : TypeInfo) (z : Value) (size bytes : Nat) (ht : P.underlying t = some (.slice e)) (hi : P.info? e = some i) (hz : i.zero = some z)
    (hsize : i.size = size) (hby : i.bytes = bytes) (hzs : z.cells.size = size) (hsz : 0 < size) (v : Value) (n : Nat) (xs : List Value) (hown : w.ownsRow base e size v n xs)
    (a : Addr) (m c : Nat) (news : List Value) (hl : news.length = m * size) (hnews : ∀ j u, news[j]? = some u → w.cell? (a.add j) = some u) (h1 : ∀ u ∈ news, u.oneCell' = true)
    (h63 : n + m ≤ maxLen) (hbytes : (n + m) * bytes ≤ 140737488355328) (hbase : base ≤ w.heap.size) :
    ∃ v' w', (Builtin.append_ #[t, t] ty #[v, .slice (some a) m c]).run P w = .ok v' w' ∧ w'.ownsRow base e size v' (n + m) (xs ++ news) ∧ w.grownBy w' v.ownBlock ∧
      (v'.ownBlock = v.ownBlock ∨ v'.ownBlock = some w.heap.size) ∧ w'.ownsRow base e size v n xs := by
  obtain ⟨v', w', hr, h2, h3, _, h5⟩ := run_append_own_at (P := P) w base t ty e i z size bytes ht hi hz hsize hby hzs hsz v n xs hown a m c news hl hnews h1 h63 hbytes hbase
  refine ⟨v', w', hr, h2, h3, h5, ?_⟩
  subst hsize
  subst hby
  have hsmall : n + m ≤ 9223372036854775807 := by simp only [maxLen] at h63; omega
  rcases hown.2 with ⟨rfl, rfl⟩ | ⟨g, cap, cur, rfl, hbg, hg, hnc, hcm, hcs, htake⟩
  · exact ⟨hown.1, .inl ⟨rfl, rfl⟩⟩
  · by_cases hroom : n + m ≤ cap
    · obtain ⟨w2, hr2, hown2, _⟩ := run_append_own_spare (P := P) (w := w) base t ty e i i.size ht hi rfl g n cap xs hown a m c news hl hnews h1 hroom
      rw [hr] at hr2
      cases hr2
      rcases hown2.2 with ⟨h0, _⟩ | ⟨g2, cap2, cur2, he, hb2, hg2, hn2, hm2, hs2, ht2⟩
      · cases h0
      · cases he
        refine ⟨hown.1, .inr ⟨g, cap, cur2, rfl, hb2, hg2, by omega, hm2, hs2, ?_⟩⟩
        have e2 : (cur2.toList.take ((n + m) * i.size)).take (n * i.size) = xs := by
          rw [ht2, ← hown.1]
          exact List.take_left
        rw [List.take_take, Nat.min_eq_left (Nat.mul_le_mul_right _ (Nat.le_add_right n m))] at e2
        exact e2
    · have holds : ∀ j u, xs[j]? = some u → w.cell? ((⟨g, 0, none⟩ : Addr).add j) = some u := hown.cells (g := g) rfl
      have hr2 := run_append_grow (P := P) w t ty e i z ht hi hz ⟨g, 0, none⟩ n cap xs hown.1 holds a m c news hl hnews (by omega) (by omega) (growslice_fits (by omega) hbytes)
      rw [hr] at hr2
      cases hr2
      exact World.ownsRow.alloc (w := w.drew) hown _
end
section
variable {P : Program} {ops : Array Oper} {o : Oper} {rest : List Oper} {a : Act} {Q : Exit → Act → World → Prop}
/-- Kd.R_append for whole numbers, with the source kept. -/
theorem R_append_keep (k : IntKind) {w0 W : World} (base : Nat) (hgd : o.guard = none) (s x : Operand) (t e : TypeId) (z : Value) (bytes : Nat)
    (ho : o.op = .call { callee := .builtin .append, args := #[s, x], argTypes := #[t, t] })
    (ht : P.underlying t = some (.slice e)) (hinfo : (P.info? e).map (fun i => (i.zero, i.size, i.bytes)) = some (some z, 1, bytes)) (hz : z.cells.size = 1) (hb0 : 0 < bytes)
    (v : Value) (xs : List Int) (p : Int) (hs : a.eval s = v) (hx : a.eval x = .slice (some ⟨W.heap.size, 0, none⟩) 1 1)
    (HO : (Kd.int k).R e W base (fun _ => True) v xs) (HB : Below base w0 W) (hbase : base ≤ W.heap.size) (hl : (xs.length + 1) * bytes ≤ 140737488355328)
    (h : ∀ v1 w1, (Kd.int k).R e w1 base (fun _ => True) v1 (xs ++ [p]) → Below base w0 w1 → W.grownBy w1 v.ownBlock → (v1.ownBlock = v.ownBlock ∨ ∃ b, v1.ownBlock = some b ∧ W.heap.size ≤ b) → (Kd.int k).R e w1 base (fun _ => True) v xs → wpList P ops Q rest (a.put o.dst v1) w1) :
    wpList P ops Q (o :: rest) a (W.alloc (.cells #[.int k p] e)) := by
  obtain ⟨h0, inner, hown, hr⟩ := HO
  obtain ⟨i0, hi, hzz⟩ := Option.map_eq_some_iff.1 hinfo
  simp only [Prod.mk.injEq] at hzz
  obtain ⟨hz0, hz1, hz2⟩ := hzz
  have hlen : xs.length + 1 ≤ 140737488355328 := Nat.le_trans (Nat.le_mul_of_pos_right _ hb0) hl
  refine wpList_plain hgd fun K hK => ?_
  obtain ⟨v1, w1, hrun, hown1, hg, hat, hkeep⟩ := run_keep (P := P) (w := W.alloc (.cells #[.int k p] e)) base t o.type e i0 z 1 bytes ht hi hz0 hz1 hz2 hz (by omega) v xs.length inner (hown.alloc _) ⟨W.heap.size, 0, none⟩ 1 1 [.int k p] rfl
    (cell_one_new _ _ _) (by simp [Value.oneCell']) (by simp only [maxLen]; omega) hl (by simp; omega)
  unfold Oper.wp execOp
  simp only [ho, resolve, invoke, builtin, Sem.run_bind, Sem.run_pure, Result.andThen_ok, List.map_toArray, List.map_cons, List.map_nil, hs, hx, hrun]
  have hat' : v1.ownBlock = v.ownBlock ∨ ∃ b, v1.ownBlock = some b ∧ W.heap.size ≤ b := by
    rcases hat with hat | hat
    · exact .inl hat
    · exact .inr ⟨_, hat, by simp⟩
  have hgW : W.grownBy w1 v.ownBlock := World.grownBy.trans (World.grownBy_alloc W _ _) hg
  exact hK _ _ (h v1 w1 (Kd.R_appended (okp := fun _ => False) (fun _ _ => trivial) hr rfl (fun _ hk => hk.elim) (fun _ _ => trivial) hown1 hgW hat') ((HB.alloc hbase _).grown hg (by simp; omega) (own_base hown)) hgW hat' ⟨fun _ _ => trivial, inner, hkeep, hr⟩)
end
end Go.Proofs.Ytiiljdglbfgdbaa.Keep
