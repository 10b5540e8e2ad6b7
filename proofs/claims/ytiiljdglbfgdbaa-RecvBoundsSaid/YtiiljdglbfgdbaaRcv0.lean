/- The receiver as the program holds it: its object in memory, and the plain functions that its methods come to. -/
import Derived.Test.YtiiljdglbfgdbaaHl

set_option linter.unusedVariables false
set_option linter.unusedSimpArgs false
namespace Go.Proofs.Ytiiljdglbfgdbaa.Rcv
open Go Go.RowKit Go.Proofs.YtiiljdglbfgdbaaW.PrintWords Go.Proofs.Ytiiljdglbfgdbaa Go.Proofs.Ytiiljdglbfgdbaa.Sl
theorem ret_int {k : IntKind} {a b : Int} (h : a = b) : Ending.returned (.int k a) = .returned (.int k b) := by rw [h]
theorem ret_bool {a b : Bool} (h : a = b) : Ending.returned (.bool a) = .returned (.bool b) := by rw [h]
/-! ### A map from numbers to texts -/
abbrev Buf := List (Int × ByteArray)
def sM (m : Buf) : List (Int × Value) := m.map fun p => (p.1, Value.string p.2)
def blook (m : Buf) (x : Int) : Option ByteArray := (m.find? fun p => p.1 == x).map (·.2)
def bput (m : Buf) (x : Int) (v : ByteArray) : Buf := if m.any (fun p => p.1 == x) then m.map (fun p => if p.1 == x then (x, v) else p) else m ++ [(x, v)]
def bdel (m : Buf) (x : Int) : Buf := m.filter fun p => !(p.1 == x)
theorem look_sM (m : Buf) (x : Int) : Im.look (sM m) x = (blook m x).map Value.string := by
  unfold Im.look sM blook
  rw [List.find?_map]
  cases h : m.find? ((fun p : Int × Value => p.1 == x) ∘ fun p => (p.1, Value.string p.2)) with
  | none => simp only [Option.map_none]; rw [show (m.find? fun p => p.1 == x) = none from h]; rfl
  | some q => simp only [Option.map_some]; rw [show (m.find? fun p => p.1 == x) = some q from h]; rfl
theorem put_sM (m : Buf) (x : Int) (v : ByteArray) : Im.put (sM m) x (.string v) = sM (bput m x v) := by
  unfold Im.put sM bput
  rw [List.any_map]
  by_cases h : (m.any fun p => p.1 == x) = true
  · rw [if_pos (show (m.any ((fun p : Int × Value => p.1 == x) ∘ fun p => (p.1, Value.string p.2))) = true from h), if_pos h, List.map_map, List.map_map]
    apply List.map_congr_left
    intro p _
    simp only [Function.comp]
    split <;> rfl
  · rw [if_neg (show ¬ (m.any ((fun p : Int × Value => p.1 == x) ∘ fun p => (p.1, Value.string p.2))) = true from h), if_neg h, List.map_append]
    rfl
theorem del_sM (m : Buf) (x : Int) : Im.del (sM m) x = sM (bdel m x) := by
  unfold Im.del sM bdel
  rw [List.filter_map]
  rfl
theorem len_sM (m : Buf) : (sM m).length = m.length := List.length_map ..
theorem bdel_len {m : Buf} {x : Int} {s : ByteArray} (h : blook m x = some s) : (bdel m x).length < m.length := by
  unfold blook at h
  obtain ⟨q, hq, _⟩ := Option.map_eq_some_iff.1 h
  have hm := List.mem_of_find?_eq_some hq
  have hp := List.find?_some hq
  unfold bdel
  refine List.length_filter_lt_length_iff_exists.2 ⟨q, hm, by simpa using hp⟩
theorem bput_len (m : Buf) (x : Int) (s : ByteArray) : (bput m x s).length ≤ m.length + 1 := by
  unfold bput
  split
  · rw [List.length_map]; omega
  · rw [List.length_append, List.length_singleton]; omega
/-! ### A gap -/
structure Gp where
  f0 : Int
  f1 : Int
def kG : Kd Gp := Kd.iso (Kd.pair (Kd.int .u32) (Kd.int .u32)) (fun x : Gp => (x.f0, x.f1))
theorem kG_open {w : World} {x : Gp} {cs : List Value} (h : kG.K w x cs) : cs = [.int .u32 x.f0, .int .u32 x.f1] := by
  obtain ⟨c1, c2, rfl, h1, h2⟩ := h
  rw [show c1 = [.int .u32 x.f0] from h1, show c2 = [.int .u32 x.f1] from h2]; rfl
theorem kG_mkM (w : World) (base : Nat) (ok : Nat → Prop) (x : Gp) : kG.M w base ok x [.int .u32 x.f0, .int .u32 x.f1] := ⟨[.int .u32 x.f0], [.int .u32 x.f1], rfl, rfl, rfl⟩
/-! ### The receiver -/
structure RS where
  r : Int
  h : Int
  mr : Int
  win : Int
  buf : Buf
  inb : List ByteArray
  gaps : List Gp
/-- What is always true of one. -/
structure RS.Ok (x : RS) : Prop where
  r : 0 ≤ x.r ∧ x.r < 16777216
  h : 0 ≤ x.h ∧ x.h < 16777216
  mr : 0 ≤ x.mr ∧ x.mr < 16777216
  win : 1 ≤ x.win ∧ x.win ≤ 64
  buf : x.buf.length ≤ 1000000
  inb : x.inb.length ≤ 1000000
  gaps : x.gaps.length ≤ 8
def lowN (a : Int) : Int := a % 16777216
def toN (a b : Int) : Int := (b - a) % 16777216
def addN (a n : Int) : Int := (a + n) % 16777216
/-- Its object. -/
def cellsR (x : RS) (bm : Nat) (vi vg : Value) : Array Value := #[.int .u32 x.r, .int .u32 x.h, .int .u32 x.mr, .int .i64 x.win, .map (some bm), vi, vg]
def partsR (b : Nat) (x : RS) (bm : Nat) (vi vg : Value) : List As := [Blk b (cellsR x bm vi vg) 73, MapA .u32 bm (sM x.buf), Row Kd.string 9 vi x.inb, Row kG 76 vg x.gaps]
def RecvA (b : Nat) (x : RS) : As := Ex fun y : Nat × Value × Value => All (partsR b x y.1 y.2.1 y.2.2)
theorem RecvA.open_ {w0 W : World} {l : List As} {b : Nat} {x : RS} (h : SL w0 W (RecvA b x :: l)) : ∃ (bm : Nat) (Ai : Option Addr) (ci : Nat) (Ag : Option Addr) (cg : Nat), x.inb.length ≤ ci ∧ x.gaps.length ≤ cg ∧ SL w0 W (partsR b x bm (.slice Ai x.inb.length ci) (.slice Ag x.gaps.length cg) ++ l) := by
  obtain ⟨⟨bm, vi, vg⟩, h⟩ := h.open_ex
  have h := h.open_all
  obtain ⟨Ai, ci, e1, h1⟩ := SL.form h (.tail _ (.tail _ (.head _)))
  obtain ⟨Ag, cg, e2, h2⟩ := SL.form h (.tail _ (.tail _ (.tail _ (.head _))))
  simp only at e1 e2
  subst e1
  subst e2
  exact ⟨bm, Ai, ci, Ag, cg, h1, h2, h⟩
theorem RecvA.shut {w0 W : World} {l : List As} {b : Nat} {x : RS} {bm : Nat} {vi vg : Value} (h : SL w0 W (partsR b x bm vi vg ++ l)) : SL w0 W (RecvA b x :: l) :=
  SL.shut_ex (bm, vi, vg) (SL.shut_all h)
theorem cellsAt {w0 W : World} {l : List As} {b : Nat} {x : RS} {bm : Nat} {vi vg : Value} (h : SL w0 W (partsR b x bm vi vg ++ l)) :
    (W.cell? ⟨b, 0, none⟩ = some (.int .u32 x.r) ∧ W.frozen? ⟨b, 0, none⟩ = false) ∧ (W.cell? ⟨b, 1, none⟩ = some (.int .u32 x.h) ∧ W.frozen? ⟨b, 1, none⟩ = false) ∧ (W.cell? ⟨b, 2, none⟩ = some (.int .u32 x.mr) ∧ W.frozen? ⟨b, 2, none⟩ = false) ∧
    (W.cell? ⟨b, 3, none⟩ = some (.int .i64 x.win) ∧ W.frozen? ⟨b, 3, none⟩ = false) ∧ (W.cell? ⟨b, 4, none⟩ = some (.map (some bm)) ∧ W.frozen? ⟨b, 4, none⟩ = false) ∧ (W.cell? ⟨b, 5, none⟩ = some vi ∧ W.frozen? ⟨b, 5, none⟩ = false) ∧ (W.cell? ⟨b, 6, none⟩ = some vg ∧ W.frozen? ⟨b, 6, none⟩ = false) :=
  ⟨SL.cell h (.head _) 0 rfl, SL.cell h (.head _) 1 rfl, SL.cell h (.head _) 2 rfl, SL.cell h (.head _) 3 rfl, SL.cell h (.head _) 4 rfl, SL.cell h (.head _) 5 rfl, SL.cell h (.head _) 6 rfl⟩
end Go.Proofs.Ytiiljdglbfgdbaa.Rcv
