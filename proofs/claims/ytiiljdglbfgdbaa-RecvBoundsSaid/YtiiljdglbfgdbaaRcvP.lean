/- The document's receiver: plain functions, how the program holds it, and its functions that only read. -/
import Derived.Test.YtiiljdglbfgdbaaRcv1
import Derived.Laws.Strings
import Derived.Laws.Bits128
import Derived.Test.YtiiljdglbfgdbaaS0
import Derived.Test.YtiiljdglbfgdbaaS8
import Derived.Test.YtiiljdglbfgdbaaS9
import Derived.Test.YtiiljdglbfgdbaaS10
import Derived.Test.YtiiljdglbfgdbaaS15
set_option linter.unusedVariables false
set_option linter.unusedSimpArgs false
/-! The document's receiver: plain functions, how the program holds it, and its functions that only read. -/
namespace Go.Proofs.Ytiiljdglbfgdbaa.Rcv
open Go Go.RowKit Go.Proofs.YtiiljdglbfgdbaaW.PrintWords Go.Proofs.YtiiljdglbfgdbaaW.PrintLast Go.Proofs.YtiiljdglbfgdbaaW.PrintMore Go.Proofs.Ytiiljdglbfgdbaa Go.Proofs.Ytiiljdglbfgdbaa.Sl Go.Proofs.Ytiiljdglbfgdbaa.S
abbrev It := S98
abbrev kIt : Kd It := k98
abbrev kGs : Kd (List Int) := Kd.slice 3 (Kd.int .i64)
structure RR where
  R : Int
  H : Int
  MR : Int
  W : Int
  buf : List It
  inb : List ByteArray
  gaps : List (List Int)
structure RR.Ok (y : RR) : Prop where
  R : 0 ≤ y.R ∧ y.R ≤ 100000000
  H : y.R ≤ y.H ∧ y.H ≤ 100000000
  MR : 0 ≤ y.MR ∧ y.MR ≤ 100000000
  W : 1 ≤ y.W ∧ y.W ≤ 64
  buf : y.buf.length ≤ 1000000
  inb : y.inb.length ≤ 1000000
  gaps : y.gaps.length ≤ 8
def hasR (l : List It) (n : Int) : Bool := l.any fun p => p.f0 == n
def missR (y : RR) : List Int := ((List.range (y.H - y.R).toNat).map fun i : Nat => y.R + (i : Int)).filter fun n => !hasR y.buf n
def scanR (R : Int) : List It → Option ByteArray → List It → Option ByteArray × List It
  | [], m, r => (m, r)
  | p :: l, m, r => if m = none ∧ p.f0 = R then scanR R l (some p.f1) r else scanR R l m (r ++ [p])
def runR : Nat → Int → List It → List ByteArray → Int × List It × List ByteArray
  | 0, R, b, o => (R, b, o)
  | k + 1, R, b, o => match scanR R b none [] with
    | (some m, r) => runR k (R + 1) r (o ++ [m])
    | (none, r) => (R, r, o)
theorem scanR_some (R : Int) : ∀ (l : List It) (m : ByteArray) (r : List It), scanR R l (some m) r = (some m, r ++ l)
  | [], m, r => by simp [scanR]
  | p :: l, m, r => by
    unfold scanR
    rw [if_neg (by simp), scanR_some R l m (r ++ [p])]
    simp
theorem scanR_len (R : Int) : ∀ (l : List It) (r : List It), ((scanR R l none r).1 = none ∧ (scanR R l none r).2 = r ++ l) ∨ (∃ m, (scanR R l none r).1 = some m ∧ (scanR R l none r).2.length + 1 = r.length + l.length)
  | [], r => Or.inl ⟨rfl, by simp [scanR]⟩
  | p :: l, r => by
    unfold scanR
    by_cases h : p.f0 = R
    · rw [if_pos ⟨rfl, h⟩, scanR_some]
      exact Or.inr ⟨_, rfl, by simp; omega⟩
    · rw [if_neg (fun e => h e.2)]
      rcases scanR_len R l (r ++ [p]) with ⟨h1, h2⟩ | ⟨m, h1, h2⟩
      · exact Or.inl ⟨h1, by rw [h2]; simp⟩
      · exact Or.inr ⟨m, h1, by simp at h2 ⊢; omega⟩
def keepR (y : RR) (n : Int) (m : ByteArray) : RR := { y with buf := y.buf ++ [⟨n, m⟩], gaps := if n > y.H ∧ y.gaps.length < 8 then y.gaps ++ [[y.H, n]] else y.gaps, H := max y.H (n + 1) }
def pullR (y : RR) : RR × List ByteArray :=
  ({ y with R := (runR (y.buf.length + 1) y.R y.buf []).1, buf := (runR (y.buf.length + 1) y.R y.buf []).2.1, inb := y.inb ++ (runR (y.buf.length + 1) y.R y.buf []).2.2 }, (runR (y.buf.length + 1) y.R y.buf []).2.2)
def dataR (y : RR) (x : Int) (m : ByteArray) : RR × List ByteArray :=
  if y.R + toN y.R x ≥ y.MR ∨ hasR y.buf (y.R + toN y.R x) = true then (y, []) else pullR (keepR y (y.R + toN y.R x) m)
def pollR (y : RR) (x : Int) : RR × Bool :=
  if y.R + toN y.R x < y.H ∨ y.R + toN y.R x > y.MR then (y, false) else ({ y with H := y.R + toN y.R x }, true)
def renewR (y : RR) : RR := { y with MR := max y.MR (y.R + y.W - y.inb.length) }
/-- What is held of one. -/
abbrev RefV (y : RR) (A1 A2 A3 : Option Addr) (c1 c2 c3 : Nat) : Value := .agg #[.int .i64 y.R, .int .i64 y.H, .int .i64 y.MR, .int .i64 y.W, .slice A1 y.buf.length c1, .slice A2 y.inb.length c2, .slice A3 y.gaps.length c3]
structure Hd where
  A : Option Addr
  n : Nat
  c : Nat
def kH : Kd Hd := Kd.scalar (fun h => .slice h.A h.n h.c) (fun _ => rfl)
theorem flat_H : Flat kH := fun _ _ _ _ _ _ h => h
/-- The rows inside. -/
def InnerP (W : World) (hs : List Hd) (gs : List (List Int)) : Prop := hs.length = gs.length ∧ ∀ (j : Nat) (g : List Int), gs[j]? = some g → ∃ h, hs[j]? = some h ∧ h.n = g.length ∧ g.length ≤ h.c ∧ (Kd.int .i64).C W h.A g.length g
theorem gs_of {W : World} {A : Option Addr} {n : Nat} {hs : List Hd} {gs : List (List Int)} (h : kH.C W A n hs) (hi : InnerP W hs gs) : kGs.C W A n gs := by
  refine ⟨by rw [← hi.1]; exact h.1, h.2.1, fun hn => ?_⟩
  obtain ⟨ad, e, hc⟩ := h.2.2 hn
  refine ⟨ad, e, fun j g hg => ?_⟩
  obtain ⟨hd, h1, h2, h3, h4⟩ := hi.2 j g hg
  obtain ⟨c, c1, c2, c3⟩ := hc j hd h1
  refine ⟨c, c1, ⟨hd.A, hd.c, ?_, h3, h4⟩, c3⟩
  rw [← h2]
  exact c2
theorem InnerP.snoc {W : World} {hs : List Hd} {gs : List (List Int)} {h : Hd} {g : List Int} (hi : InnerP W hs gs) (h1 : h.n = g.length) (h2 : g.length ≤ h.c) (h3 : (Kd.int .i64).C W h.A g.length g) : InnerP W (hs ++ [h]) (gs ++ [g]) := by
  refine ⟨by rw [List.length_append, List.length_append, hi.1]; rfl, fun j x hx => ?_⟩
  by_cases hj : j < gs.length
  · rw [List.getElem?_append_left hj] at hx
    obtain ⟨u, u1, u2⟩ := hi.2 j x hx
    exact ⟨u, by rw [List.getElem?_append_left (by rw [hi.1]; exact hj)]; exact u1, u2⟩
  · have hj2 := (List.getElem?_eq_some_iff.1 hx).1
    rw [List.length_append, List.length_singleton] at hj2
    have : j = gs.length := by omega
    subst this
    have : g = x := by simpa using hx
    subst this
    exact ⟨h, by rw [← hi.1]; simp, h1, h2, h3⟩
theorem InnerP.tail {W : World} {h : Hd} {hs : List Hd} {g : List Int} {gs : List (List Int)} (hi : InnerP W (h :: hs) (g :: gs)) : InnerP W hs gs :=
  ⟨by have := hi.1; simpa using this, fun j x hx => hi.2 (j + 1) x (by simpa using hx)⟩
def RefP (v : Value) (y : RR) (hs : List Hd) (W : World) : Prop := ∃ A1 A2 A3 c1 c2 c3, v = RefV y A1 A2 A3 c1 c2 c3 ∧ (y.buf.length ≤ c1 ∧ y.inb.length ≤ c2 ∧ y.gaps.length ≤ c3) ∧ kIt.C W A1 y.buf.length y.buf ∧ Kd.string.C W A2 y.inb.length y.inb ∧ kH.C W A3 y.gaps.length hs ∧ InnerP W hs y.gaps
abbrev RefA (v : Value) (y : RR) (hs : List Hd) : As := Imm (RefP v y hs)
theorem m0 {α : Type} {a : α} {l : List α} : a ∈ a :: l := by simp
theorem m1 {α : Type} {a b0 : α} {l : List α} : a ∈ b0 :: a :: l := by simp
theorem m2 {α : Type} {a b0 b1 : α} {l : List α} : a ∈ b0 :: b1 :: a :: l := by simp
theorem m3 {α : Type} {a b0 b1 b2 : α} {l : List α} : a ∈ b0 :: b1 :: b2 :: a :: l := by simp
theorem m4 {α : Type} {a b0 b1 b2 b3 : α} {l : List α} : a ∈ b0 :: b1 :: b2 :: b3 :: a :: l := by simp
theorem m5 {α : Type} {a b0 b1 b2 b3 b4 : α} {l : List α} : a ∈ b0 :: b1 :: b2 :: b3 :: b4 :: a :: l := by simp
theorem m6 {α : Type} {a b0 b1 b2 b3 b4 b5 : α} {l : List α} : a ∈ b0 :: b1 :: b2 :: b3 :: b4 :: b5 :: a :: l := by simp
theorem m7 {α : Type} {a b0 b1 b2 b3 b4 b5 b6 : α} {l : List α} : a ∈ b0 :: b1 :: b2 :: b3 :: b4 :: b5 :: b6 :: a :: l := by simp
theorem m8 {α : Type} {a b0 b1 b2 b3 b4 b5 b6 b7 : α} {l : List α} : a ∈ b0 :: b1 :: b2 :: b3 :: b4 :: b5 :: b6 :: b7 :: a :: l := by simp
theorem cells7 {w0 W : World} {l : List As} {b t : Nat} {v0 v1 v2 v3 v4 v5 v6 : Value} (h : SL w0 W l) (hm : Blk b #[v0, v1, v2, v3, v4, v5, v6] t ∈ l) : (W.cell? ⟨b, 0, none⟩ = some v0 ∧ W.frozen? ⟨b, 0, none⟩ = false) ∧ (W.cell? ⟨b, 1, none⟩ = some v1 ∧ W.frozen? ⟨b, 1, none⟩ = false) ∧ (W.cell? ⟨b, 2, none⟩ = some v2 ∧ W.frozen? ⟨b, 2, none⟩ = false) ∧ (W.cell? ⟨b, 3, none⟩ = some v3 ∧ W.frozen? ⟨b, 3, none⟩ = false) ∧ (W.cell? ⟨b, 4, none⟩ = some v4 ∧ W.frozen? ⟨b, 4, none⟩ = false) ∧ (W.cell? ⟨b, 5, none⟩ = some v5 ∧ W.frozen? ⟨b, 5, none⟩ = false) ∧ (W.cell? ⟨b, 6, none⟩ = some v6 ∧ W.frozen? ⟨b, 6, none⟩ = false) := ⟨h.cell hm 0 rfl, h.cell hm 1 rfl, h.cell hm 2 rfl, h.cell hm 3 rfl, h.cell hm 4 rfl, h.cell hm 5 rfl, h.cell hm 6 rfl⟩
theorem set7 {w0 W : World} {l : List As} {b t : Nat} {u0 u1 u2 u3 u4 u5 u6 : Value} (v0 v1 v2 v3 v4 v5 v6 : Value) (h : SL w0 W (Blk b #[u0, u1, u2, u3, u4, u5, u6] t :: l)) : SL w0 (((((((W.setCell ⟨b, 0, none⟩ v0).setCell ⟨b, 1, none⟩ v1).setCell ⟨b, 2, none⟩ v2).setCell ⟨b, 3, none⟩ v3).setCell ⟨b, 4, none⟩ v4).setCell ⟨b, 5, none⟩ v5).setCell ⟨b, 6, none⟩ v6) (Blk b #[v0, v1, v2, v3, v4, v5, v6] t :: l) := (SL.set (cs' := #[v0, v1, v2, v3, v4, v5, v6]) (SL.set (cs' := #[v0, v1, v2, v3, v4, v5, u6]) (SL.set (cs' := #[v0, v1, v2, v3, v4, u5, u6]) (SL.set (cs' := #[v0, v1, v2, v3, u4, u5, u6]) (SL.set (cs' := #[v0, v1, v2, u3, u4, u5, u6]) (SL.set (cs' := #[v0, v1, u2, u3, u4, u5, u6]) (SL.set (cs' := #[v0, u1, u2, u3, u4, u5, u6]) h 0 v0 rfl) 1 v1 rfl) 2 v2 rfl) 3 v3 rfl) 4 v4 rfl) 5 v5 rfl) 6 v6 rfl)
theorem alc_size (w : World) (o : Obj) : (w.alloc o).heap.size = w.heap.size + 1 := by simp
theorem setc_size (w : World) (a : Addr) (v : Value) : (w.setCell a v).heap.size = w.heap.size := by simp [World.setCell]
theorem below_setc {w W : World} {p : Addr} (h : Below w.heap.size w W) (hp : w.heap.size ≤ p.block) (v : Value) : Below w.heap.size w (W.setCell p v) :=
  ⟨h.os, h.tape, h.output, by simp [World.setCell]; exact h.size, fun k hk => (Below.heap_setCell W p v k (by omega)).trans (h.block k hk)⟩
/-! ### What only reads -/
theorem drawn_below {w w' : World} (h : Drawn0 w w') : Below w.heap.size w w' := by
  obtain ⟨n, rfl⟩ := h.out
  exact pw_below_drewN (Below.refl _ _) n
theorem drawn_sl {w0 w w' : World} {l : List As} (h : Drawn0 w w') (HS : SL w0 w l) : SL w0 w' l := HS.below (drawn_below h)
theorem of1_f (a : Int) (h : -9223372036854775808 ≤ a ∧ a ≤ 9223372036854775807) : polliwogref01_Of.f a = some (lowN a) := by
  have e : Int.tmod a 16777216 = if 0 ≤ a then a % 16777216 else - ((-a) % 16777216) := by
    split
    · exact Int.tmod_eq_emod_of_nonneg ‹_›
    · have h2 : (-a).tmod 16777216 = (-a) % 16777216 := Int.tmod_eq_emod_of_nonneg (by omega)
      rw [Int.neg_tmod] at h2
      omega
  unfold polliwogref01_Of.f lowN wrap64
  rw [e]
  split <;> split <;> first | omega | (congr 1; done) | (congr 1; omega)
theorem to1_f (a b : Int) (h : -9223372036854775808 ≤ a ∧ a ≤ 9223372036854775807) (h2 : -9223372036854775808 ≤ b ∧ b ≤ 9223372036854775807) : polliwogref01_To.f a b = some (toN a b) := by
  unfold polliwogref01_To.f
  rw [of1_f b h2, of1_f a h]
  simp only [Option.bind_some]
  rw [of1_f _ (by unfold wrap64 lowN; omega)]
  simp only [Option.bind_some]
  unfold lowN toN wrap64
  congr 1
  omega
theorem of1_c {w0 W : World} {l : List As} (a : Int) (h : -9223372036854775808 ≤ a ∧ a ≤ 9223372036854775807) (HS : SL w0 W l) : Calls Try.prog 37 #[.int .i64 a] W fun e w' => e = .returned (.int .i64 (lowN a)) ∧ SL w0 w' l :=
  (polliwogref01_Of.calls a _ W (of1_f a h)).mono fun e w' h => ⟨h.1, drawn_sl h.2 HS⟩
theorem to1_c {w0 W : World} {l : List As} (a b : Int) (h : -9223372036854775808 ≤ a ∧ a ≤ 9223372036854775807) (h2 : -9223372036854775808 ≤ b ∧ b ≤ 9223372036854775807) (HS : SL w0 W l) : Calls Try.prog 46 #[.int .i64 a, .int .i64 b] W fun e w' => e = .returned (.int .i64 (toN a b)) ∧ SL w0 w' l :=
  (polliwogref01_To.calls a b _ W (to1_f a b h h2)).mono fun e w' h => ⟨h.1, drawn_sl h.2 HS⟩
theorem of12_f (a b : Int) (h : -9223372036854775808 ≤ b ∧ b ≤ 9223372036854775807) (ha : 0 ≤ a ∧ a < 4294967296) : polliwoglaw12_of.f a b = some (a == lowN b) := by
  unfold polliwoglaw12_of.f
  rw [of1_f b h]
  simp only [Option.bind_some]
  rw [show wrap64 a = a by unfold wrap64; omega]
theorem of12_c {w0 W : World} {l : List As} (a b : Int) (h : -9223372036854775808 ≤ b ∧ b ≤ 9223372036854775807) (ha : 0 ≤ a ∧ a < 4294967296) (HS : SL w0 W l) : Calls Try.prog 41 #[.int .u32 a, .int .i64 b] W fun e w' => e = .returned (.bool (a == lowN b)) ∧ SL w0 w' l :=
  (polliwoglaw12_of.calls a b _ W (of12_f a b h ha)).mono fun e w' h => ⟨h.1, drawn_sl h.2 HS⟩
/-- A number near another one. -/
def nearF (N : Int) (raw : Bool) (base : Int) : Int := if raw = true then lowN N else lowN (base + N % 64 - N / 64 % 4)
theorem nearF_range (N : Int) (raw : Bool) (base : Int) : 0 ≤ nearF N raw base ∧ nearF N raw base < 16777216 := by unfold nearF lowN; split <;> omega
theorem and63 (n : Int) : Go.bits .and .i64 n 63 = n % 64 := by
  have h127 : (BitVec.ofInt 64 63).toNat = 2 ^ 6 - 1 := by decide
  have key : (BitVec.ofInt 64 n &&& BitVec.ofInt 64 63).toNat = (n % ((2 ^ 64 : Nat) : Int)).toNat % 2 ^ 6 := by
    rw [BitVec.toNat_and, BitVec.toNat_ofInt, h127, Nat.and_two_pow_sub_one_eq_mod]
  show IntKind.i64.wrap ((BitVec.ofInt 64 n &&& BitVec.ofInt 64 63).toNat : Nat) = n % 64
  rw [key, IntKind.wrap_i64]
  omega
theorem and3 (n : Int) : Go.bits .and .i64 n 3 = n % 4 := by
  have h127 : (BitVec.ofInt 64 3).toNat = 2 ^ 2 - 1 := by decide
  have key : (BitVec.ofInt 64 n &&& BitVec.ofInt 64 3).toNat = (n % ((2 ^ 64 : Nat) : Int)).toNat % 2 ^ 2 := by
    rw [BitVec.toNat_and, BitVec.toNat_ofInt, h127, Nat.and_two_pow_sub_one_eq_mod]
  show IntKind.i64.wrap ((BitVec.ofInt 64 n &&& BitVec.ofInt 64 3).toNat : Nat) = n % 4
  rw [key, IntKind.wrap_i64]
  omega
theorem near_f (k N : Int) (raw : Bool) (m : ByteArray) (base : Int) (hN : -9223372036854775808 ≤ N ∧ N ≤ 9223372036854775807) (hb : 0 ≤ base ∧ base ≤ 1000000000) : polliwoglaw12_Act_near.f k N raw m base = some (nearF N raw base) := by
  unfold polliwoglaw12_Act_near.f nearF
  split
  · rw [of1_f N hN]; rfl
  · have e1 : Go.bits .and .i64 N 63 = N % 64 := and63 N
    have e2 : Go.bits .and .i64 (N / 64) 3 = N / 64 % 4 := and3 (N / 64)
    rw [e1, e2]
    have e3 : wrap64 (wrap64 (base + N % 64) - N / 64 % 4) = base + N % 64 - N / 64 % 4 := by unfold wrap64; omega
    rw [e3, of1_f _ (by omega)]
    rfl
theorem near_c {w0 W : World} {l : List As} (k N : Int) (raw : Bool) (m : ByteArray) (base : Int) (hN : -9223372036854775808 ≤ N ∧ N ≤ 9223372036854775807) (hb : 0 ≤ base ∧ base ≤ 1000000000) (HS : SL w0 W l) :
    Calls Try.prog 26 #[.agg #[.int .i64 k, .int .i64 N, .bool raw, .string m], .int .i64 base] W fun e w' => e = .returned (.int .i64 (nearF N raw base)) ∧ SL w0 w' l :=
  (polliwoglaw12_Act_near.calls k N raw m base _ W (near_f k N raw m base hN hb)).mono fun e w' h => ⟨h.1, HS.below h.2⟩
def cutF (m : ByteArray) : ByteArray := if (m.size : Int) > 5 then m.extract 0 5 else m
theorem cut_f (m : ByteArray) : polliwoglaw02_Cut.f m 5 = some (cutF m) := by
  unfold polliwoglaw02_Cut.f cutF
  split
  · rw [if_pos (by decide), if_pos (by omega)]; rfl
  · rfl
theorem cut_c {w0 W : World} {l : List As} (m : ByteArray) (HS : SL w0 W l) : Calls Try.prog 19 #[.string m, .int .i64 5] W fun e w' => e = .returned (.string (cutF m)) ∧ SL w0 w' l :=
  (polliwoglaw02_Cut.calls m 5 _ W (cut_f m)).mono fun e w' h => ⟨h.1, drawn_sl h.2 HS⟩
/-! ### Has, Missing -/
theorem has_l0 (l : List It) (n : Int) (hl : l.length ≤ 1000000) : ∀ (k i : Nat), i ≤ l.length → l.length < k + i → polliwogref12_Has.l0 k n l (l.length : Int) (i : Int) = some (hasR (l.drop i) n)
  | 0, i, h1, h2 => absurd h2 (by omega)
  | k + 1, i, h1, h2 => by
    unfold polliwogref12_Has.l0
    by_cases hi : i < l.length
    · rw [if_pos (by omega), if_pos (by omega), if_pos (by omega)]
      have e : rd_T98 l (i : Int) = l[i] := by
        unfold rd_T98
        rw [Int.toNat_natCast, List.getD_eq_getElem?_getD, List.getElem?_eq_getElem hi]
        rfl
      rw [e, List.drop_eq_getElem_cons hi]
      unfold hasR
      rw [List.any_cons]
      by_cases hn : l[i].f0 = n
      · rw [if_pos hn, hn, BEq.rfl, Bool.true_or]
      · rw [if_neg hn, show wrap64 ((i : Int) + 1) = ((i + 1 : Nat) : Int) by unfold wrap64; omega, has_l0 l n hl k (i + 1) (by omega) (by omega)]
        rw [show (l[i].f0 == n) = false by simpa using hn, Bool.false_or]
        rfl
    · rw [if_neg (by omega), List.drop_eq_nil_of_le (by omega)]
      rfl
theorem has_c {w0 W : World} {l : List As} {v : Value} {y : RR} {hd : List Hd} (hy : y.buf.length ≤ 1000000) (n : Int) (HS : SL w0 W l) (hm : RefA v y hd ∈ l) :
    Calls Try.prog 47 #[v, .int .i64 n] W fun e w' => e = .returned (.bool (hasR y.buf n)) ∧ SL w0 w' l := by
  obtain ⟨A1, A2, A3, c1, c2, c3, rfl, ⟨h1, h2, h3⟩, h4, h5, h6, h7⟩ := HS.know hm
  refine (polliwogref12_Has.calls (y.buf.length + 1) y.R y.H y.MR y.W A1 c1 y.buf A2 c2 y.inb A3 c3 y.gaps n _ W h4 h1 h5 h2 (gs_of h6 h7) h3 (has_l0 y.buf n hy (y.buf.length + 1) 0 (Nat.zero_le _) (by omega))).mono ?_
  rintro e w' ⟨rfl, hb⟩
  exact ⟨rfl, HS.below hb⟩
theorem miss_l0 (y : RR) (hy : y.Ok) : ∀ (j : Nat) (k i : Nat) (o : List Int), i + j = (y.H - y.R).toNat → j + y.buf.length + 2 ≤ k → o.length ≤ i →
    polliwogref12_Missing.l0 k o (y.R + i) y.R y.H y.MR y.W y.buf y.inb y.gaps = some (o ++ ((List.range' i j).map fun i : Nat => y.R + (i : Int)).filter fun n => !hasR y.buf n)
  | 0, 0, i, o, h1, h2, h3 => absurd h2 (by omega)
  | 0, k + 1, i, o, h1, h2, h3 => by
    have hH := hy.H
    unfold polliwogref12_Missing.l0
    rw [if_neg (by omega)]
    simp
  | j + 1, 0, i, o, h1, h2, h3 => absurd h2 (by omega)
  | j + 1, k + 1, i, o, h1, h2, h3 => by
    have hH := hy.H
    have hR := hy.R
    have hq : polliwogref12_Has.f k y.R y.H y.MR y.W y.buf y.inb y.gaps (y.R + i) = some (hasR y.buf (y.R + i)) := has_l0 y.buf _ hy.buf k 0 (Nat.zero_le _) (by omega)
    unfold polliwogref12_Missing.l0
    rw [if_pos (by omega), hq]
    simp only [Option.bind_some]
    have e1 : wrap64 (y.R + (i : Int) + 1) = y.R + ((i + 1 : Nat) : Int) := by unfold wrap64; omega
    rw [e1, List.range'_succ, List.map_cons, List.filter_cons]
    cases hb : hasR y.buf (y.R + i) with
    | true =>
      rw [if_pos rfl, miss_l0 y hy j k (i + 1) o (by omega) (by omega) (by omega)]
      simp
    | false =>
      rw [if_neg (by simp), if_pos (by omega), miss_l0 y hy j k (i + 1) (o ++ [y.R + i]) (by omega) (by omega) (by simp; omega)]
      simp
theorem miss_f (y : RR) (hy : y.Ok) : polliwogref12_Missing.f ((y.H - y.R).toNat + y.buf.length + 2) y.R y.H y.MR y.W y.buf y.inb y.gaps = some (missR y) := by
  have h := miss_l0 y hy (y.H - y.R).toNat ((y.H - y.R).toNat + y.buf.length + 2) 0 [] (by omega) (by omega) (Nat.le_refl _)
  unfold missR
  rw [List.range_eq_range']
  rw [List.nil_append] at h
  rw [← h]
  unfold polliwogref12_Missing.f
  congr 1
  omega
theorem miss_i {w0 W : World} {l : List As} {v : Value} {y : RR} {hd : List Hd} {Φ : World → Prop} (hy : y.Ok) (HS : SL w0 W l) (hm : Imm Φ ∈ l) (hΦ : ∀ W, Φ W → RefP v y hd W) :
    Calls Try.prog 43 #[v] W fun e w' => ∃ v, e = .returned v ∧ SL w0 w' (Row (Kd.int .i64) 3 v (missR y) :: l) := by
  obtain ⟨A1, A2, A3, c1, c2, c3, rfl, ⟨h1, h2, h3⟩, h4, h5, h6, h7⟩ := hΦ _ (HS.know hm)
  refine (polliwogref12_Missing.calls _ y.R y.H y.MR y.W A1 c1 y.buf A2 c2 y.inb A3 c3 y.gaps _ W h4 h1 h5 h2 (gs_of h6 h7) h3 (miss_f y hy)).mono ?_
  rintro e w' ⟨v0, rfl, hr, hb⟩
  exact ⟨v0, rfl, HS.addRow hb hr⟩
theorem miss_c {w0 W : World} {l : List As} {v : Value} {y : RR} {hd : List Hd} (hy : y.Ok) (HS : SL w0 W l) (hm : RefA v y hd ∈ l) :
    Calls Try.prog 43 #[v] W fun e w' => ∃ v, e = .returned v ∧ SL w0 w' (Row (Kd.int .i64) 3 v (missR y) :: l) := miss_i hy HS hm (fun _ h => h)
theorem toList_inj {a b : ByteArray} (h : a.toList = b.toList) : a = b := by
  rw [ByteArray.toList_eq, ByteArray.toList_eq] at h
  exact ByteArray.ext (Array.ext' h)
/-- Are messages these? -/
theorem same_l0 (l0 l1 : List ByteArray) (hl : l0.length = l1.length) (hm : l0.length ≤ 1000000) : ∀ (k i : Nat), i ≤ l0.length → l0.length < k + i → (∀ j, j < i → l0[j]? = l1[j]?) → polliwoglaw12_same.l0 k l0 l1 (l0.length : Int) (i : Int) = some (decide (l0 = l1))
  | 0, i, h1, h2, _ => absurd h2 (by omega)
  | k + 1, i, h1, h2, h3 => by
    unfold polliwoglaw12_same.l0
    by_cases hi : i < l0.length
    · rw [if_pos (by omega), if_pos (by omega), if_pos (by omega), if_pos (by omega)]
      have hi1 : i < l1.length := by omega
      have e0 : rdOf ByteArray.empty l0 (i : Int) = l0[i] := by unfold rdOf; rw [Int.toNat_natCast, List.getD_eq_getElem?_getD, List.getElem?_eq_getElem hi]; rfl
      have e1 : rdOf ByteArray.empty l1 (i : Int) = l1[i] := by unfold rdOf; rw [Int.toNat_natCast, List.getD_eq_getElem?_getD, List.getElem?_eq_getElem hi1]; rfl
      rw [e0, e1]
      by_cases he : l0[i] = l1[i]
      · rw [if_pos (by rw [he]), show wrap64 ((i : Int) + 1) = ((i + 1 : Nat) : Int) by unfold wrap64; omega]
        refine same_l0 l0 l1 hl hm k (i + 1) (by omega) (by omega) (fun j hj => ?_)
        by_cases hji : j < i
        · exact h3 j hji
        · obtain rfl : j = i := by omega
          rw [List.getElem?_eq_getElem hi, List.getElem?_eq_getElem hi1, he]
      · rw [if_neg (fun h => he (toList_inj h))]
        congr 1
        refine (decide_eq_false (fun h => he ?_)).symm
        subst h
        rfl
    · rw [if_neg (by omega)]
      congr 1
      refine (decide_eq_true (List.ext_getElem? (fun j => ?_))).symm
      by_cases hj : j < i
      · exact h3 j hj
      · rw [List.getElem?_eq_none (by omega), List.getElem?_eq_none (by omega)]
theorem same_f (l0 l1 : List ByteArray) (hm : l0.length ≤ 1000000) : polliwoglaw12_same.f (l0.length + 1) l0 l1 = some (decide (l0 = l1)) := by
  unfold polliwoglaw12_same.f
  by_cases h : (l0.length : Int) = (l1.length : Int)
  · rw [if_pos h]
    exact same_l0 l0 l1 (by omega) hm (l0.length + 1) 0 (Nat.zero_le _) (by omega) (fun j hj => absurd hj (Nat.not_lt_zero _))
  · rw [if_neg h]
    congr 1
    refine (decide_eq_false (fun e => h ?_)).symm
    rw [e]
theorem same_c {w0 W : World} {l : List As} {A0 A1 : Option Addr} {n0 n1 c0 c1 : Nat} {l0 l1 : List ByteArray} (hm : l0.length ≤ 1000000) (h0 : Kd.string.C W A0 l0.length l0) (hc0 : l0.length ≤ c0) (h1 : Kd.string.C W A1 l1.length l1) (hc1 : l1.length ≤ c1) (e0 : n0 = l0.length) (e1 : n1 = l1.length) (HS : SL w0 W l) :
    Calls Try.prog 20 #[.slice A0 n0 c0, .slice A1 n1 c1] W fun e w' => e = .returned (.bool (decide (l0 = l1))) ∧ SL w0 w' l := by
  subst e0
  subst e1
  exact (polliwoglaw12_same.calls (l0.length + 1) A0 c0 l0 A1 c1 l1 _ W h0 hc0 h1 hc1 (same_f l0 l1 hm)).mono fun e w' h => ⟨h.1, drawn_sl h.2 HS⟩
end Go.Proofs.Ytiiljdglbfgdbaa.Rcv
/-! The document's receiver: Renew, Poll. -/
namespace Go.Proofs.Ytiiljdglbfgdbaa.Rcv
open Go Go.RowKit Go.Proofs.YtiiljdglbfgdbaaW.PrintWords Go.Proofs.YtiiljdglbfgdbaaW.PrintLast Go.Proofs.YtiiljdglbfgdbaaW.PrintMore Go.Proofs.Ytiiljdglbfgdbaa Go.Proofs.Ytiiljdglbfgdbaa.Sl Go.Proofs.Ytiiljdglbfgdbaa.S
theorem RefP.re {y z : RR} {hd : List Hd} {A1 A2 A3 : Option Addr} {c1 c2 c3 : Nat} {W : World} (h : RefP (RefV y A1 A2 A3 c1 c2 c3) y hd W) (h1 : z.buf = y.buf) (h2 : z.inb = y.inb) (h3 : z.gaps = y.gaps) : RefP (RefV z A1 A2 A3 c1 c2 c3) z hd W := by
  obtain ⟨B1, B2, B3, d1, d2, d3, e, h⟩ := h
  unfold RefV at e
  simp only [Value.agg.injEq, Array.mk.injEq, List.cons.injEq, Value.slice.injEq, and_true, true_and] at e
  obtain ⟨⟨rfl, rfl⟩, ⟨rfl, rfl⟩, rfl, rfl⟩ := e
  refine ⟨A1, A2, A3, c1, c2, c3, rfl, ?_⟩
  rw [h1, h2, h3]
  exact h
attribute [local go_sem] max2_int min2_int max_two min_two
set_option maxHeartbeats 2000000 in
set_option maxRecDepth 100000 in
theorem of1_s (a : Int) (h : -9223372036854775808 ≤ a ∧ a ≤ 9223372036854775807) (w : World) : Calls Try.prog 37 #[.int .i64 a] w fun e w' => e = .returned (.int .i64 (lowN a)) ∧ w' = w := by
  have HF := Aside0.mk (of1_f a h)
  clear h
  unfold polliwogref01_Of.f at HF
  by_cases c : Int.tmod a 16777216 < 0
  · rw [if_pos c] at HF
    have hd : decide (Int.tmod a 16777216 < 0) = true := decide_eq_true c
    clear c
    go_enter Try.func37, Try.ntmps37
    go_wp2
    go_ret
    exact ⟨ret_int (Option.some.inj HF.out), rfl⟩
  · rw [if_neg c] at HF
    have hd : decide (Int.tmod a 16777216 < 0) = false := decide_eq_false c
    clear c
    go_enter Try.func37, Try.ntmps37
    go_wp2
    go_ret
    exact ⟨ret_int (Option.some.inj HF.out), rfl⟩
set_option maxHeartbeats 2000000 in
set_option maxRecDepth 100000 in
theorem to1_s (a b : Int) (h : -9223372036854775808 ≤ a ∧ a ≤ 9223372036854775807) (h2 : -9223372036854775808 ≤ b ∧ b ≤ 9223372036854775807) (w : World) : Calls Try.prog 46 #[.int .i64 a, .int .i64 b] w fun e w' => e = .returned (.int .i64 (toN a b)) ∧ w' = w := by
  have e : wrap64 (lowN b - lowN a) = lowN b - lowN a := by unfold wrap64 lowN; omega
  have e2 : lowN (lowN b - lowN a) = toN a b := by unfold lowN toN; omega
  have H1 := Aside0.mk (of1_s a h)
  have H2 := Aside0.mk (of1_s b h2)
  have H3 := Aside0.mk (of1_s (lowN b - lowN a) (by unfold lowN; omega))
  rw [e2] at H3
  clear h h2 e2
  go_enter Try.func46, Try.ntmps46
  go_wp2_with (first
    | (go_at_call 37; (with_reducible refine (H2.out _).mono ?_); rintro e w1 ⟨rfl, rfl⟩; skip)
    | (go_at_call 37; (with_reducible refine (H1.out _).mono ?_); rintro e w1 ⟨rfl, rfl⟩; skip)
    | (go_at_call 37; (with_reducible refine (H3.out _).mono ?_); rintro e w1 ⟨rfl, rfl⟩; skip))
  go_ret
  exact ⟨rfl, rfl⟩
set_option maxHeartbeats 2000000 in
set_option maxRecDepth 100000 in
theorem renewR_c {w0 W : World} {l : List As} {v : Value} {y : RR} {hd : List Hd} (hy : y.Ok) (HS : SL w0 W (RefA v y hd :: l)) :
    Calls Try.prog 40 #[v] W fun e w' => ∃ v', e = .returned v' ∧ SL w0 w' (RefA v' (renewR y) hd :: l) := by
  obtain ⟨A1, A2, A3, c1, c2, c3, rfl, hh⟩ := HS.know (.head _)
  have HS := Aside0.mk HS
  have HH := Aside0.mk hh
  clear hh
  have hu := Try.underlying52
  have e1 : wrap64 (wrap64 (y.R + y.W) - (y.inb.length : Int)) = y.R + y.W - y.inb.length := by have := hy.R; have := hy.W; have := hy.inb; unfold wrap64; omega
  unfold RefV
  go_enter Try.func40, Try.ntmps40
  go_wp2_with fail
  case inr =>
    have h2 : renewR y = { y with MR := y.MR } := by unfold renewR; rw [Int.max_eq_left h]
    refine bodyPost_ret (v := RefV { y with MR := y.MR } A1 A2 A3 c1 c2 c3) (by simp [results, Try.results40, go_sem, RefV]) rfl ⟨_, rfl, ?_⟩
    rw [h2]
    (with_reducible repeat (first | apply SL.alloc | apply SL.drewN | apply SL.drew))
    exact SL.imm_mono HS.out (fun W h => RefP.re h rfl rfl rfl)
  case inl =>
    have h2 : renewR y = { y with MR := y.R + y.W - y.inb.length } := by unfold renewR; rw [Int.max_eq_right (Int.le_of_lt h)]
    refine bodyPost_ret (v := RefV { y with MR := y.R + y.W - y.inb.length } A1 A2 A3 c1 c2 c3) (by simp [results, Try.results40, go_sem, RefV]) rfl ⟨_, rfl, ?_⟩
    rw [h2]
    (with_reducible repeat (first | apply SL.alloc | apply SL.drewN | apply SL.drew))
    exact SL.imm_mono HS.out (fun W h => RefP.re h rfl rfl rfl)
set_option maxHeartbeats 2000000 in
set_option maxRecDepth 100000 in
theorem pollR_c {w0 W : World} {l : List As} {v : Value} {y : RR} {hd : List Hd} (hy : y.Ok) (n : Int) (hn : 0 ≤ n ∧ n < 16777216) (HS : SL w0 W (RefA v y hd :: l)) :
    Calls Try.prog 38 #[v, .int .i64 n] W fun e w' => ∃ v', e = .returned (.tuple #[v', .bool (pollR y n).2]) ∧ SL w0 w' (RefA v' (pollR y n).1 hd :: l) := by
  obtain ⟨A1, A2, A3, c1, c2, c3, rfl, hh⟩ := HS.know (.head _)
  have HS := Aside0.mk HS
  have HH := Aside0.mk hh
  clear hh
  have hu := Try.underlying52
  have hT : Aside0 (∀ w, Calls Try.prog 46 #[.int .i64 y.R, .int .i64 n] w fun e w' => e = .returned (.int .i64 (toN y.R n)) ∧ w' = w) := ⟨fun w => to1_s _ _ (by have := hy.R; omega) (by omega) w⟩
  have e1 : wrap64 (y.R + toN y.R n) = y.R + toN y.R n := by have := hy.R; unfold wrap64 toN; omega
  unfold RefV
  go_enter Try.func38, Try.ntmps38
  go_wp2_with fail
  go_quiet ((first | (go_at_call 46; with_reducible exact Calls.quiet_of_same (hT.out _))))
  rw [e1]
  obtain ⟨s, hs⟩ : ∃ s, y.R + toN y.R n = s := ⟨_, rfl⟩
  have HP := Aside0.mk (show pollR y n = if s < y.H ∨ s > y.MR then (y, false) else ({ y with H := s }, true) by unfold pollR; rw [hs])
  rw [hs]
  clear hT hs e1 hy
  by_cases g1 : s < y.H
  · have p1 : decide (s < y.H) = true := decide_eq_true g1
    have HP2 := Aside0.mk (HP.out.trans (if_pos (Or.inl g1)))
    clear HP g1
    go_wp2_with fail
    refine bodyPost_ret (v := .tuple #[RefV y A1 A2 A3 c1 c2 c3, .bool false]) (by simp [results, Try.results38, go_sem, RefV]) rfl ⟨_, by rw [HP2.out], ?_⟩
    rw [HP2.out]
    refine SL.below HS.out ?_
    (with_reducible repeat (first | exact Below.refl _ _ | refine below_alloc ?_ _ | refine pw_below_drewN ?_ _ | refine below_drew ?_ | refine below_setc ?_ (by first | exact Nat.le_refl _ | exact Nat.le_add_right _ _ | (simp only []; omega)) _))
  · have p1 : decide (s < y.H) = false := decide_eq_false g1
    by_cases g2 : s > y.MR
    · have p2 : decide (s > y.MR) = true := decide_eq_true g2
      have HP2 := Aside0.mk (HP.out.trans (if_pos (Or.inr g2)))
      clear HP g1 g2
      go_wp2_with fail
      refine bodyPost_ret (v := .tuple #[RefV y A1 A2 A3 c1 c2 c3, .bool false]) (by simp [results, Try.results38, go_sem, RefV]) rfl ⟨_, by rw [HP2.out], ?_⟩
      rw [HP2.out]
      refine SL.below HS.out ?_
      (with_reducible repeat (first | exact Below.refl _ _ | refine below_alloc ?_ _ | refine pw_below_drewN ?_ _ | refine below_drew ?_ | refine below_setc ?_ (by first | exact Nat.le_refl _ | exact Nat.le_add_right _ _ | (simp only []; omega)) _))
    · have p2 : decide (s > y.MR) = false := decide_eq_false g2
      have HP2 := Aside0.mk (HP.out.trans (if_neg (not_or.2 ⟨g1, g2⟩)))
      clear HP g1 g2
      go_wp2_with fail
      refine bodyPost_ret (v := .tuple #[RefV { y with H := s } A1 A2 A3 c1 c2 c3, .bool true]) (by simp [results, Try.results38, go_sem, RefV]) rfl ⟨_, by rw [HP2.out], ?_⟩
      rw [HP2.out]
      refine SL.below (SL.imm_mono HS.out (fun W h => RefP.re h rfl rfl rfl)) ?_
      (with_reducible repeat (first | exact Below.refl _ _ | refine below_alloc ?_ _ | refine pw_below_drewN ?_ _ | refine below_drew ?_ | refine below_setc ?_ (by first | exact Nat.le_refl _ | exact Nat.le_add_right _ _ | (simp only []; omega)) _))
end Go.Proofs.Ytiiljdglbfgdbaa.Rcv
