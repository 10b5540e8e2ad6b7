-- Printed for this claim by wip/tools/pp.py (a session's program, over the kit's print with hand-made functions let in). Not trusted: Lean checks it.
import Derived.Test.YtihobchcmfamaaaS0
import Derived.Test.YtihobchcmfamaaaS4
import Derived.Test.YtihobchcmfamaaaS5
import Derived.Test.YtihobchcmfamaaaS7
import Derived.Test.YtihobchcmfamaaaS9
import Derived.Test.YtihobchcmfamaaaS10
import Derived.Test.YtihobchcmfamaaaS15
import Derived.Test.YtihobchcmfamaaaS34
namespace Go.Proofs.Ytihobchcmfamaaa.S
open Go.RowKit Go.Proofs.YtihobchcmfamaaaW.PrintWords Go.Proofs.YtihobchcmfamaaaW.PrintLast Go.Proofs.YtihobchcmfamaaaW.PrintMore
attribute [local go_sem] max2_int min2_int max_two min_two max_three min_three max_four min_four   -- for this text's walks alone
set_option linter.unusedVariables false
set_option linter.unusedSimpArgs false

/-! ### polliwoglaw09_GapsEmpty: function 10 -/
def polliwoglaw09_GapsEmpty.f (k : Nat) (a0 : Int) (a1 : Int) : Option (Bool) := (polliwoglaw09_awake.f k).bind fun t539 => (if t539 = true then ((seq_Num_Low.f a0).bind fun t540 => ((span_Of.f k (([(⟨(mx 1 (mn a1 300)) - 1, mx 1 (mn a1 300)⟩ : S45)] : List (S45)))).bind fun t544 => ((gaps_List.f k t540 t544).bind fun t547 => ((span_Of.f k (([(⟨0, mx 1 (mn a1 300)⟩ : S45)] : List (S45)))).bind fun t553 => ((gaps_List.f k t540 t553).bind fun t556 => ((seq_Num_Add.f t540 (mx 1 (mn a1 300))).bind fun t559 => ((gaps_Set.f k t540 t559 t556).bind fun bt560 => ((seq_Num_Add.f t540 ((mx 1 (mn a1 300)) - 1)).bind fun t564 => ((gaps_Set.f k t540 t564 t556).bind fun bt565 => ((gaps_Set.f k t540 t540 ([] : List Int)).bind fun bt569 => ((gaps_List.f k t540 ([] : List (S45))).bind fun t573 => (if (t573.length : Int) = 0 then (if (t547.length : Int) = 2 then (if 0 < (t547.length : Int) then ((seq_Num_Add.f (rd t547 0) 1).bind fun t577 => (if 1 < (t547.length : Int) then (if t577 = (rd t547 1) then ((seq_Num_Add.f t540 ((mx 1 (mn a1 300)) - 1)).bind fun t580 => (if (rd t547 0) = t580 then (if (t556.length : Int) = 2 then (if bt560.2 = true then ((span_Set_Len.f k bt560.1).bind fun t581 => (if t581 = (mx 1 (mn a1 300)) then (if bt565.2 = true then (none) else (if bt569.2 = true then ((span_Set_Len.f k bt569.1).bind fun t582 => (if t582 = 0 then ((gaps_Count.f t556).bind fun t583 => (some (t583 == (mx 1 (mn a1 300))))) else (none))) else (none))) else (none))) else (none)) else (none)) else (none))) else (none)) else (none))) else (none)) else (none)) else (none))))))))))))) else (none))
theorem polliwoglaw09_GapsEmpty.mono : ∀ a0 a1 k, LeO (polliwoglaw09_GapsEmpty.f k a0 a1) (polliwoglaw09_GapsEmpty.f (k + 1) a0 a1) := by
  intro a0 a1 k
  unfold polliwoglaw09_GapsEmpty.f
  repeat' first
      | (with_reducible exact gaps_List.mono _ _ _)
      | (with_reducible exact gaps_Set.mono _ _ _ _)
      | (with_reducible exact polliwoglaw09_awake.mono _)
      | (with_reducible exact span_Of.mono _ _)
      | (with_reducible exact span_Set_Len.mono _ _)
      | (with_reducible exact LeO.refl _)
      | (with_reducible exact LeO.none _)
      | (with_reducible refine LeO.ite ?_ ?_)
      | (with_reducible refine LeO.bind ?_ (fun _ => ?_))
      | exact gaps_List.mono _ _ _
      | exact gaps_Set.mono _ _ _ _
      | exact polliwoglaw09_awake.mono _
      | exact span_Of.mono _ _
      | exact span_Set_Len.mono _ _
      | exact LeO.none _
      | refine LeO.ite ?_ ?_
      | refine LeO.bind ?_ (fun _ => ?_)
def polliwoglaw09_GapsEmpty.T10 : Bool × List (List Nat × List Nat) := (true, [([], []), ([0], [0]), ([1], [1]), ([2], [2]), ([3, 1], [3]), ([4], [4]), ([5, 4], [4, 5]), ([6, 4], [4, 6]), ([4, 7], [4, 7]), ([8, 4], [8]), ([9], [9]), ([10, 9], [9, 10]), ([11, 9], [9, 11]), ([12, 9, 9], [9, 12]), ([9], [9]), ([14, 9], [9, 14]), ([15, 9], [9, 15]), ([13, 16, 9], [9, 13, 16]), ([9, 17], [9, 17]), ([18, 13], [18]), ([19], [19]), ([20, 19], [19, 20]), ([21, 19], [19, 21]), ([19], [19]), ([19], [19]), ([24, 19], [19, 24]), ([23, 25, 19, 19], [19, 23, 25]), ([22, 26, 19], [19, 22, 26]), ([19, 27], [19, 27]), ([28, 26], [28]), ([29], [29]), ([30, 29], [29, 30]), ([31, 29], [29, 31]), ([29, 32], [29, 32]), ([33, 29], [33]), ([34], [34]), ([34, 35], [34, 35]), ([36, 34], [36]), ([37], [37]), ([38, 37, 37], [37, 38]), ([37], [37]), ([39, 40, 37], [37, 39, 40]), ([37, 41], [37, 41]), ([42, 39], [42]), ([43], [43]), ([44, 43], [43, 44]), ([43, 45], [43, 45]), ([46, 43], [46]), ([47], [47]), ([47, 48], [47, 48]), ([49, 47], [49]), ([50], [50]), ([51, 50, 50], [50, 51]), ([52, 50], [50, 52]), ([50, 53], [50, 53]), ([54, 52], [54]), ([55], [55]), ([56, 55, 55], [55, 56]), ([55], [55]), ([57, 58, 55], [55, 57, 58]), ([55, 59], [55, 59]), ([60, 57, 0, 1, 2, 3, 4, 5, 6, 7, 8, 9, 10, 11, 12, 13, 14, 15, 16, 17, 18, 19, 20, 21, 22, 23, 24, 25, 26, 27, 28, 29, 30, 31, 32, 33, 34, 35, 36, 37, 38, 39, 40, 41, 42, 43, 44, 45, 46, 47, 48, 49, 50, 51, 52, 53, 54, 55, 56, 57, 58, 59, 60], [60])])
def polliwoglaw09_GapsEmpty.B10 : List Nat := [0, 1, 3, 7, 15, 31, 63, 127, 255, 511, 1023, 2047, 4095, 8191, 1023, 17407, 50175, 131071, 262143, 524287, 1048575, 2097151, 4194303, 1048575, 1048575, 17825791, 59768831, 134217727, 268435455, 536870911, 1073741823, 2147483647, 4294967295, 8589934591, 17179869183, 34359738367, 68719476735, 137438953471, 274877906943, 549755813887, 274877906943, 2199023255551, 4398046511103, 8796093022207, 17592186044415, 35184372088831, 70368744177663, 140737488355327, 281474976710655, 562949953421311, 1125899906842623, 2251799813685247, 4503599627370495, 9007199254740991, 18014398509481983, 36028797018963967, 72057594037927935, 144115188075855871, 72057594037927935, 576460752303423487, 1152921504606846975, 2305843009213693951]
theorem polliwoglaw09_GapsEmpty.tab10 : rtab .any (opsOf Try.f10 10) = polliwoglaw09_GapsEmpty.T10 := by kernel_rfl
theorem polliwoglaw09_GapsEmpty.bits10 : waitsOk polliwoglaw09_GapsEmpty.T10.2 polliwoglaw09_GapsEmpty.B10 = true := by kernel_rfl
set_option maxHeartbeats 8000000 in
set_option maxRecDepth 100000 in
theorem polliwoglaw09_GapsEmpty.calls (k : Nat) (a0 : Int) (a1 : Int) (r : Bool) (w : World) (h : polliwoglaw09_GapsEmpty.f k a0 a1 = some r) :
    Calls Try.prog 10 #[.int .u32 a0, .int .i64 a1] w fun e w' => e = .returned (.bool r) ∧ Below w.heap.size w w' := by
  have hu45 := Try.underlying45
  have HB := Aside0.mk (Below.refl w.heap.size w)
  have H : ((polliwoglaw09_awake.f k).bind fun t539 => (if t539 = true then ((seq_Num_Low.f a0).bind fun t540 => ((span_Of.f k (([(⟨(mx 1 (mn a1 300)) - 1, mx 1 (mn a1 300)⟩ : S45)] : List (S45)))).bind fun t544 => ((gaps_List.f k t540 t544).bind fun t547 => ((span_Of.f k (([(⟨0, mx 1 (mn a1 300)⟩ : S45)] : List (S45)))).bind fun t553 => ((gaps_List.f k t540 t553).bind fun t556 => ((seq_Num_Add.f t540 (mx 1 (mn a1 300))).bind fun t559 => ((gaps_Set.f k t540 t559 t556).bind fun bt560 => ((seq_Num_Add.f t540 ((mx 1 (mn a1 300)) - 1)).bind fun t564 => ((gaps_Set.f k t540 t564 t556).bind fun bt565 => ((gaps_Set.f k t540 t540 ([] : List Int)).bind fun bt569 => ((gaps_List.f k t540 ([] : List (S45))).bind fun t573 => (if (t573.length : Int) = 0 then (if (t547.length : Int) = 2 then (if 0 < (t547.length : Int) then ((seq_Num_Add.f (rd t547 0) 1).bind fun t577 => (if 1 < (t547.length : Int) then (if t577 = (rd t547 1) then ((seq_Num_Add.f t540 ((mx 1 (mn a1 300)) - 1)).bind fun t580 => (if (rd t547 0) = t580 then (if (t556.length : Int) = 2 then (if bt560.2 = true then ((span_Set_Len.f k bt560.1).bind fun t581 => (if t581 = (mx 1 (mn a1 300)) then (if bt565.2 = true then (none) else (if bt569.2 = true then ((span_Set_Len.f k bt569.1).bind fun t582 => (if t582 = 0 then ((gaps_Count.f t556).bind fun t583 => (some (t583 == (mx 1 (mn a1 300))))) else (none))) else (none))) else (none))) else (none)) else (none)) else (none))) else (none)) else (none))) else (none)) else (none)) else (none))))))))))))) else (none))) = some r := h
  clear h
  replace H := Option.bind_eq_some_iff.mp H
  obtain ⟨t539, A30, H⟩ := H
  replace H : (if t539 = true then ((seq_Num_Low.f a0).bind fun t540 => ((span_Of.f k (([(⟨(mx 1 (mn a1 300)) - 1, mx 1 (mn a1 300)⟩ : S45)] : List (S45)))).bind fun t544 => ((gaps_List.f k t540 t544).bind fun t547 => ((span_Of.f k (([(⟨0, mx 1 (mn a1 300)⟩ : S45)] : List (S45)))).bind fun t553 => ((gaps_List.f k t540 t553).bind fun t556 => ((seq_Num_Add.f t540 (mx 1 (mn a1 300))).bind fun t559 => ((gaps_Set.f k t540 t559 t556).bind fun bt560 => ((seq_Num_Add.f t540 ((mx 1 (mn a1 300)) - 1)).bind fun t564 => ((gaps_Set.f k t540 t564 t556).bind fun bt565 => ((gaps_Set.f k t540 t540 ([] : List Int)).bind fun bt569 => ((gaps_List.f k t540 ([] : List (S45))).bind fun t573 => (if (t573.length : Int) = 0 then (if (t547.length : Int) = 2 then (if 0 < (t547.length : Int) then ((seq_Num_Add.f (rd t547 0) 1).bind fun t577 => (if 1 < (t547.length : Int) then (if t577 = (rd t547 1) then ((seq_Num_Add.f t540 ((mx 1 (mn a1 300)) - 1)).bind fun t580 => (if (rd t547 0) = t580 then (if (t556.length : Int) = 2 then (if bt560.2 = true then ((span_Set_Len.f k bt560.1).bind fun t581 => (if t581 = (mx 1 (mn a1 300)) then (if bt565.2 = true then (none) else (if bt569.2 = true then ((span_Set_Len.f k bt569.1).bind fun t582 => (if t582 = 0 then ((gaps_Count.f t556).bind fun t583 => (some (t583 == (mx 1 (mn a1 300))))) else (none))) else (none))) else (none))) else (none)) else (none)) else (none))) else (none)) else (none))) else (none)) else (none)) else (none))))))))))))) else (none)) = some r := H
  have A3 := Aside0.mk A30
  clear A30
  by_cases c4 : t539 = true
  · subst c4
    have H1 : ((seq_Num_Low.f a0).bind fun t540 => ((span_Of.f k (([(⟨(mx 1 (mn a1 300)) - 1, mx 1 (mn a1 300)⟩ : S45)] : List (S45)))).bind fun t544 => ((gaps_List.f k t540 t544).bind fun t547 => ((span_Of.f k (([(⟨0, mx 1 (mn a1 300)⟩ : S45)] : List (S45)))).bind fun t553 => ((gaps_List.f k t540 t553).bind fun t556 => ((seq_Num_Add.f t540 (mx 1 (mn a1 300))).bind fun t559 => ((gaps_Set.f k t540 t559 t556).bind fun bt560 => ((seq_Num_Add.f t540 ((mx 1 (mn a1 300)) - 1)).bind fun t564 => ((gaps_Set.f k t540 t564 t556).bind fun bt565 => ((gaps_Set.f k t540 t540 ([] : List Int)).bind fun bt569 => ((gaps_List.f k t540 ([] : List (S45))).bind fun t573 => (if (t573.length : Int) = 0 then (if (t547.length : Int) = 2 then (if 0 < (t547.length : Int) then ((seq_Num_Add.f (rd t547 0) 1).bind fun t577 => (if 1 < (t547.length : Int) then (if t577 = (rd t547 1) then ((seq_Num_Add.f t540 ((mx 1 (mn a1 300)) - 1)).bind fun t580 => (if (rd t547 0) = t580 then (if (t556.length : Int) = 2 then (if bt560.2 = true then ((span_Set_Len.f k bt560.1).bind fun t581 => (if t581 = (mx 1 (mn a1 300)) then (if bt565.2 = true then (none) else (if bt569.2 = true then ((span_Set_Len.f k bt569.1).bind fun t582 => (if t582 = 0 then ((gaps_Count.f t556).bind fun t583 => (some (t583 == (mx 1 (mn a1 300))))) else (none))) else (none))) else (none))) else (none)) else (none)) else (none))) else (none)) else (none))) else (none)) else (none)) else (none))))))))))))) = some r := by rw [if_pos rfl] at H; exact H
    clear H
    have H := H1
    clear H1
    replace H := Option.bind_eq_some_iff.mp H
    obtain ⟨t540, A50, H⟩ := H
    replace H : ((span_Of.f k (([(⟨(mx 1 (mn a1 300)) - 1, mx 1 (mn a1 300)⟩ : S45)] : List (S45)))).bind fun t544 => ((gaps_List.f k t540 t544).bind fun t547 => ((span_Of.f k (([(⟨0, mx 1 (mn a1 300)⟩ : S45)] : List (S45)))).bind fun t553 => ((gaps_List.f k t540 t553).bind fun t556 => ((seq_Num_Add.f t540 (mx 1 (mn a1 300))).bind fun t559 => ((gaps_Set.f k t540 t559 t556).bind fun bt560 => ((seq_Num_Add.f t540 ((mx 1 (mn a1 300)) - 1)).bind fun t564 => ((gaps_Set.f k t540 t564 t556).bind fun bt565 => ((gaps_Set.f k t540 t540 ([] : List Int)).bind fun bt569 => ((gaps_List.f k t540 ([] : List (S45))).bind fun t573 => (if (t573.length : Int) = 0 then (if (t547.length : Int) = 2 then (if 0 < (t547.length : Int) then ((seq_Num_Add.f (rd t547 0) 1).bind fun t577 => (if 1 < (t547.length : Int) then (if t577 = (rd t547 1) then ((seq_Num_Add.f t540 ((mx 1 (mn a1 300)) - 1)).bind fun t580 => (if (rd t547 0) = t580 then (if (t556.length : Int) = 2 then (if bt560.2 = true then ((span_Set_Len.f k bt560.1).bind fun t581 => (if t581 = (mx 1 (mn a1 300)) then (if bt565.2 = true then (none) else (if bt569.2 = true then ((span_Set_Len.f k bt569.1).bind fun t582 => (if t582 = 0 then ((gaps_Count.f t556).bind fun t583 => (some (t583 == (mx 1 (mn a1 300))))) else (none))) else (none))) else (none))) else (none)) else (none)) else (none))) else (none)) else (none))) else (none)) else (none)) else (none)))))))))))) = some r := H
    have A5 := Aside0.mk A50
    clear A50
    obtain ⟨ji6, hji6⟩ : ∃ j_ : Int, (mn a1 300) = j_ := ⟨_, rfl⟩
    replace H : ((span_Of.f k (([(⟨(mx 1 (ji6)) - 1, mx 1 (ji6)⟩ : S45)] : List (S45)))).bind fun t544 => ((gaps_List.f k t540 t544).bind fun t547 => ((span_Of.f k (([(⟨0, mx 1 (ji6)⟩ : S45)] : List (S45)))).bind fun t553 => ((gaps_List.f k t540 t553).bind fun t556 => ((seq_Num_Add.f t540 (mx 1 (ji6))).bind fun t559 => ((gaps_Set.f k t540 t559 t556).bind fun bt560 => ((seq_Num_Add.f t540 ((mx 1 (ji6)) - 1)).bind fun t564 => ((gaps_Set.f k t540 t564 t556).bind fun bt565 => ((gaps_Set.f k t540 t540 ([] : List Int)).bind fun bt569 => ((gaps_List.f k t540 ([] : List (S45))).bind fun t573 => (if (t573.length : Int) = 0 then (if (t547.length : Int) = 2 then (if 0 < (t547.length : Int) then ((seq_Num_Add.f (rd t547 0) 1).bind fun t577 => (if 1 < (t547.length : Int) then (if t577 = (rd t547 1) then ((seq_Num_Add.f t540 ((mx 1 (ji6)) - 1)).bind fun t580 => (if (rd t547 0) = t580 then (if (t556.length : Int) = 2 then (if bt560.2 = true then ((span_Set_Len.f k bt560.1).bind fun t581 => (if t581 = (mx 1 (ji6)) then (if bt565.2 = true then (none) else (if bt569.2 = true then ((span_Set_Len.f k bt569.1).bind fun t582 => (if t582 = 0 then ((gaps_Count.f t556).bind fun t583 => (some (t583 == (mx 1 (ji6))))) else (none))) else (none))) else (none))) else (none)) else (none)) else (none))) else (none)) else (none))) else (none)) else (none)) else (none)))))))))))) = some r := by first | (rw [hji6] at H; exact H) | (simp only [hji6] at H ⊢; exact H)
    (try rw [hji6] at A3)
    (try rw [hji6] at A5)
    (try (have hji6h : ji6 ≤ 300 := by (rw [← hji6]; unfold mn; (repeat' split) <;> omega)))
    (try (have hji6g : ji6 ≤ 64 := by omega))
    have hji6_ : (if 300 < a1 then 300 else a1) = ji6 := hji6
    obtain ⟨ji7, hji7⟩ : ∃ j_ : Int, (mx 1 (ji6)) = j_ := ⟨_, rfl⟩
    replace H : ((span_Of.f k (([(⟨(ji7) - 1, ji7⟩ : S45)] : List (S45)))).bind fun t544 => ((gaps_List.f k t540 t544).bind fun t547 => ((span_Of.f k (([(⟨0, ji7⟩ : S45)] : List (S45)))).bind fun t553 => ((gaps_List.f k t540 t553).bind fun t556 => ((seq_Num_Add.f t540 (ji7)).bind fun t559 => ((gaps_Set.f k t540 t559 t556).bind fun bt560 => ((seq_Num_Add.f t540 ((ji7) - 1)).bind fun t564 => ((gaps_Set.f k t540 t564 t556).bind fun bt565 => ((gaps_Set.f k t540 t540 ([] : List Int)).bind fun bt569 => ((gaps_List.f k t540 ([] : List (S45))).bind fun t573 => (if (t573.length : Int) = 0 then (if (t547.length : Int) = 2 then (if 0 < (t547.length : Int) then ((seq_Num_Add.f (rd t547 0) 1).bind fun t577 => (if 1 < (t547.length : Int) then (if t577 = (rd t547 1) then ((seq_Num_Add.f t540 ((ji7) - 1)).bind fun t580 => (if (rd t547 0) = t580 then (if (t556.length : Int) = 2 then (if bt560.2 = true then ((span_Set_Len.f k bt560.1).bind fun t581 => (if t581 = (ji7) then (if bt565.2 = true then (none) else (if bt569.2 = true then ((span_Set_Len.f k bt569.1).bind fun t582 => (if t582 = 0 then ((gaps_Count.f t556).bind fun t583 => (some (t583 == (ji7)))) else (none))) else (none))) else (none))) else (none)) else (none)) else (none))) else (none)) else (none))) else (none)) else (none)) else (none)))))))))))) = some r := by first | (rw [hji7] at H; exact H) | (simp only [hji7] at H ⊢; exact H)
    (try rw [hji7] at A3)
    (try rw [hji7] at A5)
    have hji7_ : (if 1 < (ji6) then (ji6) else 1) = ji7 := hji7
    have wz7 := Aside0.mk (show wrap64 (ji7 - 1) = ji7 - 1 by unfold wrap64; first | omega | ((try simp only [mx, mn] at *); split at hji7_ <;> split at hji6_ <;> omega))
    obtain ⟨y541, hy541⟩ : ∃ y_ : List (S45), y_ = (([(⟨(ji7) - 1, ji7⟩ : S45)] : List (S45))) := ⟨_, rfl⟩
    replace H : ((span_Of.f k y541).bind fun t544 => ((gaps_List.f k t540 t544).bind fun t547 => ((span_Of.f k (([(⟨0, ji7⟩ : S45)] : List (S45)))).bind fun t553 => ((gaps_List.f k t540 t553).bind fun t556 => ((seq_Num_Add.f t540 (ji7)).bind fun t559 => ((gaps_Set.f k t540 t559 t556).bind fun bt560 => ((seq_Num_Add.f t540 ((ji7) - 1)).bind fun t564 => ((gaps_Set.f k t540 t564 t556).bind fun bt565 => ((gaps_Set.f k t540 t540 ([] : List Int)).bind fun bt569 => ((gaps_List.f k t540 ([] : List (S45))).bind fun t573 => (if (t573.length : Int) = 0 then (if (t547.length : Int) = 2 then (if 0 < (t547.length : Int) then ((seq_Num_Add.f (rd t547 0) 1).bind fun t577 => (if 1 < (t547.length : Int) then (if t577 = (rd t547 1) then ((seq_Num_Add.f t540 ((ji7) - 1)).bind fun t580 => (if (rd t547 0) = t580 then (if (t556.length : Int) = 2 then (if bt560.2 = true then ((span_Set_Len.f k bt560.1).bind fun t581 => (if t581 = (ji7) then (if bt565.2 = true then (none) else (if bt569.2 = true then ((span_Set_Len.f k bt569.1).bind fun t582 => (if t582 = 0 then ((gaps_Count.f t556).bind fun t583 => (some (t583 == (ji7)))) else (none))) else (none))) else (none))) else (none)) else (none)) else (none))) else (none)) else (none))) else (none)) else (none)) else (none)))))))))))) = some r := by first | (rw [hy541]; with_reducible exact H) | (have H2_ := (Option.bind_some _ _).symm.trans H; rw [hy541]; with_reducible exact H2_) | (have H2_ := (Option.bind_some _ _).symm.trans H; with_reducible exact H2_) | with_reducible exact H | (rw [hy541]; exact H) | exact H
    have Ny541 := Aside0.mk hy541
    clear hy541
    replace H := Option.bind_eq_some_iff.mp H
    obtain ⟨t544, A80, H⟩ := H
    replace H : ((gaps_List.f k t540 t544).bind fun t547 => ((span_Of.f k (([(⟨0, ji7⟩ : S45)] : List (S45)))).bind fun t553 => ((gaps_List.f k t540 t553).bind fun t556 => ((seq_Num_Add.f t540 (ji7)).bind fun t559 => ((gaps_Set.f k t540 t559 t556).bind fun bt560 => ((seq_Num_Add.f t540 ((ji7) - 1)).bind fun t564 => ((gaps_Set.f k t540 t564 t556).bind fun bt565 => ((gaps_Set.f k t540 t540 ([] : List Int)).bind fun bt569 => ((gaps_List.f k t540 ([] : List (S45))).bind fun t573 => (if (t573.length : Int) = 0 then (if (t547.length : Int) = 2 then (if 0 < (t547.length : Int) then ((seq_Num_Add.f (rd t547 0) 1).bind fun t577 => (if 1 < (t547.length : Int) then (if t577 = (rd t547 1) then ((seq_Num_Add.f t540 ((ji7) - 1)).bind fun t580 => (if (rd t547 0) = t580 then (if (t556.length : Int) = 2 then (if bt560.2 = true then ((span_Set_Len.f k bt560.1).bind fun t581 => (if t581 = (ji7) then (if bt565.2 = true then (none) else (if bt569.2 = true then ((span_Set_Len.f k bt569.1).bind fun t582 => (if t582 = 0 then ((gaps_Count.f t556).bind fun t583 => (some (t583 == (ji7)))) else (none))) else (none))) else (none))) else (none)) else (none)) else (none))) else (none)) else (none))) else (none)) else (none)) else (none))))))))))) = some r := H
    have A8 := Aside0.mk A80
    clear A80
    replace H := Option.bind_eq_some_iff.mp H
    obtain ⟨t547, A90, H⟩ := H
    replace H : ((span_Of.f k (([(⟨0, ji7⟩ : S45)] : List (S45)))).bind fun t553 => ((gaps_List.f k t540 t553).bind fun t556 => ((seq_Num_Add.f t540 (ji7)).bind fun t559 => ((gaps_Set.f k t540 t559 t556).bind fun bt560 => ((seq_Num_Add.f t540 ((ji7) - 1)).bind fun t564 => ((gaps_Set.f k t540 t564 t556).bind fun bt565 => ((gaps_Set.f k t540 t540 ([] : List Int)).bind fun bt569 => ((gaps_List.f k t540 ([] : List (S45))).bind fun t573 => (if (t573.length : Int) = 0 then (if (t547.length : Int) = 2 then (if 0 < (t547.length : Int) then ((seq_Num_Add.f (rd t547 0) 1).bind fun t577 => (if 1 < (t547.length : Int) then (if t577 = (rd t547 1) then ((seq_Num_Add.f t540 ((ji7) - 1)).bind fun t580 => (if (rd t547 0) = t580 then (if (t556.length : Int) = 2 then (if bt560.2 = true then ((span_Set_Len.f k bt560.1).bind fun t581 => (if t581 = (ji7) then (if bt565.2 = true then (none) else (if bt569.2 = true then ((span_Set_Len.f k bt569.1).bind fun t582 => (if t582 = 0 then ((gaps_Count.f t556).bind fun t583 => (some (t583 == (ji7)))) else (none))) else (none))) else (none))) else (none)) else (none)) else (none))) else (none)) else (none))) else (none)) else (none)) else (none)))))))))) = some r := H
    have A9 := Aside0.mk A90
    clear A90
    obtain ⟨y550, hy550⟩ : ∃ y_ : List (S45), y_ = (([(⟨0, ji7⟩ : S45)] : List (S45))) := ⟨_, rfl⟩
    replace H : ((span_Of.f k y550).bind fun t553 => ((gaps_List.f k t540 t553).bind fun t556 => ((seq_Num_Add.f t540 (ji7)).bind fun t559 => ((gaps_Set.f k t540 t559 t556).bind fun bt560 => ((seq_Num_Add.f t540 ((ji7) - 1)).bind fun t564 => ((gaps_Set.f k t540 t564 t556).bind fun bt565 => ((gaps_Set.f k t540 t540 ([] : List Int)).bind fun bt569 => ((gaps_List.f k t540 ([] : List (S45))).bind fun t573 => (if (t573.length : Int) = 0 then (if (t547.length : Int) = 2 then (if 0 < (t547.length : Int) then ((seq_Num_Add.f (rd t547 0) 1).bind fun t577 => (if 1 < (t547.length : Int) then (if t577 = (rd t547 1) then ((seq_Num_Add.f t540 ((ji7) - 1)).bind fun t580 => (if (rd t547 0) = t580 then (if (t556.length : Int) = 2 then (if bt560.2 = true then ((span_Set_Len.f k bt560.1).bind fun t581 => (if t581 = (ji7) then (if bt565.2 = true then (none) else (if bt569.2 = true then ((span_Set_Len.f k bt569.1).bind fun t582 => (if t582 = 0 then ((gaps_Count.f t556).bind fun t583 => (some (t583 == (ji7)))) else (none))) else (none))) else (none))) else (none)) else (none)) else (none))) else (none)) else (none))) else (none)) else (none)) else (none)))))))))) = some r := by first | (rw [hy550]; with_reducible exact H) | (have H2_ := (Option.bind_some _ _).symm.trans H; rw [hy550]; with_reducible exact H2_) | (have H2_ := (Option.bind_some _ _).symm.trans H; with_reducible exact H2_) | with_reducible exact H | (rw [hy550]; exact H) | exact H
    have Ny550 := Aside0.mk hy550
    clear hy550
    replace H := Option.bind_eq_some_iff.mp H
    obtain ⟨t553, A100, H⟩ := H
    replace H : ((gaps_List.f k t540 t553).bind fun t556 => ((seq_Num_Add.f t540 (ji7)).bind fun t559 => ((gaps_Set.f k t540 t559 t556).bind fun bt560 => ((seq_Num_Add.f t540 ((ji7) - 1)).bind fun t564 => ((gaps_Set.f k t540 t564 t556).bind fun bt565 => ((gaps_Set.f k t540 t540 ([] : List Int)).bind fun bt569 => ((gaps_List.f k t540 ([] : List (S45))).bind fun t573 => (if (t573.length : Int) = 0 then (if (t547.length : Int) = 2 then (if 0 < (t547.length : Int) then ((seq_Num_Add.f (rd t547 0) 1).bind fun t577 => (if 1 < (t547.length : Int) then (if t577 = (rd t547 1) then ((seq_Num_Add.f t540 ((ji7) - 1)).bind fun t580 => (if (rd t547 0) = t580 then (if (t556.length : Int) = 2 then (if bt560.2 = true then ((span_Set_Len.f k bt560.1).bind fun t581 => (if t581 = (ji7) then (if bt565.2 = true then (none) else (if bt569.2 = true then ((span_Set_Len.f k bt569.1).bind fun t582 => (if t582 = 0 then ((gaps_Count.f t556).bind fun t583 => (some (t583 == (ji7)))) else (none))) else (none))) else (none))) else (none)) else (none)) else (none))) else (none)) else (none))) else (none)) else (none)) else (none))))))))) = some r := H
    have A10 := Aside0.mk A100
    clear A100
    replace H := Option.bind_eq_some_iff.mp H
    obtain ⟨t556, A110, H⟩ := H
    replace H : ((seq_Num_Add.f t540 (ji7)).bind fun t559 => ((gaps_Set.f k t540 t559 t556).bind fun bt560 => ((seq_Num_Add.f t540 ((ji7) - 1)).bind fun t564 => ((gaps_Set.f k t540 t564 t556).bind fun bt565 => ((gaps_Set.f k t540 t540 ([] : List Int)).bind fun bt569 => ((gaps_List.f k t540 ([] : List (S45))).bind fun t573 => (if (t573.length : Int) = 0 then (if (t547.length : Int) = 2 then (if 0 < (t547.length : Int) then ((seq_Num_Add.f (rd t547 0) 1).bind fun t577 => (if 1 < (t547.length : Int) then (if t577 = (rd t547 1) then ((seq_Num_Add.f t540 ((ji7) - 1)).bind fun t580 => (if (rd t547 0) = t580 then (if (t556.length : Int) = 2 then (if bt560.2 = true then ((span_Set_Len.f k bt560.1).bind fun t581 => (if t581 = (ji7) then (if bt565.2 = true then (none) else (if bt569.2 = true then ((span_Set_Len.f k bt569.1).bind fun t582 => (if t582 = 0 then ((gaps_Count.f t556).bind fun t583 => (some (t583 == (ji7)))) else (none))) else (none))) else (none))) else (none)) else (none)) else (none))) else (none)) else (none))) else (none)) else (none)) else (none)))))))) = some r := H
    have A11 := Aside0.mk A110
    clear A110
    replace H := Option.bind_eq_some_iff.mp H
    obtain ⟨t559, A120, H⟩ := H
    replace H : ((gaps_Set.f k t540 t559 t556).bind fun bt560 => ((seq_Num_Add.f t540 ((ji7) - 1)).bind fun t564 => ((gaps_Set.f k t540 t564 t556).bind fun bt565 => ((gaps_Set.f k t540 t540 ([] : List Int)).bind fun bt569 => ((gaps_List.f k t540 ([] : List (S45))).bind fun t573 => (if (t573.length : Int) = 0 then (if (t547.length : Int) = 2 then (if 0 < (t547.length : Int) then ((seq_Num_Add.f (rd t547 0) 1).bind fun t577 => (if 1 < (t547.length : Int) then (if t577 = (rd t547 1) then ((seq_Num_Add.f t540 ((ji7) - 1)).bind fun t580 => (if (rd t547 0) = t580 then (if (t556.length : Int) = 2 then (if bt560.2 = true then ((span_Set_Len.f k bt560.1).bind fun t581 => (if t581 = (ji7) then (if bt565.2 = true then (none) else (if bt569.2 = true then ((span_Set_Len.f k bt569.1).bind fun t582 => (if t582 = 0 then ((gaps_Count.f t556).bind fun t583 => (some (t583 == (ji7)))) else (none))) else (none))) else (none))) else (none)) else (none)) else (none))) else (none)) else (none))) else (none)) else (none)) else (none))))))) = some r := H
    have A12 := Aside0.mk A120
    clear A120
    replace H := Option.bind_eq_some_iff.mp H
    obtain ⟨⟨t560, t561⟩, A130, H⟩ := H
    replace H : ((seq_Num_Add.f t540 ((ji7) - 1)).bind fun t564 => ((gaps_Set.f k t540 t564 t556).bind fun bt565 => ((gaps_Set.f k t540 t540 ([] : List Int)).bind fun bt569 => ((gaps_List.f k t540 ([] : List (S45))).bind fun t573 => (if (t573.length : Int) = 0 then (if (t547.length : Int) = 2 then (if 0 < (t547.length : Int) then ((seq_Num_Add.f (rd t547 0) 1).bind fun t577 => (if 1 < (t547.length : Int) then (if t577 = (rd t547 1) then ((seq_Num_Add.f t540 ((ji7) - 1)).bind fun t580 => (if (rd t547 0) = t580 then (if (t556.length : Int) = 2 then (if t561 = true then ((span_Set_Len.f k t560).bind fun t581 => (if t581 = (ji7) then (if bt565.2 = true then (none) else (if bt569.2 = true then ((span_Set_Len.f k bt569.1).bind fun t582 => (if t582 = 0 then ((gaps_Count.f t556).bind fun t583 => (some (t583 == (ji7)))) else (none))) else (none))) else (none))) else (none)) else (none)) else (none))) else (none)) else (none))) else (none)) else (none)) else (none)))))) = some r := H
    have A13 := Aside0.mk A130
    clear A130
    replace H := Option.bind_eq_some_iff.mp H
    obtain ⟨t564, A140, H⟩ := H
    replace H : ((gaps_Set.f k t540 t564 t556).bind fun bt565 => ((gaps_Set.f k t540 t540 ([] : List Int)).bind fun bt569 => ((gaps_List.f k t540 ([] : List (S45))).bind fun t573 => (if (t573.length : Int) = 0 then (if (t547.length : Int) = 2 then (if 0 < (t547.length : Int) then ((seq_Num_Add.f (rd t547 0) 1).bind fun t577 => (if 1 < (t547.length : Int) then (if t577 = (rd t547 1) then ((seq_Num_Add.f t540 ((ji7) - 1)).bind fun t580 => (if (rd t547 0) = t580 then (if (t556.length : Int) = 2 then (if t561 = true then ((span_Set_Len.f k t560).bind fun t581 => (if t581 = (ji7) then (if bt565.2 = true then (none) else (if bt569.2 = true then ((span_Set_Len.f k bt569.1).bind fun t582 => (if t582 = 0 then ((gaps_Count.f t556).bind fun t583 => (some (t583 == (ji7)))) else (none))) else (none))) else (none))) else (none)) else (none)) else (none))) else (none)) else (none))) else (none)) else (none)) else (none))))) = some r := H
    have A14 := Aside0.mk A140
    clear A140
    replace H := Option.bind_eq_some_iff.mp H
    obtain ⟨⟨t565, t566⟩, A150, H⟩ := H
    replace H : ((gaps_Set.f k t540 t540 ([] : List Int)).bind fun bt569 => ((gaps_List.f k t540 ([] : List (S45))).bind fun t573 => (if (t573.length : Int) = 0 then (if (t547.length : Int) = 2 then (if 0 < (t547.length : Int) then ((seq_Num_Add.f (rd t547 0) 1).bind fun t577 => (if 1 < (t547.length : Int) then (if t577 = (rd t547 1) then ((seq_Num_Add.f t540 ((ji7) - 1)).bind fun t580 => (if (rd t547 0) = t580 then (if (t556.length : Int) = 2 then (if t561 = true then ((span_Set_Len.f k t560).bind fun t581 => (if t581 = (ji7) then (if t566 = true then (none) else (if bt569.2 = true then ((span_Set_Len.f k bt569.1).bind fun t582 => (if t582 = 0 then ((gaps_Count.f t556).bind fun t583 => (some (t583 == (ji7)))) else (none))) else (none))) else (none))) else (none)) else (none)) else (none))) else (none)) else (none))) else (none)) else (none)) else (none)))) = some r := H
    have A15 := Aside0.mk A150
    clear A150
    replace H := Option.bind_eq_some_iff.mp H
    obtain ⟨⟨t569, t570⟩, A160, H⟩ := H
    replace H : ((gaps_List.f k t540 ([] : List (S45))).bind fun t573 => (if (t573.length : Int) = 0 then (if (t547.length : Int) = 2 then (if 0 < (t547.length : Int) then ((seq_Num_Add.f (rd t547 0) 1).bind fun t577 => (if 1 < (t547.length : Int) then (if t577 = (rd t547 1) then ((seq_Num_Add.f t540 ((ji7) - 1)).bind fun t580 => (if (rd t547 0) = t580 then (if (t556.length : Int) = 2 then (if t561 = true then ((span_Set_Len.f k t560).bind fun t581 => (if t581 = (ji7) then (if t566 = true then (none) else (if t570 = true then ((span_Set_Len.f k t569).bind fun t582 => (if t582 = 0 then ((gaps_Count.f t556).bind fun t583 => (some (t583 == (ji7)))) else (none))) else (none))) else (none))) else (none)) else (none)) else (none))) else (none)) else (none))) else (none)) else (none)) else (none))) = some r := H
    have A16 := Aside0.mk A160
    clear A160
    replace H := Option.bind_eq_some_iff.mp H
    obtain ⟨t573, A170, H⟩ := H
    replace H : (if (t573.length : Int) = 0 then (if (t547.length : Int) = 2 then (if 0 < (t547.length : Int) then ((seq_Num_Add.f (rd t547 0) 1).bind fun t577 => (if 1 < (t547.length : Int) then (if t577 = (rd t547 1) then ((seq_Num_Add.f t540 ((ji7) - 1)).bind fun t580 => (if (rd t547 0) = t580 then (if (t556.length : Int) = 2 then (if t561 = true then ((span_Set_Len.f k t560).bind fun t581 => (if t581 = (ji7) then (if t566 = true then (none) else (if t570 = true then ((span_Set_Len.f k t569).bind fun t582 => (if t582 = 0 then ((gaps_Count.f t556).bind fun t583 => (some (t583 == (ji7)))) else (none))) else (none))) else (none))) else (none)) else (none)) else (none))) else (none)) else (none))) else (none)) else (none)) else (none)) = some r := H
    have A17 := Aside0.mk A170
    clear A170
    by_cases c18 : (t573.length : Int) = 0
    · rw [if_pos c18] at H
      have c18b0 : ((t573.length : Int) == 0) = true := beq_iff_eq.mpr c18
      have c18b1 : ((t573.length : Int) != 0) = false := bne_eq_false_iff_eq.mpr c18
      clear c18
      by_cases c19 : (t547.length : Int) = 2
      · rw [if_pos c19] at H
        have c19b0 : ((t547.length : Int) == 2) = true := beq_iff_eq.mpr c19
        have c19b1 : ((t547.length : Int) != 2) = false := bne_eq_false_iff_eq.mpr c19
        clear c19
        by_cases c20 : 0 < (t547.length : Int)
        · rw [if_pos c20] at H
          have c20b0 : decide (0 < (t547.length : Int)) = true := decide_eq_true c20
          have c20b1 : decide (0 < t547.length) = true := decide_eq_true (by omega)
          clear c20
          replace H := Option.bind_eq_some_iff.mp H
          obtain ⟨t577, A210, H⟩ := H
          replace H : (if 1 < (t547.length : Int) then (if t577 = (rd t547 1) then ((seq_Num_Add.f t540 ((ji7) - 1)).bind fun t580 => (if (rd t547 0) = t580 then (if (t556.length : Int) = 2 then (if t561 = true then ((span_Set_Len.f k t560).bind fun t581 => (if t581 = (ji7) then (if t566 = true then (none) else (if t570 = true then ((span_Set_Len.f k t569).bind fun t582 => (if t582 = 0 then ((gaps_Count.f t556).bind fun t583 => (some (t583 == (ji7)))) else (none))) else (none))) else (none))) else (none)) else (none)) else (none))) else (none)) else (none)) = some r := H
          have A21 := Aside0.mk A210
          clear A210
          by_cases c22 : 1 < (t547.length : Int)
          · rw [if_pos c22] at H
            have c22b0 : decide (1 < (t547.length : Int)) = true := decide_eq_true c22
            have c22b1 : decide (1 < t547.length) = true := decide_eq_true (by omega)
            clear c22
            by_cases c23 : t577 = (rd t547 1)
            · rw [if_pos c23] at H
              have c23b0 : (t577 == (rd t547 1)) = true := beq_iff_eq.mpr c23
              have c23b1 : (t577 != (rd t547 1)) = false := bne_eq_false_iff_eq.mpr c23
              clear c23
              replace H := Option.bind_eq_some_iff.mp H
              obtain ⟨t580, A240, H⟩ := H
              replace H : (if (rd t547 0) = t580 then (if (t556.length : Int) = 2 then (if t561 = true then ((span_Set_Len.f k t560).bind fun t581 => (if t581 = (ji7) then (if t566 = true then (none) else (if t570 = true then ((span_Set_Len.f k t569).bind fun t582 => (if t582 = 0 then ((gaps_Count.f t556).bind fun t583 => (some (t583 == (ji7)))) else (none))) else (none))) else (none))) else (none)) else (none)) else (none)) = some r := H
              have A24 := Aside0.mk A240
              clear A240
              by_cases c25 : (rd t547 0) = t580
              · rw [if_pos c25] at H
                have c25b0 : ((rd t547 0) == t580) = true := beq_iff_eq.mpr c25
                have c25b1 : ((rd t547 0) != t580) = false := bne_eq_false_iff_eq.mpr c25
                clear c25
                by_cases c26 : (t556.length : Int) = 2
                · rw [if_pos c26] at H
                  have c26b0 : ((t556.length : Int) == 2) = true := beq_iff_eq.mpr c26
                  have c26b1 : ((t556.length : Int) != 2) = false := bne_eq_false_iff_eq.mpr c26
                  clear c26
                  by_cases c27 : t561 = true
                  · subst c27
                    have H1 : ((span_Set_Len.f k t560).bind fun t581 => (if t581 = (ji7) then (if t566 = true then (none) else (if t570 = true then ((span_Set_Len.f k t569).bind fun t582 => (if t582 = 0 then ((gaps_Count.f t556).bind fun t583 => (some (t583 == (ji7)))) else (none))) else (none))) else (none))) = some r := by rw [if_pos rfl] at H; exact H
                    clear H
                    have H := H1
                    clear H1
                    replace H := Option.bind_eq_some_iff.mp H
                    obtain ⟨t581, A280, H⟩ := H
                    replace H : (if t581 = (ji7) then (if t566 = true then (none) else (if t570 = true then ((span_Set_Len.f k t569).bind fun t582 => (if t582 = 0 then ((gaps_Count.f t556).bind fun t583 => (some (t583 == (ji7)))) else (none))) else (none))) else (none)) = some r := H
                    have A28 := Aside0.mk A280
                    clear A280
                    by_cases c29 : t581 = (ji7)
                    · rw [if_pos c29] at H
                      have c29b0 : (t581 == (ji7)) = true := beq_iff_eq.mpr c29
                      have c29b1 : (t581 != (ji7)) = false := bne_eq_false_iff_eq.mpr c29
                      clear c29
                      by_cases c30 : t566 = true
                      · subst c30
                        have H1 : (none) = some r := by rw [if_pos rfl] at H; exact H
                        clear H
                        have H := H1
                        clear H1
                        exact absurd H (by simp)
                      · replace c30 := Bool.eq_false_iff.mpr c30
                        subst c30
                        have H1 : (if t570 = true then ((span_Set_Len.f k t569).bind fun t582 => (if t582 = 0 then ((gaps_Count.f t556).bind fun t583 => (some (t583 == (ji7)))) else (none))) else (none)) = some r := by rw [if_neg (show ¬ (false = true) by decide)] at H; exact H
                        clear H
                        have H := H1
                        clear H1
                        by_cases c31 : t570 = true
                        · subst c31
                          have H1 : ((span_Set_Len.f k t569).bind fun t582 => (if t582 = 0 then ((gaps_Count.f t556).bind fun t583 => (some (t583 == (ji7)))) else (none))) = some r := by rw [if_pos rfl] at H; exact H
                          clear H
                          have H := H1
                          clear H1
                          replace H := Option.bind_eq_some_iff.mp H
                          obtain ⟨t582, A320, H⟩ := H
                          replace H : (if t582 = 0 then ((gaps_Count.f t556).bind fun t583 => (some (t583 == (ji7)))) else (none)) = some r := H
                          have A32 := Aside0.mk A320
                          clear A320
                          by_cases c33 : t582 = 0
                          · rw [if_pos c33] at H
                            have c33b0 : (t582 == 0) = true := beq_iff_eq.mpr c33
                            have c33b1 : (t582 != 0) = false := bne_eq_false_iff_eq.mpr c33
                            clear c33
                            replace H := Option.bind_eq_some_iff.mp H
                            obtain ⟨t583, A340, H⟩ := H
                            replace H : (some (t583 == (ji7))) = some r := H
                            have A34 := Aside0.mk A340
                            clear A340
                            obtain rfl := Option.some.inj H
                            go_enter Try.func10, Try.ntmps10
                            try go_wp2_with (first | ((with_reducible refine gate_callee (f := 14) rfl ?_); refine goesL_ (some 14) rfl rfl Try.func14 (by kernel_rfl) rfl #[] rfl (by (try simp only [List.map_toArray, List.map_cons, List.map_nil]); first | done | rfl | (simp only [List.length_drop, List.length_take]; rfl)) ?_; (with_reducible refine (polliwoglaw09_awake.calls k  true _ A3.out).mono ?_); rintro e w35 ⟨rfl, hb⟩; refine ⟨_, rfl, ?_⟩; have n0_ := Aside0.mk (below_step (by repeat (first | (with_reducible first | exact HB.out | apply below_alloc | apply pw_below_drewN | apply below_drew1) | exact HB.out)) hb); clear HB; have HB := n0_; clear n0_; (try clear hb); (try clear hb2); (try clear hk); (try clear hi)) | ((with_reducible refine gate_callee (f := 17) rfl ?_); refine goesL_ (some 17) rfl rfl Try.func17 (by kernel_rfl) rfl #[.int .u32 a0] rfl (by (try simp only [List.map_toArray, List.map_cons, List.map_nil]); first | done | rfl | (simp only [List.length_drop, List.length_take]; rfl)) ?_; (with_reducible refine (seq_Num_Low.calls a0 t540 _ A5.out).mono ?_); rintro e w' ⟨rfl, ⟨nd, rfl⟩⟩; refine ⟨_, rfl, ?_⟩) | ((with_reducible refine gate_dst (N := 26) rfl ?_); (try (refine gate_guard (by rfl) ?_; dsimp only)); refine Kd.R_lit k45 _ 45 ?hg (N := 26) ?hd (xs := ([(⟨(ji7) - 1, ji7⟩ : S45)] : List (S45))) (inner := [.int .i64 ((ji7) - 1), .int .i64 ji7]) (ok := fun _ => True) (okp := fun _ => True) ?hr ?hp (fun _ hk => hk) trivial (Below.refl _ _) (Nat.le_refl _) (by simp) ?_; (case hd => rfl); (case hg => rfl); (case hr => first | (go_simp; done) | (go_simp; rfl)); (case hp => exact (Reps.c2 (show Kd.M k45 _ _ _ (⟨(ji7) - 1, ji7⟩ : S45) [.int .i64 ((ji7) - 1), .int .i64 ji7] from (k45_mkM _ _ _ (⟨(ji7) - 1, ji7⟩ : S45) )) (Reps.none _ _))); intro v542 w36 ho37 hb hg_ hnew_; clear hg_ hnew_; (first | rw [← Ny541.out] at ho37 | (simp only [Int.reduceToNat] at ho37; rw [← Ny541.out] at ho37)); have n0_ := Aside0.mk (Kd.R_lower ho37 (below_size (by repeat (first | (with_reducible first | exact HB.out | apply below_alloc | apply pw_below_drewN | apply below_drew1) | exact HB.out)))); have n1_ := Aside0.mk (below_step (by repeat (first | (with_reducible first | exact HB.out | apply below_alloc | apply pw_below_drewN | apply below_drew1) | exact HB.out)) hb); clear HB; have HO543 := n0_; have HB := n1_; clear n0_ n1_; clear hb ho37; obtain ⟨Ao38, co38, eo38⟩ := Kd.R_slice HO543.out; subst eo38) | ((with_reducible refine gate_callee (f := 16) rfl ?_); refine goesL_ (some 27) rfl rfl Try.func16 (by kernel_rfl) rfl #[.slice Ao38 y541.length co38] rfl (by (try simp only [List.map_toArray, List.map_cons, List.map_nil]); first | done | rfl | (simp only [List.length_drop, List.length_take]; rfl)) ?_; (with_reducible refine (span_Of.calls k _ _ y541 t544 _ ?side1 ?side2 A8.out).mono ?_); (case side1 => repeat (first | exact (Kd.R_reads' HO543.out).2.2 | (with_reducible refine Kd.C_alloc ?_ _) | (with_reducible refine Kd.C_drewN ?_ _) | (with_reducible refine Kd.C_drew ?_))); (case side2 => exact (Kd.R_reads' HO543.out).2.1); rintro e w39 ⟨v545, rfl, ho0, hb⟩; refine ⟨_, rfl, ?_⟩; have n0_ := Aside0.mk (Kd.R_elder' (by (with_reducible repeat (first | apply Kd.R_alloc | apply Kd.R_drewN | apply Kd.R_drew)); exact HO543.out) (Kd.R_base ho0) hb); have n1_ := Aside0.mk (Kd.R_lower (Kd.R_new' ho0 (Kd.R_lt (by (with_reducible repeat (first | apply Kd.R_alloc | apply Kd.R_drewN | apply Kd.R_drew)); exact HO543.out))) (below_size (by repeat (first | (with_reducible first | exact HB.out | apply below_alloc | apply pw_below_drewN | apply below_drew1) | exact HB.out)))); have n2_ := Aside0.mk (below_step (by repeat (first | (with_reducible first | exact HB.out | apply below_alloc | apply pw_below_drewN | apply below_drew1) | exact HB.out)) hb); clear HO543; clear HB; have HO543 := n0_; have HO546 := n1_; have HB := n2_; clear n0_ n1_ n2_; (try clear hb); (try clear hb2); (try clear hk); (try clear hi); (try clear ho0); obtain ⟨Ao40, co40, eo40⟩ := Kd.R_slice HO546.out; subst eo40) | ((with_reducible refine gate_callee (f := 18) rfl ?_); refine goesL_ (some 28) rfl rfl Try.func18 (by kernel_rfl) rfl #[.int .u32 t540, .slice Ao40 t544.length co40] rfl (by (try simp only [List.map_toArray, List.map_cons, List.map_nil]); first | done | rfl | (simp only [List.length_drop, List.length_take]; rfl)) ?_; (with_reducible refine (gaps_List.calls k t540 _ _ t544 t547 _ ?side1 ?side2 A9.out).mono ?_); (case side1 => repeat (first | exact (Kd.R_reads' HO546.out).2.2 | (with_reducible refine Kd.C_alloc ?_ _) | (with_reducible refine Kd.C_drewN ?_ _) | (with_reducible refine Kd.C_drew ?_))); (case side2 => exact (Kd.R_reads' HO546.out).2.1); rintro e w41 ⟨v548, rfl, ho0, hb⟩; refine ⟨_, rfl, ?_⟩; have n0_ := Aside0.mk (Kd.R_below (by (with_reducible repeat (first | apply Kd.R_alloc | apply Kd.R_drewN | apply Kd.R_drew)); exact HO543.out) hb); have n1_ := Aside0.mk (Kd.R_below (by (with_reducible repeat (first | apply Kd.R_alloc | apply Kd.R_drewN | apply Kd.R_drew)); exact HO546.out) hb); have n2_ := Aside0.mk (Kd.R_lower ho0 (below_size (by repeat (first | (with_reducible first | exact HB.out | apply below_alloc | apply pw_below_drewN | apply below_drew1) | exact HB.out)))); have n3_ := Aside0.mk (below_step (by repeat (first | (with_reducible first | exact HB.out | apply below_alloc | apply pw_below_drewN | apply below_drew1) | exact HB.out)) hb); clear HO543; clear HO546; clear HB; have HO543 := n0_; have HO546 := n1_; have HO549 := n2_; have HB := n3_; clear n0_ n1_ n2_ n3_; (try clear hb); (try clear hb2); (try clear hk); (try clear hi); (try clear ho0)) | ((with_reducible refine gate_dst (N := 32) rfl ?_); (try (refine gate_guard (by rfl) ?_; dsimp only)); refine Kd.R_lit k45 _ 45 ?hg (N := 32) ?hd (xs := ([(⟨0, ji7⟩ : S45)] : List (S45))) (inner := [.int .i64 0, .int .i64 ji7]) (ok := fun _ => True) (okp := fun _ => True) ?hr ?hp (fun _ hk => hk) trivial (Below.refl _ _) (Nat.le_refl _) (by simp) ?_; (case hd => rfl); (case hg => rfl); (case hr => first | (go_simp; done) | (go_simp; rfl)); (case hp => exact (Reps.c2 (show Kd.M k45 _ _ _ (⟨0, ji7⟩ : S45) [.int .i64 0, .int .i64 ji7] from (k45_mkM _ _ _ (⟨0, ji7⟩ : S45) )) (Reps.none _ _))); intro v551 w42 ho43 hb hg_ hnew_; clear hg_ hnew_; (first | rw [← Ny550.out] at ho43 | (simp only [Int.reduceToNat] at ho43; rw [← Ny550.out] at ho43)); have n0_ := Aside0.mk (Kd.R_elder' (by (with_reducible repeat (first | apply Kd.R_alloc | apply Kd.R_drewN | apply Kd.R_drew)); exact HO543.out) (Kd.R_base ho43) hb); have n1_ := Aside0.mk (Kd.R_elder' (by (with_reducible repeat (first | apply Kd.R_alloc | apply Kd.R_drewN | apply Kd.R_drew)); exact HO546.out) (Kd.R_base ho43) hb); have n2_ := Aside0.mk (Kd.R_below (by (with_reducible repeat (first | apply Kd.R_alloc | apply Kd.R_drewN | apply Kd.R_drew)); exact HO549.out) hb); have n3_ := Aside0.mk (Kd.R_lower (Kd.R_new' (Kd.R_new' ho43 (Kd.R_lt (by (with_reducible repeat (first | apply Kd.R_alloc | apply Kd.R_drewN | apply Kd.R_drew)); exact HO543.out))) (Kd.R_lt (by (with_reducible repeat (first | apply Kd.R_alloc | apply Kd.R_drewN | apply Kd.R_drew)); exact HO546.out))) (below_size (by repeat (first | (with_reducible first | exact HB.out | apply below_alloc | apply pw_below_drewN | apply below_drew1) | exact HB.out)))); have n4_ := Aside0.mk (below_step (by repeat (first | (with_reducible first | exact HB.out | apply below_alloc | apply pw_below_drewN | apply below_drew1) | exact HB.out)) hb); clear HO543; clear HO546; clear HO549; clear HB; have HO543 := n0_; have HO546 := n1_; have HO549 := n2_; have HO552 := n3_; have HB := n4_; clear n0_ n1_ n2_ n3_ n4_; clear hb ho43; obtain ⟨Ao44, co44, eo44⟩ := Kd.R_slice HO552.out; subst eo44) | ((with_reducible refine gate_callee (f := 16) rfl ?_); refine goesL_ (some 33) rfl rfl Try.func16 (by kernel_rfl) rfl #[.slice Ao44 y550.length co44] rfl (by (try simp only [List.map_toArray, List.map_cons, List.map_nil]); first | done | rfl | (simp only [List.length_drop, List.length_take]; rfl)) ?_; (with_reducible refine (span_Of.calls k _ _ y550 t553 _ ?side1 ?side2 A10.out).mono ?_); (case side1 => repeat (first | exact (Kd.R_reads' HO552.out).2.2 | (with_reducible refine Kd.C_alloc ?_ _) | (with_reducible refine Kd.C_drewN ?_ _) | (with_reducible refine Kd.C_drew ?_))); (case side2 => exact (Kd.R_reads' HO552.out).2.1); rintro e w45 ⟨v554, rfl, ho0, hb⟩; refine ⟨_, rfl, ?_⟩; have n0_ := Aside0.mk (Kd.R_elder' (by (with_reducible repeat (first | apply Kd.R_alloc | apply Kd.R_drewN | apply Kd.R_drew)); exact HO543.out) (Kd.R_base ho0) hb); have n1_ := Aside0.mk (Kd.R_elder' (by (with_reducible repeat (first | apply Kd.R_alloc | apply Kd.R_drewN | apply Kd.R_drew)); exact HO546.out) (Kd.R_base ho0) hb); have n2_ := Aside0.mk (Kd.R_below (by (with_reducible repeat (first | apply Kd.R_alloc | apply Kd.R_drewN | apply Kd.R_drew)); exact HO549.out) hb); have n3_ := Aside0.mk (Kd.R_elder' (by (with_reducible repeat (first | apply Kd.R_alloc | apply Kd.R_drewN | apply Kd.R_drew)); exact HO552.out) (Kd.R_base ho0) hb); have n4_ := Aside0.mk (Kd.R_lower (Kd.R_new' (Kd.R_new' (Kd.R_new' ho0 (Kd.R_lt (by (with_reducible repeat (first | apply Kd.R_alloc | apply Kd.R_drewN | apply Kd.R_drew)); exact HO543.out))) (Kd.R_lt (by (with_reducible repeat (first | apply Kd.R_alloc | apply Kd.R_drewN | apply Kd.R_drew)); exact HO546.out))) (Kd.R_lt (by (with_reducible repeat (first | apply Kd.R_alloc | apply Kd.R_drewN | apply Kd.R_drew)); exact HO552.out))) (below_size (by repeat (first | (with_reducible first | exact HB.out | apply below_alloc | apply pw_below_drewN | apply below_drew1) | exact HB.out)))); have n5_ := Aside0.mk (below_step (by repeat (first | (with_reducible first | exact HB.out | apply below_alloc | apply pw_below_drewN | apply below_drew1) | exact HB.out)) hb); clear HO543; clear HO546; clear HO549; clear HO552; clear HB; have HO543 := n0_; have HO546 := n1_; have HO549 := n2_; have HO552 := n3_; have HO555 := n4_; have HB := n5_; clear n0_ n1_ n2_ n3_ n4_ n5_; (try clear hb); (try clear hb2); (try clear hk); (try clear hi); (try clear ho0); obtain ⟨Ao46, co46, eo46⟩ := Kd.R_slice HO555.out; subst eo46) | ((with_reducible refine gate_callee (f := 18) rfl ?_); refine goesL_ (some 34) rfl rfl Try.func18 (by kernel_rfl) rfl #[.int .u32 t540, .slice Ao46 t553.length co46] rfl (by (try simp only [List.map_toArray, List.map_cons, List.map_nil]); first | done | rfl | (simp only [List.length_drop, List.length_take]; rfl)) ?_; (with_reducible refine (gaps_List.calls k t540 _ _ t553 t556 _ ?side1 ?side2 A11.out).mono ?_); (case side1 => repeat (first | exact (Kd.R_reads' HO555.out).2.2 | (with_reducible refine Kd.C_alloc ?_ _) | (with_reducible refine Kd.C_drewN ?_ _) | (with_reducible refine Kd.C_drew ?_))); (case side2 => exact (Kd.R_reads' HO555.out).2.1); rintro e w47 ⟨v557, rfl, ho0, hb⟩; refine ⟨_, rfl, ?_⟩; have n0_ := Aside0.mk (Kd.R_below (by (with_reducible repeat (first | apply Kd.R_alloc | apply Kd.R_drewN | apply Kd.R_drew)); exact HO543.out) hb); have n1_ := Aside0.mk (Kd.R_below (by (with_reducible repeat (first | apply Kd.R_alloc | apply Kd.R_drewN | apply Kd.R_drew)); exact HO546.out) hb); have n2_ := Aside0.mk (Kd.R_elder' (by (with_reducible repeat (first | apply Kd.R_alloc | apply Kd.R_drewN | apply Kd.R_drew)); exact HO549.out) (Kd.R_base ho0) hb); have n3_ := Aside0.mk (Kd.R_below (by (with_reducible repeat (first | apply Kd.R_alloc | apply Kd.R_drewN | apply Kd.R_drew)); exact HO552.out) hb); have n4_ := Aside0.mk (Kd.R_below (by (with_reducible repeat (first | apply Kd.R_alloc | apply Kd.R_drewN | apply Kd.R_drew)); exact HO555.out) hb); have n5_ := Aside0.mk (Kd.R_lower (Kd.R_new' ho0 (Kd.R_lt (by (with_reducible repeat (first | apply Kd.R_alloc | apply Kd.R_drewN | apply Kd.R_drew)); exact HO549.out))) (below_size (by repeat (first | (with_reducible first | exact HB.out | apply below_alloc | apply pw_below_drewN | apply below_drew1) | exact HB.out)))); have n6_ := Aside0.mk (below_step (by repeat (first | (with_reducible first | exact HB.out | apply below_alloc | apply pw_below_drewN | apply below_drew1) | exact HB.out)) hb); clear HO543; clear HO546; clear HO549; clear HO552; clear HO555; clear HB; have HO543 := n0_; have HO546 := n1_; have HO549 := n2_; have HO552 := n3_; have HO555 := n4_; have HO558 := n5_; have HB := n6_; clear n0_ n1_ n2_ n3_ n4_ n5_ n6_; (try clear hb); (try clear hb2); (try clear hk); (try clear hi); (try clear ho0)) | ((with_reducible refine gate_callee (f := 19) rfl ?_); refine goesL_ (some 39) rfl rfl Try.func19 (by kernel_rfl) rfl #[.int .u32 t540, .int .i64 ji7] rfl (by (try simp only [List.map_toArray, List.map_cons, List.map_nil]); first | done | (simp only [hji7]; rfl) | rfl | (show #[Value.int IntKind.u32 _, Value.int IntKind.i64 (wrap64 (ji7 - 1))] = _; rw [wz7.out]) | (simp only [List.length_drop, List.length_take]; rfl)) ?_; (with_reducible refine (seq_Num_Add.calls t540 ji7 t559 _ A12.out).mono ?_); rintro e w' ⟨rfl, ⟨nd, rfl⟩⟩; refine ⟨_, rfl, ?_⟩; obtain ⟨Ao48, co48, eo48⟩ := Kd.R_slice HO558.out; subst eo48) | ((with_reducible refine gate_callee (f := 38) rfl ?_); refine goesL_ (some 41) rfl rfl Try.func38 (by kernel_rfl) rfl #[.int .u32 t540, .int .u32 t559, .slice Ao48 t556.length co48] rfl (by (try simp only [List.map_toArray, List.map_cons, List.map_nil]); first | done | rfl | (simp only [List.length_drop, List.length_take]; rfl)) ?_; (with_reducible refine (gaps_Set.calls k t540 t559 _ _ t556 t560 true _ ?side1 ?side2 A13.out).mono ?_); (case side1 => repeat (first | exact (Kd.R_reads' HO558.out).2.2 | (with_reducible refine Kd.C_alloc ?_ _) | (with_reducible refine Kd.C_drewN ?_ _) | (with_reducible refine Kd.C_drew ?_))); (case side2 => exact (Kd.R_reads' HO558.out).2.1); rintro e w49 ⟨v562, rfl, ho0, hb⟩; refine ⟨_, rfl, ?_⟩; have n0_ := Aside0.mk (Kd.R_elder' (by (with_reducible repeat (first | apply Kd.R_alloc | apply Kd.R_drewN | apply Kd.R_drew)); exact HO543.out) (Kd.R_base ho0) hb); have n1_ := Aside0.mk (Kd.R_elder' (by (with_reducible repeat (first | apply Kd.R_alloc | apply Kd.R_drewN | apply Kd.R_drew)); exact HO546.out) (Kd.R_base ho0) hb); have n2_ := Aside0.mk (Kd.R_below (by (with_reducible repeat (first | apply Kd.R_alloc | apply Kd.R_drewN | apply Kd.R_drew)); exact HO549.out) hb); have n3_ := Aside0.mk (Kd.R_elder' (by (with_reducible repeat (first | apply Kd.R_alloc | apply Kd.R_drewN | apply Kd.R_drew)); exact HO552.out) (Kd.R_base ho0) hb); have n4_ := Aside0.mk (Kd.R_elder' (by (with_reducible repeat (first | apply Kd.R_alloc | apply Kd.R_drewN | apply Kd.R_drew)); exact HO555.out) (Kd.R_base ho0) hb); have n5_ := Aside0.mk (Kd.R_below (by (with_reducible repeat (first | apply Kd.R_alloc | apply Kd.R_drewN | apply Kd.R_drew)); exact HO558.out) hb); have n6_ := Aside0.mk (Kd.R_lower (Kd.R_new' (Kd.R_new' (Kd.R_new' (Kd.R_new' ho0 (Kd.R_lt (by (with_reducible repeat (first | apply Kd.R_alloc | apply Kd.R_drewN | apply Kd.R_drew)); exact HO543.out))) (Kd.R_lt (by (with_reducible repeat (first | apply Kd.R_alloc | apply Kd.R_drewN | apply Kd.R_drew)); exact HO546.out))) (Kd.R_lt (by (with_reducible repeat (first | apply Kd.R_alloc | apply Kd.R_drewN | apply Kd.R_drew)); exact HO552.out))) (Kd.R_lt (by (with_reducible repeat (first | apply Kd.R_alloc | apply Kd.R_drewN | apply Kd.R_drew)); exact HO555.out))) (below_size (by repeat (first | (with_reducible first | exact HB.out | apply below_alloc | apply pw_below_drewN | apply below_drew1) | exact HB.out)))); have n7_ := Aside0.mk (below_step (by repeat (first | (with_reducible first | exact HB.out | apply below_alloc | apply pw_below_drewN | apply below_drew1) | exact HB.out)) hb); clear HO543; clear HO546; clear HO549; clear HO552; clear HO555; clear HO558; clear HB; have HO543 := n0_; have HO546 := n1_; have HO549 := n2_; have HO552 := n3_; have HO555 := n4_; have HO558 := n5_; have HO563 := n6_; have HB := n7_; clear n0_ n1_ n2_ n3_ n4_ n5_ n6_ n7_; (try clear hb); (try clear hb2); (try clear hk); (try clear hi); (try clear ho0)) | ((with_reducible refine gate_callee (f := 19) rfl ?_); refine goesL_ (some 49) rfl rfl Try.func19 (by kernel_rfl) rfl #[.int .u32 t540, .int .i64 ((ji7) - 1)] rfl (by (try simp only [List.map_toArray, List.map_cons, List.map_nil]); first | done | (simp only [hji7]; rfl) | rfl | (show #[Value.int IntKind.u32 _, Value.int IntKind.i64 (wrap64 (ji7 - 1))] = _; rw [wz7.out]) | (simp only [List.length_drop, List.length_take]; rfl)) ?_; (with_reducible refine (seq_Num_Add.calls t540 ((ji7) - 1) t564 _ A14.out).mono ?_); rintro e w' ⟨rfl, ⟨nd, rfl⟩⟩; refine ⟨_, rfl, ?_⟩) | ((with_reducible refine gate_callee (f := 38) rfl ?_); refine goesL_ (some 51) rfl rfl Try.func38 (by kernel_rfl) rfl #[.int .u32 t540, .int .u32 t564, .slice Ao48 t556.length co48] rfl (by (try simp only [List.map_toArray, List.map_cons, List.map_nil]); first | done | rfl | (simp only [List.length_drop, List.length_take]; rfl)) ?_; (with_reducible refine (gaps_Set.calls k t540 t564 _ _ t556 t565 false _ ?side1 ?side2 A15.out).mono ?_); (case side1 => repeat (first | exact (Kd.R_reads' HO558.out).2.2 | (with_reducible refine Kd.C_alloc ?_ _) | (with_reducible refine Kd.C_drewN ?_ _) | (with_reducible refine Kd.C_drew ?_))); (case side2 => exact (Kd.R_reads' HO558.out).2.1); rintro e w50 ⟨v567, rfl, ho0, hb⟩; refine ⟨_, rfl, ?_⟩; have n0_ := Aside0.mk (Kd.R_elder' (by (with_reducible repeat (first | apply Kd.R_alloc | apply Kd.R_drewN | apply Kd.R_drew)); exact HO543.out) (Kd.R_base ho0) hb); have n1_ := Aside0.mk (Kd.R_elder' (by (with_reducible repeat (first | apply Kd.R_alloc | apply Kd.R_drewN | apply Kd.R_drew)); exact HO546.out) (Kd.R_base ho0) hb); have n2_ := Aside0.mk (Kd.R_below (by (with_reducible repeat (first | apply Kd.R_alloc | apply Kd.R_drewN | apply Kd.R_drew)); exact HO549.out) hb); have n3_ := Aside0.mk (Kd.R_elder' (by (with_reducible repeat (first | apply Kd.R_alloc | apply Kd.R_drewN | apply Kd.R_drew)); exact HO552.out) (Kd.R_base ho0) hb); have n4_ := Aside0.mk (Kd.R_elder' (by (with_reducible repeat (first | apply Kd.R_alloc | apply Kd.R_drewN | apply Kd.R_drew)); exact HO555.out) (Kd.R_base ho0) hb); have n5_ := Aside0.mk (Kd.R_below (by (with_reducible repeat (first | apply Kd.R_alloc | apply Kd.R_drewN | apply Kd.R_drew)); exact HO558.out) hb); have n6_ := Aside0.mk (Kd.R_elder' (by (with_reducible repeat (first | apply Kd.R_alloc | apply Kd.R_drewN | apply Kd.R_drew)); exact HO563.out) (Kd.R_base ho0) hb); have n7_ := Aside0.mk (Kd.R_lower (Kd.R_new' (Kd.R_new' (Kd.R_new' (Kd.R_new' (Kd.R_new' ho0 (Kd.R_lt (by (with_reducible repeat (first | apply Kd.R_alloc | apply Kd.R_drewN | apply Kd.R_drew)); exact HO543.out))) (Kd.R_lt (by (with_reducible repeat (first | apply Kd.R_alloc | apply Kd.R_drewN | apply Kd.R_drew)); exact HO546.out))) (Kd.R_lt (by (with_reducible repeat (first | apply Kd.R_alloc | apply Kd.R_drewN | apply Kd.R_drew)); exact HO552.out))) (Kd.R_lt (by (with_reducible repeat (first | apply Kd.R_alloc | apply Kd.R_drewN | apply Kd.R_drew)); exact HO555.out))) (Kd.R_lt (by (with_reducible repeat (first | apply Kd.R_alloc | apply Kd.R_drewN | apply Kd.R_drew)); exact HO563.out))) (below_size (by repeat (first | (with_reducible first | exact HB.out | apply below_alloc | apply pw_below_drewN | apply below_drew1) | exact HB.out)))); have n8_ := Aside0.mk (below_step (by repeat (first | (with_reducible first | exact HB.out | apply below_alloc | apply pw_below_drewN | apply below_drew1) | exact HB.out)) hb); clear HO543; clear HO546; clear HO549; clear HO552; clear HO555; clear HO558; clear HO563; clear HB; have HO543 := n0_; have HO546 := n1_; have HO549 := n2_; have HO552 := n3_; have HO555 := n4_; have HO558 := n5_; have HO563 := n6_; have HO568 := n7_; have HB := n8_; clear n0_ n1_ n2_ n3_ n4_ n5_ n6_ n7_ n8_; (try clear hb); (try clear hb2); (try clear hk); (try clear hi); (try clear ho0)) | ((with_reducible refine gate_callee (f := 38) rfl ?_); refine goesL_ (some 57) rfl rfl Try.func38 (by kernel_rfl) rfl #[.int .u32 t540, .int .u32 t540, .slice none 0 0] rfl (by (try simp only [List.map_toArray, List.map_cons, List.map_nil]); first | done | rfl | (simp only [List.length_drop, List.length_take]; rfl)) ?_; (refine (gaps_Set.calls k t540 t540 _ _ ([] : List Int) t569 true _ ?side1 ?side2 A16.out).mono ?_); (case side1 => exact Kd.C_nil _ _); (case side2 => exact Nat.le_refl _); rintro e w51 ⟨v571, rfl, ho0, hb⟩; refine ⟨_, rfl, ?_⟩; have n0_ := Aside0.mk (Kd.R_elder' (by (with_reducible repeat (first | apply Kd.R_alloc | apply Kd.R_drewN | apply Kd.R_drew)); exact HO543.out) (Kd.R_base ho0) hb); have n1_ := Aside0.mk (Kd.R_elder' (by (with_reducible repeat (first | apply Kd.R_alloc | apply Kd.R_drewN | apply Kd.R_drew)); exact HO546.out) (Kd.R_base ho0) hb); have n2_ := Aside0.mk (Kd.R_below (by (with_reducible repeat (first | apply Kd.R_alloc | apply Kd.R_drewN | apply Kd.R_drew)); exact HO549.out) hb); have n3_ := Aside0.mk (Kd.R_elder' (by (with_reducible repeat (first | apply Kd.R_alloc | apply Kd.R_drewN | apply Kd.R_drew)); exact HO552.out) (Kd.R_base ho0) hb); have n4_ := Aside0.mk (Kd.R_elder' (by (with_reducible repeat (first | apply Kd.R_alloc | apply Kd.R_drewN | apply Kd.R_drew)); exact HO555.out) (Kd.R_base ho0) hb); have n5_ := Aside0.mk (Kd.R_below (by (with_reducible repeat (first | apply Kd.R_alloc | apply Kd.R_drewN | apply Kd.R_drew)); exact HO558.out) hb); have n6_ := Aside0.mk (Kd.R_elder' (by (with_reducible repeat (first | apply Kd.R_alloc | apply Kd.R_drewN | apply Kd.R_drew)); exact HO563.out) (Kd.R_base ho0) hb); have n7_ := Aside0.mk (Kd.R_elder' (by (with_reducible repeat (first | apply Kd.R_alloc | apply Kd.R_drewN | apply Kd.R_drew)); exact HO568.out) (Kd.R_base ho0) hb); have n8_ := Aside0.mk (Kd.R_lower (Kd.R_new' (Kd.R_new' (Kd.R_new' (Kd.R_new' (Kd.R_new' (Kd.R_new' ho0 (Kd.R_lt (by (with_reducible repeat (first | apply Kd.R_alloc | apply Kd.R_drewN | apply Kd.R_drew)); exact HO543.out))) (Kd.R_lt (by (with_reducible repeat (first | apply Kd.R_alloc | apply Kd.R_drewN | apply Kd.R_drew)); exact HO546.out))) (Kd.R_lt (by (with_reducible repeat (first | apply Kd.R_alloc | apply Kd.R_drewN | apply Kd.R_drew)); exact HO552.out))) (Kd.R_lt (by (with_reducible repeat (first | apply Kd.R_alloc | apply Kd.R_drewN | apply Kd.R_drew)); exact HO555.out))) (Kd.R_lt (by (with_reducible repeat (first | apply Kd.R_alloc | apply Kd.R_drewN | apply Kd.R_drew)); exact HO563.out))) (Kd.R_lt (by (with_reducible repeat (first | apply Kd.R_alloc | apply Kd.R_drewN | apply Kd.R_drew)); exact HO568.out))) (below_size (by repeat (first | (with_reducible first | exact HB.out | apply below_alloc | apply pw_below_drewN | apply below_drew1) | exact HB.out)))); have n9_ := Aside0.mk (below_step (by repeat (first | (with_reducible first | exact HB.out | apply below_alloc | apply pw_below_drewN | apply below_drew1) | exact HB.out)) hb); clear HO543; clear HO546; clear HO549; clear HO552; clear HO555; clear HO558; clear HO563; clear HO568; clear HB; have HO543 := n0_; have HO546 := n1_; have HO549 := n2_; have HO552 := n3_; have HO555 := n4_; have HO558 := n5_; have HO563 := n6_; have HO568 := n7_; have HO572 := n8_; have HB := n9_; clear n0_ n1_ n2_ n3_ n4_ n5_ n6_ n7_ n8_ n9_; (try clear hb); (try clear hb2); (try clear hk); (try clear hi); (try clear ho0)))
                            have n0_ := Aside0.mk (Kd.R_drew HO543.out)
                            have n1_ := Aside0.mk (Kd.R_drew HO546.out)
                            have n2_ := Aside0.mk (Kd.R_drew HO549.out)
                            have n3_ := Aside0.mk (Kd.R_drew HO552.out)
                            have n4_ := Aside0.mk (Kd.R_drew HO555.out)
                            have n5_ := Aside0.mk (Kd.R_drew HO558.out)
                            have n6_ := Aside0.mk (Kd.R_drew HO563.out)
                            have n7_ := Aside0.mk (Kd.R_drew HO568.out)
                            have n8_ := Aside0.mk (Kd.R_drew HO572.out)
                            have n9_ := Aside0.mk (below_drew1 HB.out)
                            clear HO543
                            clear HO546
                            clear HO549
                            clear HO552
                            clear HO555
                            clear HO558
                            clear HO563
                            clear HO568
                            clear HO572
                            clear HB
                            have HO543 := n0_
                            have HO546 := n1_
                            have HO549 := n2_
                            have HO552 := n3_
                            have HO555 := n4_
                            have HO558 := n5_
                            have HO563 := n6_
                            have HO568 := n7_
                            have HO572 := n8_
                            have HB := n9_
                            clear n0_ n1_ n2_ n3_ n4_ n5_ n6_ n7_ n8_ n9_
                            have p576 : 0 ≤ (0 : Int) := (by omega)
                            have q576 : 0 < (t547.length : Int) := of_decide_eq_true (by first | (with_reducible assumption) | assumption)
                            try (obtain ⟨A_, c_, eo_⟩ := Kd.R_slice HO549.out; subst eo_)
                            obtain ⟨ad576, e576, hx576_0⟩ := Kd.at_int (Kd.R_reads' HO549.out).2.2 0 p576 q576
                            cases e576
                            have qi576 : (0 < t547.length) = True := eq_true (by omega)
                            (try rw [show ((0 : Int)).toNat = 0 from rfl] at hx576_0)
                            (try rw [Addr.add_zero'] at hx576_0)
                            replace p576 := eq_true p576
                            replace q576 := eq_true q576
                            have p578 : 0 ≤ (1 : Int) := (by omega)
                            have q578 : 1 < (t547.length : Int) := of_decide_eq_true (by first | (with_reducible assumption) | assumption)
                            try (obtain ⟨A_, c_, eo_⟩ := Kd.R_slice HO549.out; subst eo_)
                            obtain ⟨ad578, e578, hx578_0⟩ := Kd.at_int (Kd.R_reads' HO549.out).2.2 1 p578 q578
                            obtain rfl : ad576 = ad578 := (by injection e578)
                            (try simp only [show (1 : Int).toNat = 1 from rfl, Nat.reduceMul, Nat.reduceEqDiff, Go.Addr.add, ↓reduceIte] at hx578_0)
                            have qi578 : (1 < t547.length) = True := eq_true (by omega)
                            (try rw [show ((1 : Int)).toNat = 1 from rfl] at hx578_0)
                            replace p578 := eq_true p578
                            replace q578 := eq_true q578
                            have p579 : 0 ≤ (0 : Int) := (by omega)
                            have q579 : 0 < (t547.length : Int) := of_decide_eq_true (by first | (with_reducible assumption) | assumption)
                            try (obtain ⟨A_, c_, eo_⟩ := Kd.R_slice HO549.out; subst eo_)
                            obtain ⟨ad579, e579, hx579_0⟩ := Kd.at_int (Kd.R_reads' HO549.out).2.2 0 p579 q579
                            obtain rfl : ad576 = ad579 := (by injection e579)
                            have qi579 : (0 < t547.length) = True := eq_true (by omega)
                            (try rw [show ((0 : Int)).toNat = 0 from rfl] at hx579_0)
                            (try rw [Addr.add_zero'] at hx579_0)
                            replace p579 := eq_true p579
                            replace q579 := eq_true q579
                            refine start_ (n := 62) (S := fun w' => w'.cell? ad576 = some (.int .u32 (rd t547 0)) ∧ w'.cell? ⟨ad576.block, ad576.off + 1, none⟩ = some (.int .u32 (rd t547 1)) ∧ w'.cell? ad576 = some (.int .u32 (rd t547 0))) (ds := []) #[false, false, false, false, false, false, false, false, false, false, false, false, false, false, false, false, false, false, false, false, false, false, false, false, false, false, false, false, false, false, false, false, false, false, false, false, false, false, false, false, false, false, false, false, false, false, false, false, false, false, false, false, false, false, false, false, false, false, false, false, false, false] (by kernel_rfl) rfl rfl ⟨hx576_0, hx578_0, hx579_0⟩ (fun hHeld => ?_); refine with_tabW polliwoglaw09_GapsEmpty.tab10 polliwoglaw09_GapsEmpty.bits10 (fun HT_ HW_ => ?_)
                            generalize w51.drew = w52 at HO543 HO546 HO549 HO552 HO555 HO558 HO563 HO568 HO572 HB hx576_0 hx578_0 hx579_0 hHeld ⊢
                            refine pure_ (i := 0) (N := some 60) (v := ?_) (a' := ?_) #[true, false, false, false, false, false, false, false, false, false, false, false, false, false, false, false, false, false, false, false, false, false, false, false, false, false, false, false, false, false, false, false, false, false, false, false, false, false, false, false, false, false, false, false, false, false, false, false, false, false, false, false, false, false, false, false, false, false, false, false, false, false] rfl rfl (any_of HT_.out (by kernel_rfl)) (fun _ _ _ h => h) (Or.inl ⟨by rfl, ?_⟩) ?_ ?_
                            rotate_left
                            · intro w'
                              go_simp
                              with_reducible rfl
                            rotate_left
                            · simp only [Act.put, List.setIfInBounds_toArray, List.set_cons_zero, List.set_cons_succ, i64_w, i32_w]
                              rfl
                            refine one_ (i := 1) (N := some 61) #[true, true, false, false, false, false, false, false, false, false, false, false, false, false, false, false, false, false, false, false, false, false, false, false, false, false, false, false, false, false, false, false, false, false, false, false, false, false, false, false, false, false, false, false, false, false, false, false, false, false, false, false, false, false, false, false, false, false, false, false, false, false] rfl rfl (one_of HT_.out (by kernel_rfl)) (by decide) (fun K hK => ?_)
                            refine goes_ Try.func18 (by kernel_rfl) rfl #[.int .u32 t540, .slice none 0 0] (by rfl) rfl rfl (by (try simp only [List.map_toArray, List.map_cons, List.map_nil]); first | done | rfl | (simp only [List.length_drop, List.length_take]; rfl)) ?_
                            refine (gaps_List.calls k t540 _ _ ([] : List (S45)) t573 _ ?side1 ?side2 A17.out).mono ?_
                            (case side1 => exact Kd.C_nil _ _)
                            (case side2 => exact Nat.le_refl _)
                            rintro e w53 ⟨v574, rfl, ho0, hb⟩
                            have HS0_ := (hb.cell (World.block_lt_of_cell? _ _ (hHeld.1))).trans (hHeld.1)
                            have HS1_ := (hb.cell (World.block_lt_of_cell? _ _ (hHeld.2.1))).trans (hHeld.2.1)
                            have HS2_ := (hb.cell (World.block_lt_of_cell? _ _ (hHeld.2.2))).trans (hHeld.2.2)
                            refine ⟨_, rfl, ?_⟩
                            have n0_ := Aside0.mk (Kd.R_below (by (with_reducible repeat (first | apply Kd.R_alloc | apply Kd.R_drewN | apply Kd.R_drew)); exact HO543.out) hb)
                            have n1_ := Aside0.mk (Kd.R_below (by (with_reducible repeat (first | apply Kd.R_alloc | apply Kd.R_drewN | apply Kd.R_drew)); exact HO546.out) hb)
                            have n2_ := Aside0.mk (Kd.R_elder' (by (with_reducible repeat (first | apply Kd.R_alloc | apply Kd.R_drewN | apply Kd.R_drew)); exact HO549.out) (Kd.R_base ho0) hb)
                            have n3_ := Aside0.mk (Kd.R_below (by (with_reducible repeat (first | apply Kd.R_alloc | apply Kd.R_drewN | apply Kd.R_drew)); exact HO552.out) hb)
                            have n4_ := Aside0.mk (Kd.R_below (by (with_reducible repeat (first | apply Kd.R_alloc | apply Kd.R_drewN | apply Kd.R_drew)); exact HO555.out) hb)
                            have n5_ := Aside0.mk (Kd.R_elder' (by (with_reducible repeat (first | apply Kd.R_alloc | apply Kd.R_drewN | apply Kd.R_drew)); exact HO558.out) (Kd.R_base ho0) hb)
                            have n6_ := Aside0.mk (Kd.R_below (by (with_reducible repeat (first | apply Kd.R_alloc | apply Kd.R_drewN | apply Kd.R_drew)); exact HO563.out) hb)
                            have n7_ := Aside0.mk (Kd.R_below (by (with_reducible repeat (first | apply Kd.R_alloc | apply Kd.R_drewN | apply Kd.R_drew)); exact HO568.out) hb)
                            have n8_ := Aside0.mk (Kd.R_below (by (with_reducible repeat (first | apply Kd.R_alloc | apply Kd.R_drewN | apply Kd.R_drew)); exact HO572.out) hb)
                            have n9_ := Aside0.mk (Kd.R_lower (Kd.R_new' (Kd.R_new' ho0 (Kd.R_lt (by (with_reducible repeat (first | apply Kd.R_alloc | apply Kd.R_drewN | apply Kd.R_drew)); exact HO549.out))) (Kd.R_lt (by (with_reducible repeat (first | apply Kd.R_alloc | apply Kd.R_drewN | apply Kd.R_drew)); exact HO558.out))) (below_size (by repeat (first | (with_reducible first | exact HB.out | apply below_alloc | apply pw_below_drewN | apply below_drew1) | exact HB.out))))
                            have n10_ := Aside0.mk (below_step (by repeat (first | (with_reducible first | exact HB.out | apply below_alloc | apply pw_below_drewN | apply below_drew1) | exact HB.out)) hb)
                            clear HO543
                            clear HO546
                            clear HO549
                            clear HO552
                            clear HO555
                            clear HO558
                            clear HO563
                            clear HO568
                            clear HO572
                            clear HB
                            have HO543 := n0_
                            have HO546 := n1_
                            have HO549 := n2_
                            have HO552 := n3_
                            have HO555 := n4_
                            have HO558 := n5_
                            have HO563 := n6_
                            have HO568 := n7_
                            have HO572 := n8_
                            have HO575 := n9_
                            have HB := n10_
                            clear n0_ n1_ n2_ n3_ n4_ n5_ n6_ n7_ n8_ n9_ n10_
                            (try clear hb)
                            (try clear hb2)
                            (try clear hk)
                            (try clear hi)
                            (try clear ho0)
                            obtain ⟨Ao54, co54, eo54⟩ := Kd.R_slice HO575.out
                            (first | subst eo54 | (injection eo54 with f1_ f2_ f3_; have f4_ := f1_.symm; have f5_ := f3_.symm; clear f1_ f2_ f3_; subst f4_; subst f5_))
                            obtain ⟨Ao55, co55, eo55⟩ := Kd.R_slice HO549.out
                            (first | subst eo55 | (injection eo55 with f1_ f2_ f3_; have f4_ := f1_.symm; have f5_ := f3_.symm; clear f1_ f2_ f3_; subst f4_; subst f5_))
                            refine hK.out _ _ ⟨HS0_, HS1_, HS2_⟩ (fun hHeld => ?_)
                            clear hK K
                            refine norm_ (a' := ?_) ?_ ?_
                            rotate_left
                            · show Act.put _ (some 61) _ = _
                              simp only [Act.put, List.setIfInBounds_toArray, List.set_cons_zero, List.set_cons_succ, i64_w, i32_w]
                              rfl
                            refine pure_ (i := 2) (N := some 62) (v := ?_) (a' := ?_) #[true, true, true, false, false, false, false, false, false, false, false, false, false, false, false, false, false, false, false, false, false, false, false, false, false, false, false, false, false, false, false, false, false, false, false, false, false, false, false, false, false, false, false, false, false, false, false, false, false, false, false, false, false, false, false, false, false, false, false, false, false, false] rfl rfl (any_of HT_.out (by kernel_rfl)) (fun _ _ _ h => h) (Or.inl ⟨by rfl, ?_⟩) ?_ ?_
                            rotate_left
                            · intro w'
                              go_simp
                              with_reducible rfl
                            rotate_left
                            · simp only [Act.put, List.setIfInBounds_toArray, List.set_cons_zero, List.set_cons_succ, i64_w, i32_w]
                              rfl
                            refine pure_ (i := 3) (N := some 63) (v := ?_) (a' := ?_) #[true, true, true, true, false, false, false, false, false, false, false, false, false, false, false, false, false, false, false, false, false, false, false, false, false, false, false, false, false, false, false, false, false, false, false, false, false, false, false, false, false, false, false, false, false, false, false, false, false, false, false, false, false, false, false, false, false, false, false, false, false, false] rfl rfl (any_of HT_.out (by kernel_rfl)) (fun _ _ _ h => h) (Or.inl ⟨by rfl, ?_⟩) ?_ ?_
                            rotate_left
                            · intro w'
                              go_simp
                              with_reducible rfl
                            rotate_left
                            · simp only [Act.put, List.setIfInBounds_toArray, List.set_cons_zero, List.set_cons_succ, i64_w, i32_w]
                              rfl
                            refine pure_ (i := 4) (N := some 64) (v := ?_) (a' := ?_) #[true, true, true, true, true, false, false, false, false, false, false, false, false, false, false, false, false, false, false, false, false, false, false, false, false, false, false, false, false, false, false, false, false, false, false, false, false, false, false, false, false, false, false, false, false, false, false, false, false, false, false, false, false, false, false, false, false, false, false, false, false, false] rfl rfl (any_of HT_.out (by kernel_rfl)) (fun _ _ _ h => h) (Or.inl ⟨by rfl, ?_⟩) ?_ ?_
                            rotate_left
                            · intro w'
                              go_simp
                              with_reducible rfl
                            rotate_left
                            · simp only [Act.put, List.setIfInBounds_toArray, List.set_cons_zero, List.set_cons_succ, i64_w, i32_w]
                              rfl
                            refine pure_ (i := 5) (N := some 65) (v := ?_) (a' := ?_) #[true, true, true, true, true, true, false, false, false, false, false, false, false, false, false, false, false, false, false, false, false, false, false, false, false, false, false, false, false, false, false, false, false, false, false, false, false, false, false, false, false, false, false, false, false, false, false, false, false, false, false, false, false, false, false, false, false, false, false, false, false, false] rfl rfl (any_of HT_.out (by kernel_rfl)) (fun _ _ _ h => h) (Or.inl ⟨by rfl, ?_⟩) ?_ ?_
                            rotate_left
                            · intro w'
                              go_simp
                              with_reducible rfl
                            rotate_left
                            · simp only [Act.put, List.setIfInBounds_toArray, List.set_cons_zero, List.set_cons_succ, i64_w, i32_w]
                              rfl
                            refine pure_ (i := 6) (N := some 66) (v := ?_) (a' := ?_) #[true, true, true, true, true, true, true, false, false, false, false, false, false, false, false, false, false, false, false, false, false, false, false, false, false, false, false, false, false, false, false, false, false, false, false, false, false, false, false, false, false, false, false, false, false, false, false, false, false, false, false, false, false, false, false, false, false, false, false, false, false, false] rfl rfl (any_of HT_.out (by kernel_rfl)) (fun _ _ _ h => h) (Or.inl ⟨by rfl, ?_⟩) ?_ ?_
                            rotate_left
                            · intro w'
                              go_simp
                              with_reducible rfl
                            rotate_left
                            · simp only [Act.put, List.setIfInBounds_toArray, List.set_cons_zero, List.set_cons_succ, i64_w, i32_w]
                              rfl
                            refine pure_ (i := 7) (N := some 67) (v := ?_) (a' := ?_) #[true, true, true, true, true, true, true, true, false, false, false, false, false, false, false, false, false, false, false, false, false, false, false, false, false, false, false, false, false, false, false, false, false, false, false, false, false, false, false, false, false, false, false, false, false, false, false, false, false, false, false, false, false, false, false, false, false, false, false, false, false, false] rfl rfl (any_of HT_.out (by kernel_rfl)) (fun _ _ _ h => h) (Or.inl ⟨by rfl, ?_⟩) ?_ ?_
                            rotate_left
                            · intro w'
                              go_simp
                              with_reducible rfl
                            rotate_left
                            · simp only [Act.put, List.setIfInBounds_toArray, List.set_cons_zero, List.set_cons_succ, i64_w, i32_w]
                              rfl
                            refine pure_ (i := 8) (N := some 68) (v := ?_) (a' := ?_) #[true, true, true, true, true, true, true, true, true, false, false, false, false, false, false, false, false, false, false, false, false, false, false, false, false, false, false, false, false, false, false, false, false, false, false, false, false, false, false, false, false, false, false, false, false, false, false, false, false, false, false, false, false, false, false, false, false, false, false, false, false, false] rfl rfl (any_of HT_.out (by kernel_rfl)) (fun _ _ _ h => h) (Or.inl ⟨by rfl, ?_⟩) ?_ ?_
                            rotate_left
                            · intro w'
                              go_simp
                              with_reducible rfl
                            rotate_left
                            · simp only [Act.put, List.setIfInBounds_toArray, List.set_cons_zero, List.set_cons_succ, i64_w, i32_w]
                              rfl
                            refine pure_ (i := 9) (N := some 69) (v := ?_) (a' := ?_) #[true, true, true, true, true, true, true, true, true, true, false, false, false, false, false, false, false, false, false, false, false, false, false, false, false, false, false, false, false, false, false, false, false, false, false, false, false, false, false, false, false, false, false, false, false, false, false, false, false, false, false, false, false, false, false, false, false, false, false, false, false, false] rfl rfl (any_of HT_.out (by kernel_rfl)) (fun _ _ _ h => h) (Or.inl ⟨by rfl, ?_⟩) ?_ ?_
                            rotate_left
                            · intro w'
                              go_simp
                              with_reducible rfl
                            rotate_left
                            · simp only [Act.put, List.setIfInBounds_toArray, List.set_cons_zero, List.set_cons_succ, i64_w, i32_w]
                              rfl
                            refine pure_ (i := 10) (N := some 70) (v := ?_) (a' := ?_) #[true, true, true, true, true, true, true, true, true, true, true, false, false, false, false, false, false, false, false, false, false, false, false, false, false, false, false, false, false, false, false, false, false, false, false, false, false, false, false, false, false, false, false, false, false, false, false, false, false, false, false, false, false, false, false, false, false, false, false, false, false, false] rfl rfl (any_of HT_.out (by kernel_rfl)) (fun _ _ _ h => h) (Or.inl ⟨by rfl, ?_⟩) ?_ ?_
                            rotate_left
                            · intro w'
                              go_simp
                              with_reducible rfl
                            rotate_left
                            · simp only [Act.put, List.setIfInBounds_toArray, List.set_cons_zero, List.set_cons_succ, i64_w, i32_w]
                              rfl
                            refine pure_ (i := 11) (N := some 71) (v := ?_) (a' := ?_) #[true, true, true, true, true, true, true, true, true, true, true, true, false, false, false, false, false, false, false, false, false, false, false, false, false, false, false, false, false, false, false, false, false, false, false, false, false, false, false, false, false, false, false, false, false, false, false, false, false, false, false, false, false, false, false, false, false, false, false, false, false, false] rfl rfl (any_of HT_.out (by kernel_rfl)) (fun _ _ _ h => h) (Or.inl ⟨by rfl, ?_⟩) ?_ ?_
                            rotate_left
                            · intro w'
                              go_simp
                              with_reducible rfl
                            rotate_left
                            · simp only [Act.put, List.setIfInBounds_toArray, List.set_cons_zero, List.set_cons_succ, i64_w, i32_w]
                              rfl
                            refine pure_ (i := 14) (N := some 74) (v := ?_) (a' := ?_) #[true, true, true, true, true, true, true, true, true, true, true, true, false, false, true, false, false, false, false, false, false, false, false, false, false, false, false, false, false, false, false, false, false, false, false, false, false, false, false, false, false, false, false, false, false, false, false, false, false, false, false, false, false, false, false, false, false, false, false, false, false, false] rfl rfl (any_of HT_.out (by kernel_rfl)) (fun _ _ _ h => h) (Or.inl ⟨by rfl, ?_⟩) ?_ ?_
                            rotate_left
                            · intro w'
                              go_simp
                              with_reducible rfl
                            rotate_left
                            · simp only [Act.put, List.setIfInBounds_toArray, List.set_cons_zero, List.set_cons_succ, i64_w, i32_w]
                              rfl
                            refine pure_ (i := 15) (N := some 75) (v := ?_) (a' := ?_) #[true, true, true, true, true, true, true, true, true, true, true, true, false, false, true, true, false, false, false, false, false, false, false, false, false, false, false, false, false, false, false, false, false, false, false, false, false, false, false, false, false, false, false, false, false, false, false, false, false, false, false, false, false, false, false, false, false, false, false, false, false, false] rfl rfl (any_of HT_.out (by kernel_rfl)) (fun _ _ _ h => h) (Or.inl ⟨by rfl, ?_⟩) ?_ ?_
                            rotate_left
                            · intro w'
                              go_simp
                              with_reducible rfl
                            rotate_left
                            · simp only [Act.put, List.setIfInBounds_toArray, List.set_cons_zero, List.set_cons_succ, i64_w, i32_w]
                              rfl
                            refine take_ (i := 12) (N := some 72) (v := ?_) (a' := ?_) #[true, true, true, true, true, true, true, true, true, true, true, true, true, false, true, true, false, false, false, false, false, false, false, false, false, false, false, false, false, false, false, false, false, false, false, false, false, false, false, false, false, false, false, false, false, false, false, false, false, false, false, false, false, false, false, false, false, false, false, false, false, false] rfl rfl (take_ofW HT_.out HW_.out (by kernel_rfl)) (fun _ _ _ h => h) (Or.inl ⟨by rfl, ?_⟩) hHeld ?_ ?_
                            rotate_left
                            · rintro w' ⟨s0, s1, s2⟩
                              go_simp
                              with_reducible rfl
                            rotate_left
                            · simp only [Act.put, List.setIfInBounds_toArray, List.set_cons_zero, List.set_cons_succ, i64_w, i32_w]
                              rfl
                            refine take_ (i := 16) (N := some 76) (v := ?_) (a' := ?_) #[true, true, true, true, true, true, true, true, true, true, true, true, true, false, true, true, true, false, false, false, false, false, false, false, false, false, false, false, false, false, false, false, false, false, false, false, false, false, false, false, false, false, false, false, false, false, false, false, false, false, false, false, false, false, false, false, false, false, false, false, false, false] rfl rfl (take_ofW HT_.out HW_.out (by kernel_rfl)) (fun _ _ _ h => h) (Or.inl ⟨by rfl, ?_⟩) hHeld ?_ ?_
                            rotate_left
                            · rintro w' ⟨s0, s1, s2⟩
                              go_simp
                              with_reducible rfl
                            rotate_left
                            · simp only [Act.put, List.setIfInBounds_toArray, List.set_cons_zero, List.set_cons_succ, i64_w, i32_w]
                              rfl
                            refine one_ (i := 13) (N := some 73) #[true, true, true, true, true, true, true, true, true, true, true, true, true, true, true, true, true, false, false, false, false, false, false, false, false, false, false, false, false, false, false, false, false, false, false, false, false, false, false, false, false, false, false, false, false, false, false, false, false, false, false, false, false, false, false, false, false, false, false, false, false, false] rfl rfl (one_of HT_.out (by kernel_rfl)) (by decide) (fun K hK => ?_)
                            refine goes_ Try.func19 (by kernel_rfl) rfl #[.int .u32 (rd t547 0), .int .i64 1] (by rfl) rfl rfl (by (try simp only [List.map_toArray, List.map_cons, List.map_nil]); first | done | rfl | (simp only [List.length_drop, List.length_take]; rfl)) ?_
                            with_reducible refine (seq_Num_Add.calls (rd t547 0) 1 t577 _ A21.out).mono ?_
                            rintro e w' ⟨rfl, ⟨nd, rfl⟩⟩
                            refine ⟨_, rfl, ?_⟩
                            refine hK.out _ _ ⟨hHeld.1, hHeld.2.1, hHeld.2.2⟩ (fun hHeld => ?_)
                            clear hK K
                            refine norm_ (a' := ?_) ?_ ?_
                            rotate_left
                            · show Act.put _ (some 73) _ = _
                              simp only [Act.put, List.setIfInBounds_toArray, List.set_cons_zero, List.set_cons_succ, i64_w, i32_w]
                              rfl
                            refine pure_ (i := 17) (N := some 77) (v := ?_) (a' := ?_) #[true, true, true, true, true, true, true, true, true, true, true, true, true, true, true, true, true, true, false, false, false, false, false, false, false, false, false, false, false, false, false, false, false, false, false, false, false, false, false, false, false, false, false, false, false, false, false, false, false, false, false, false, false, false, false, false, false, false, false, false, false, false] rfl rfl (any_of HT_.out (by kernel_rfl)) (fun _ _ _ h => h) (Or.inl ⟨by rfl, ?_⟩) ?_ ?_
                            rotate_left
                            · intro w'
                              go_simp
                              with_reducible rfl
                            rotate_left
                            · simp only [Act.put, List.setIfInBounds_toArray, List.set_cons_zero, List.set_cons_succ, i64_w, i32_w]
                              rfl
                            refine pure_ (i := 18) (N := some 78) (v := ?_) (a' := ?_) #[true, true, true, true, true, true, true, true, true, true, true, true, true, true, true, true, true, true, true, false, false, false, false, false, false, false, false, false, false, false, false, false, false, false, false, false, false, false, false, false, false, false, false, false, false, false, false, false, false, false, false, false, false, false, false, false, false, false, false, false, false, false] rfl rfl (any_of HT_.out (by kernel_rfl)) (fun _ _ _ h => h) (Or.inl ⟨by rfl, ?_⟩) ?_ ?_
                            rotate_left
                            · intro w'
                              go_simp
                              with_reducible rfl
                            rotate_left
                            · simp only [Act.put, List.setIfInBounds_toArray, List.set_cons_zero, List.set_cons_succ, i64_w, i32_w]
                              rfl
                            refine pure_ (i := 19) (N := some 79) (v := ?_) (a' := ?_) #[true, true, true, true, true, true, true, true, true, true, true, true, true, true, true, true, true, true, true, true, false, false, false, false, false, false, false, false, false, false, false, false, false, false, false, false, false, false, false, false, false, false, false, false, false, false, false, false, false, false, false, false, false, false, false, false, false, false, false, false, false, false] rfl rfl (any_of HT_.out (by kernel_rfl)) (fun _ _ _ h => h) (Or.inl ⟨by rfl, ?_⟩) ?_ ?_
                            rotate_left
                            · intro w'
                              go_simp
                              with_reducible rfl
                            rotate_left
                            · simp only [Act.put, List.setIfInBounds_toArray, List.set_cons_zero, List.set_cons_succ, i64_w, i32_w]
                              rfl
                            refine pure_ (i := 20) (N := some 80) (v := ?_) (a' := ?_) #[true, true, true, true, true, true, true, true, true, true, true, true, true, true, true, true, true, true, true, true, true, false, false, false, false, false, false, false, false, false, false, false, false, false, false, false, false, false, false, false, false, false, false, false, false, false, false, false, false, false, false, false, false, false, false, false, false, false, false, false, false, false] rfl rfl (any_of HT_.out (by kernel_rfl)) (fun _ _ _ h => h) (Or.inl ⟨by rfl, ?_⟩) ?_ ?_
                            rotate_left
                            · intro w'
                              go_simp
                              with_reducible rfl
                            rotate_left
                            · simp only [Act.put, List.setIfInBounds_toArray, List.set_cons_zero, List.set_cons_succ, i64_w, i32_w]
                              rfl
                            refine pure_ (i := 21) (N := some 81) (v := ?_) (a' := ?_) #[true, true, true, true, true, true, true, true, true, true, true, true, true, true, true, true, true, true, true, true, true, true, false, false, false, false, false, false, false, false, false, false, false, false, false, false, false, false, false, false, false, false, false, false, false, false, false, false, false, false, false, false, false, false, false, false, false, false, false, false, false, false] rfl rfl (any_of HT_.out (by kernel_rfl)) (fun _ _ _ h => h) (Or.inl ⟨by rfl, ?_⟩) ?_ ?_
                            rotate_left
                            · intro w'
                              go_simp
                              with_reducible rfl
                            rotate_left
                            · simp only [Act.put, List.setIfInBounds_toArray, List.set_cons_zero, List.set_cons_succ, i64_w, i32_w]
                              rfl
                            refine pure_ (i := 23) (N := some 83) (v := ?_) (a' := ?_) #[true, true, true, true, true, true, true, true, true, true, true, true, true, true, true, true, true, true, true, true, true, true, false, true, false, false, false, false, false, false, false, false, false, false, false, false, false, false, false, false, false, false, false, false, false, false, false, false, false, false, false, false, false, false, false, false, false, false, false, false, false, false] rfl rfl (any_of HT_.out (by kernel_rfl)) (fun _ _ _ h => h) (Or.inl ⟨by rfl, ?_⟩) ?_ ?_
                            rotate_left
                            · intro w'
                              go_simp
                              with_reducible rfl
                            rotate_left
                            · simp only [Act.put, List.setIfInBounds_toArray, List.set_cons_zero, List.set_cons_succ, i64_w, i32_w]
                              rfl
                            refine pure_ (i := 24) (N := some 84) (v := ?_) (a' := ?_) #[true, true, true, true, true, true, true, true, true, true, true, true, true, true, true, true, true, true, true, true, true, true, false, true, true, false, false, false, false, false, false, false, false, false, false, false, false, false, false, false, false, false, false, false, false, false, false, false, false, false, false, false, false, false, false, false, false, false, false, false, false, false] rfl rfl (any_of HT_.out (by kernel_rfl)) (fun _ _ _ h => h) (Or.inl ⟨by rfl, ?_⟩) ?_ ?_
                            rotate_left
                            · intro w'
                              go_simp
                              with_reducible rfl
                            rotate_left
                            · simp only [Act.put, List.setIfInBounds_toArray, List.set_cons_zero, List.set_cons_succ, i64_w, i32_w]
                              rfl
                            refine pure_ (i := 25) (N := some 85) (v := ?_) (a' := ?_) #[true, true, true, true, true, true, true, true, true, true, true, true, true, true, true, true, true, true, true, true, true, true, false, true, true, true, false, false, false, false, false, false, false, false, false, false, false, false, false, false, false, false, false, false, false, false, false, false, false, false, false, false, false, false, false, false, false, false, false, false, false, false] rfl rfl (any_of HT_.out (by kernel_rfl)) (fun _ _ _ h => h) (Or.inl ⟨by rfl, ?_⟩) ?_ ?_
                            rotate_left
                            · intro w'
                              go_simp
                              with_reducible rfl
                            rotate_left
                            · simp only [Act.put, List.setIfInBounds_toArray, List.set_cons_zero, List.set_cons_succ, i64_w, i32_w]
                              rfl
                            refine take_ (i := 22) (N := some 82) (v := ?_) (a' := ?_) #[true, true, true, true, true, true, true, true, true, true, true, true, true, true, true, true, true, true, true, true, true, true, true, true, true, true, false, false, false, false, false, false, false, false, false, false, false, false, false, false, false, false, false, false, false, false, false, false, false, false, false, false, false, false, false, false, false, false, false, false, false, false] rfl rfl (take_ofW HT_.out HW_.out (by kernel_rfl)) (fun _ _ _ h => h) (Or.inl ⟨by rfl, ?_⟩) hHeld ?_ ?_
                            rotate_left
                            · rintro w' ⟨s0, s1, s2⟩
                              go_simp
                              with_reducible rfl
                            rotate_left
                            · simp only [Act.put, List.setIfInBounds_toArray, List.set_cons_zero, List.set_cons_succ, i64_w, i32_w]
                              rfl
                            refine one_ (i := 26) (N := some 86) #[true, true, true, true, true, true, true, true, true, true, true, true, true, true, true, true, true, true, true, true, true, true, true, true, true, true, true, false, false, false, false, false, false, false, false, false, false, false, false, false, false, false, false, false, false, false, false, false, false, false, false, false, false, false, false, false, false, false, false, false, false, false] rfl rfl (one_of HT_.out (by kernel_rfl)) (by decide) (fun K hK => ?_)
                            refine goes_ Try.func19 (by kernel_rfl) rfl #[.int .u32 t540, .int .i64 ((ji7) - 1)] (by rfl) rfl rfl (by (try simp only [List.map_toArray, List.map_cons, List.map_nil]); first | done | (simp only [hji7]; rfl) | rfl | (show #[Value.int IntKind.u32 _, Value.int IntKind.i64 (wrap64 (ji7 - 1))] = _; rw [wz7.out]) | (simp only [List.length_drop, List.length_take]; rfl)) ?_
                            with_reducible refine (seq_Num_Add.calls t540 ((ji7) - 1) t580 _ A24.out).mono ?_
                            rintro e w' ⟨rfl, ⟨nd, rfl⟩⟩
                            refine ⟨_, rfl, ?_⟩
                            obtain ⟨Ao56, co56, eo56⟩ := Kd.R_slice HO563.out
                            (first | subst eo56 | (injection eo56 with f1_ f2_ f3_; have f4_ := f1_.symm; have f5_ := f3_.symm; clear f1_ f2_ f3_; subst f4_; subst f5_))
                            refine hK.out _ _ ⟨hHeld.1, hHeld.2.1, hHeld.2.2⟩ (fun hHeld => ?_)
                            clear hK K
                            refine norm_ (a' := ?_) ?_ ?_
                            rotate_left
                            · show Act.put _ (some 86) _ = _
                              simp only [Act.put, List.setIfInBounds_toArray, List.set_cons_zero, List.set_cons_succ, i64_w, i32_w]
                              rfl
                            refine pure_ (i := 27) (N := some 87) (v := ?_) (a' := ?_) #[true, true, true, true, true, true, true, true, true, true, true, true, true, true, true, true, true, true, true, true, true, true, true, true, true, true, true, true, false, false, false, false, false, false, false, false, false, false, false, false, false, false, false, false, false, false, false, false, false, false, false, false, false, false, false, false, false, false, false, false, false, false] rfl rfl (any_of HT_.out (by kernel_rfl)) (fun _ _ _ h => h) (Or.inl ⟨by rfl, ?_⟩) ?_ ?_
                            rotate_left
                            · intro w'
                              go_simp
                              with_reducible rfl
                            rotate_left
                            · simp only [Act.put, List.setIfInBounds_toArray, List.set_cons_zero, List.set_cons_succ, i64_w, i32_w]
                              rfl
                            refine pure_ (i := 28) (N := some 88) (v := ?_) (a' := ?_) #[true, true, true, true, true, true, true, true, true, true, true, true, true, true, true, true, true, true, true, true, true, true, true, true, true, true, true, true, true, false, false, false, false, false, false, false, false, false, false, false, false, false, false, false, false, false, false, false, false, false, false, false, false, false, false, false, false, false, false, false, false, false] rfl rfl (any_of HT_.out (by kernel_rfl)) (fun _ _ _ h => h) (Or.inl ⟨by rfl, ?_⟩) ?_ ?_
                            rotate_left
                            · intro w'
                              go_simp
                              with_reducible rfl
                            rotate_left
                            · simp only [Act.put, List.setIfInBounds_toArray, List.set_cons_zero, List.set_cons_succ, i64_w, i32_w]
                              rfl
                            refine pure_ (i := 29) (N := some 89) (v := ?_) (a' := ?_) #[true, true, true, true, true, true, true, true, true, true, true, true, true, true, true, true, true, true, true, true, true, true, true, true, true, true, true, true, true, true, false, false, false, false, false, false, false, false, false, false, false, false, false, false, false, false, false, false, false, false, false, false, false, false, false, false, false, false, false, false, false, false] rfl rfl (any_of HT_.out (by kernel_rfl)) (fun _ _ _ h => h) (Or.inl ⟨by rfl, ?_⟩) ?_ ?_
                            rotate_left
                            · intro w'
                              go_simp
                              with_reducible rfl
                            rotate_left
                            · simp only [Act.put, List.setIfInBounds_toArray, List.set_cons_zero, List.set_cons_succ, i64_w, i32_w]
                              rfl
                            refine pure_ (i := 30) (N := some 90) (v := ?_) (a' := ?_) #[true, true, true, true, true, true, true, true, true, true, true, true, true, true, true, true, true, true, true, true, true, true, true, true, true, true, true, true, true, true, true, false, false, false, false, false, false, false, false, false, false, false, false, false, false, false, false, false, false, false, false, false, false, false, false, false, false, false, false, false, false, false] rfl rfl (any_of HT_.out (by kernel_rfl)) (fun _ _ _ h => h) (Or.inl ⟨by rfl, ?_⟩) ?_ ?_
                            rotate_left
                            · intro w'
                              go_simp
                              with_reducible rfl
                            rotate_left
                            · simp only [Act.put, List.setIfInBounds_toArray, List.set_cons_zero, List.set_cons_succ, i64_w, i32_w]
                              rfl
                            refine pure_ (i := 31) (N := some 91) (v := ?_) (a' := ?_) #[true, true, true, true, true, true, true, true, true, true, true, true, true, true, true, true, true, true, true, true, true, true, true, true, true, true, true, true, true, true, true, true, false, false, false, false, false, false, false, false, false, false, false, false, false, false, false, false, false, false, false, false, false, false, false, false, false, false, false, false, false, false] rfl rfl (any_of HT_.out (by kernel_rfl)) (fun _ _ _ h => h) (Or.inl ⟨by rfl, ?_⟩) ?_ ?_
                            rotate_left
                            · intro w'
                              go_simp
                              with_reducible rfl
                            rotate_left
                            · simp only [Act.put, List.setIfInBounds_toArray, List.set_cons_zero, List.set_cons_succ, i64_w, i32_w]
                              rfl
                            refine pure_ (i := 32) (N := some 92) (v := ?_) (a' := ?_) #[true, true, true, true, true, true, true, true, true, true, true, true, true, true, true, true, true, true, true, true, true, true, true, true, true, true, true, true, true, true, true, true, true, false, false, false, false, false, false, false, false, false, false, false, false, false, false, false, false, false, false, false, false, false, false, false, false, false, false, false, false, false] rfl rfl (any_of HT_.out (by kernel_rfl)) (fun _ _ _ h => h) (Or.inl ⟨by rfl, ?_⟩) ?_ ?_
                            rotate_left
                            · intro w'
                              go_simp
                              with_reducible rfl
                            rotate_left
                            · simp only [Act.put, List.setIfInBounds_toArray, List.set_cons_zero, List.set_cons_succ, i64_w, i32_w]
                              rfl
                            refine pure_ (i := 33) (N := some 93) (v := ?_) (a' := ?_) #[true, true, true, true, true, true, true, true, true, true, true, true, true, true, true, true, true, true, true, true, true, true, true, true, true, true, true, true, true, true, true, true, true, true, false, false, false, false, false, false, false, false, false, false, false, false, false, false, false, false, false, false, false, false, false, false, false, false, false, false, false, false] rfl rfl (any_of HT_.out (by kernel_rfl)) (fun _ _ _ h => h) (Or.inl ⟨by rfl, ?_⟩) ?_ ?_
                            rotate_left
                            · intro w'
                              go_simp
                              with_reducible rfl
                            rotate_left
                            · simp only [Act.put, List.setIfInBounds_toArray, List.set_cons_zero, List.set_cons_succ, i64_w, i32_w]
                              rfl
                            refine pure_ (i := 34) (N := some 94) (v := ?_) (a' := ?_) #[true, true, true, true, true, true, true, true, true, true, true, true, true, true, true, true, true, true, true, true, true, true, true, true, true, true, true, true, true, true, true, true, true, true, true, false, false, false, false, false, false, false, false, false, false, false, false, false, false, false, false, false, false, false, false, false, false, false, false, false, false, false] rfl rfl (any_of HT_.out (by kernel_rfl)) (fun _ _ _ h => h) (Or.inl ⟨by rfl, ?_⟩) ?_ ?_
                            rotate_left
                            · intro w'
                              go_simp
                              with_reducible rfl
                            rotate_left
                            · simp only [Act.put, List.setIfInBounds_toArray, List.set_cons_zero, List.set_cons_succ, i64_w, i32_w]
                              rfl
                            refine pure_ (i := 35) (N := some 95) (v := ?_) (a' := ?_) #[true, true, true, true, true, true, true, true, true, true, true, true, true, true, true, true, true, true, true, true, true, true, true, true, true, true, true, true, true, true, true, true, true, true, true, true, false, false, false, false, false, false, false, false, false, false, false, false, false, false, false, false, false, false, false, false, false, false, false, false, false, false] rfl rfl (any_of HT_.out (by kernel_rfl)) (fun _ _ _ h => h) (Or.inl ⟨by rfl, ?_⟩) ?_ ?_
                            rotate_left
                            · intro w'
                              go_simp
                              with_reducible rfl
                            rotate_left
                            · simp only [Act.put, List.setIfInBounds_toArray, List.set_cons_zero, List.set_cons_succ, i64_w, i32_w]
                              rfl
                            refine pure_ (i := 36) (N := some 96) (v := ?_) (a' := ?_) #[true, true, true, true, true, true, true, true, true, true, true, true, true, true, true, true, true, true, true, true, true, true, true, true, true, true, true, true, true, true, true, true, true, true, true, true, true, false, false, false, false, false, false, false, false, false, false, false, false, false, false, false, false, false, false, false, false, false, false, false, false, false] rfl rfl (any_of HT_.out (by kernel_rfl)) (fun _ _ _ h => h) (Or.inl ⟨by rfl, ?_⟩) ?_ ?_
                            rotate_left
                            · intro w'
                              go_simp
                              with_reducible rfl
                            rotate_left
                            · simp only [Act.put, List.setIfInBounds_toArray, List.set_cons_zero, List.set_cons_succ, i64_w, i32_w]
                              rfl
                            refine pure_ (i := 37) (N := some 97) (v := ?_) (a' := ?_) #[true, true, true, true, true, true, true, true, true, true, true, true, true, true, true, true, true, true, true, true, true, true, true, true, true, true, true, true, true, true, true, true, true, true, true, true, true, true, false, false, false, false, false, false, false, false, false, false, false, false, false, false, false, false, false, false, false, false, false, false, false, false] rfl rfl (any_of HT_.out (by kernel_rfl)) (fun _ _ _ h => h) (Or.inl ⟨by rfl, ?_⟩) ?_ ?_
                            rotate_left
                            · intro w'
                              go_simp
                              with_reducible rfl
                            rotate_left
                            · simp only [Act.put, List.setIfInBounds_toArray, List.set_cons_zero, List.set_cons_succ, i64_w, i32_w]
                              rfl
                            refine pure_ (i := 38) (N := some 98) (v := ?_) (a' := ?_) #[true, true, true, true, true, true, true, true, true, true, true, true, true, true, true, true, true, true, true, true, true, true, true, true, true, true, true, true, true, true, true, true, true, true, true, true, true, true, true, false, false, false, false, false, false, false, false, false, false, false, false, false, false, false, false, false, false, false, false, false, false, false] rfl rfl (any_of HT_.out (by kernel_rfl)) (fun _ _ _ h => h) (Or.inl ⟨by rfl, ?_⟩) ?_ ?_
                            rotate_left
                            · intro w'
                              go_simp
                              with_reducible rfl
                            rotate_left
                            · simp only [Act.put, List.setIfInBounds_toArray, List.set_cons_zero, List.set_cons_succ, i64_w, i32_w]
                              rfl
                            refine pure_ (i := 40) (N := some 100) (v := ?_) (a' := ?_) #[true, true, true, true, true, true, true, true, true, true, true, true, true, true, true, true, true, true, true, true, true, true, true, true, true, true, true, true, true, true, true, true, true, true, true, true, true, true, true, false, true, false, false, false, false, false, false, false, false, false, false, false, false, false, false, false, false, false, false, false, false, false] rfl rfl (any_of HT_.out (by kernel_rfl)) (fun _ _ _ h => h) (Or.inl ⟨by rfl, ?_⟩) ?_ ?_
                            rotate_left
                            · intro w'
                              go_simp
                              with_reducible rfl
                            rotate_left
                            · simp only [Act.put, List.setIfInBounds_toArray, List.set_cons_zero, List.set_cons_succ, i64_w, i32_w]
                              rfl
                            refine one_ (i := 39) (N := some 99) #[true, true, true, true, true, true, true, true, true, true, true, true, true, true, true, true, true, true, true, true, true, true, true, true, true, true, true, true, true, true, true, true, true, true, true, true, true, true, true, true, true, false, false, false, false, false, false, false, false, false, false, false, false, false, false, false, false, false, false, false, false, false] rfl rfl (one_of HT_.out (by kernel_rfl)) (by decide) (fun K hK => ?_)
                            refine goes_ Try.func39 (by kernel_rfl) rfl #[.slice Ao56 t560.length co56] (by rfl) rfl rfl (by (try simp only [List.map_toArray, List.map_cons, List.map_nil]); first | done | rfl | (simp only [List.length_drop, List.length_take]; rfl)) ?_
                            with_reducible refine (span_Set_Len.calls k _ _ t560 t581 _ ?side1 ?side2 A28.out).mono ?_
                            (case side1 => repeat (first | exact (Kd.R_reads' HO563.out).2.2 | (with_reducible refine Kd.C_alloc ?_ _) | (with_reducible refine Kd.C_drewN ?_ _) | (with_reducible refine Kd.C_drew ?_)))
                            (case side2 => exact (Kd.R_reads' HO563.out).2.1)
                            rintro e w57 ⟨rfl, hb⟩
                            have HS0_ := (hb.cell (World.block_lt_of_cell? _ _ (hHeld.1))).trans (hHeld.1)
                            have HS1_ := (hb.cell (World.block_lt_of_cell? _ _ (hHeld.2.1))).trans (hHeld.2.1)
                            have HS2_ := (hb.cell (World.block_lt_of_cell? _ _ (hHeld.2.2))).trans (hHeld.2.2)
                            refine ⟨_, rfl, ?_⟩
                            have n0_ := Aside0.mk (Kd.R_below (by (with_reducible repeat (first | apply Kd.R_alloc | apply Kd.R_drewN | apply Kd.R_drew)); exact HO543.out) hb)
                            have n1_ := Aside0.mk (Kd.R_below (by (with_reducible repeat (first | apply Kd.R_alloc | apply Kd.R_drewN | apply Kd.R_drew)); exact HO546.out) hb)
                            have n2_ := Aside0.mk (Kd.R_below (by (with_reducible repeat (first | apply Kd.R_alloc | apply Kd.R_drewN | apply Kd.R_drew)); exact HO549.out) hb)
                            have n3_ := Aside0.mk (Kd.R_below (by (with_reducible repeat (first | apply Kd.R_alloc | apply Kd.R_drewN | apply Kd.R_drew)); exact HO552.out) hb)
                            have n4_ := Aside0.mk (Kd.R_below (by (with_reducible repeat (first | apply Kd.R_alloc | apply Kd.R_drewN | apply Kd.R_drew)); exact HO555.out) hb)
                            have n5_ := Aside0.mk (Kd.R_below (by (with_reducible repeat (first | apply Kd.R_alloc | apply Kd.R_drewN | apply Kd.R_drew)); exact HO558.out) hb)
                            have n6_ := Aside0.mk (Kd.R_below (by (with_reducible repeat (first | apply Kd.R_alloc | apply Kd.R_drewN | apply Kd.R_drew)); exact HO563.out) hb)
                            have n7_ := Aside0.mk (Kd.R_below (by (with_reducible repeat (first | apply Kd.R_alloc | apply Kd.R_drewN | apply Kd.R_drew)); exact HO568.out) hb)
                            have n8_ := Aside0.mk (Kd.R_below (by (with_reducible repeat (first | apply Kd.R_alloc | apply Kd.R_drewN | apply Kd.R_drew)); exact HO572.out) hb)
                            have n9_ := Aside0.mk (Kd.R_below (by (with_reducible repeat (first | apply Kd.R_alloc | apply Kd.R_drewN | apply Kd.R_drew)); exact HO575.out) hb)
                            have n10_ := Aside0.mk (below_step (by repeat (first | (with_reducible first | exact HB.out | apply below_alloc | apply pw_below_drewN | apply below_drew1) | exact HB.out)) hb)
                            clear HO543
                            clear HO546
                            clear HO549
                            clear HO552
                            clear HO555
                            clear HO558
                            clear HO563
                            clear HO568
                            clear HO572
                            clear HO575
                            clear HB
                            have HO543 := n0_
                            have HO546 := n1_
                            have HO549 := n2_
                            have HO552 := n3_
                            have HO555 := n4_
                            have HO558 := n5_
                            have HO563 := n6_
                            have HO568 := n7_
                            have HO572 := n8_
                            have HO575 := n9_
                            have HB := n10_
                            clear n0_ n1_ n2_ n3_ n4_ n5_ n6_ n7_ n8_ n9_ n10_
                            (try clear hb)
                            (try clear hb2)
                            (try clear hk)
                            (try clear hi)
                            obtain ⟨Ao58, co58, eo58⟩ := Kd.R_slice HO572.out
                            (first | subst eo58 | (injection eo58 with f1_ f2_ f3_; have f4_ := f1_.symm; have f5_ := f3_.symm; clear f1_ f2_ f3_; subst f4_; subst f5_))
                            refine hK.out _ _ ⟨HS0_, HS1_, HS2_⟩ (fun hHeld => ?_)
                            clear hK K
                            refine norm_ (a' := ?_) ?_ ?_
                            rotate_left
                            · show Act.put _ (some 99) _ = _
                              simp only [Act.put, List.setIfInBounds_toArray, List.set_cons_zero, List.set_cons_succ, i64_w, i32_w]
                              rfl
                            refine pure_ (i := 41) (N := some 101) (v := ?_) (a' := ?_) #[true, true, true, true, true, true, true, true, true, true, true, true, true, true, true, true, true, true, true, true, true, true, true, true, true, true, true, true, true, true, true, true, true, true, true, true, true, true, true, true, true, true, false, false, false, false, false, false, false, false, false, false, false, false, false, false, false, false, false, false, false, false] rfl rfl (any_of HT_.out (by kernel_rfl)) (fun _ _ _ h => h) (Or.inl ⟨by rfl, ?_⟩) ?_ ?_
                            rotate_left
                            · intro w'
                              go_simp
                              with_reducible rfl
                            rotate_left
                            · simp only [Act.put, List.setIfInBounds_toArray, List.set_cons_zero, List.set_cons_succ, i64_w, i32_w]
                              rfl
                            refine pure_ (i := 42) (N := some 102) (v := ?_) (a' := ?_) #[true, true, true, true, true, true, true, true, true, true, true, true, true, true, true, true, true, true, true, true, true, true, true, true, true, true, true, true, true, true, true, true, true, true, true, true, true, true, true, true, true, true, true, false, false, false, false, false, false, false, false, false, false, false, false, false, false, false, false, false, false, false] rfl rfl (any_of HT_.out (by kernel_rfl)) (fun _ _ _ h => h) (Or.inl ⟨by rfl, ?_⟩) ?_ ?_
                            rotate_left
                            · intro w'
                              go_simp
                              with_reducible rfl
                            rotate_left
                            · simp only [Act.put, List.setIfInBounds_toArray, List.set_cons_zero, List.set_cons_succ, i64_w, i32_w]
                              rfl
                            refine pure_ (i := 43) (N := some 103) (v := ?_) (a' := ?_) #[true, true, true, true, true, true, true, true, true, true, true, true, true, true, true, true, true, true, true, true, true, true, true, true, true, true, true, true, true, true, true, true, true, true, true, true, true, true, true, true, true, true, true, true, false, false, false, false, false, false, false, false, false, false, false, false, false, false, false, false, false, false] rfl rfl (any_of HT_.out (by kernel_rfl)) (fun _ _ _ h => h) (Or.inl ⟨by rfl, ?_⟩) ?_ ?_
                            rotate_left
                            · intro w'
                              go_simp
                              with_reducible rfl
                            rotate_left
                            · simp only [Act.put, List.setIfInBounds_toArray, List.set_cons_zero, List.set_cons_succ, i64_w, i32_w]
                              rfl
                            refine pure_ (i := 44) (N := some 104) (v := ?_) (a' := ?_) #[true, true, true, true, true, true, true, true, true, true, true, true, true, true, true, true, true, true, true, true, true, true, true, true, true, true, true, true, true, true, true, true, true, true, true, true, true, true, true, true, true, true, true, true, true, false, false, false, false, false, false, false, false, false, false, false, false, false, false, false, false, false] rfl rfl (any_of HT_.out (by kernel_rfl)) (fun _ _ _ h => h) (Or.inl ⟨by rfl, ?_⟩) ?_ ?_
                            rotate_left
                            · intro w'
                              go_simp
                              with_reducible rfl
                            rotate_left
                            · simp only [Act.put, List.setIfInBounds_toArray, List.set_cons_zero, List.set_cons_succ, i64_w, i32_w]
                              rfl
                            refine pure_ (i := 45) (N := some 105) (v := ?_) (a' := ?_) #[true, true, true, true, true, true, true, true, true, true, true, true, true, true, true, true, true, true, true, true, true, true, true, true, true, true, true, true, true, true, true, true, true, true, true, true, true, true, true, true, true, true, true, true, true, true, false, false, false, false, false, false, false, false, false, false, false, false, false, false, false, false] rfl rfl (any_of HT_.out (by kernel_rfl)) (fun _ _ _ h => h) (Or.inl ⟨by rfl, ?_⟩) ?_ ?_
                            rotate_left
                            · intro w'
                              go_simp
                              with_reducible rfl
                            rotate_left
                            · simp only [Act.put, List.setIfInBounds_toArray, List.set_cons_zero, List.set_cons_succ, i64_w, i32_w]
                              rfl
                            refine pure_ (i := 46) (N := some 106) (v := ?_) (a' := ?_) #[true, true, true, true, true, true, true, true, true, true, true, true, true, true, true, true, true, true, true, true, true, true, true, true, true, true, true, true, true, true, true, true, true, true, true, true, true, true, true, true, true, true, true, true, true, true, true, false, false, false, false, false, false, false, false, false, false, false, false, false, false, false] rfl rfl (any_of HT_.out (by kernel_rfl)) (fun _ _ _ h => h) (Or.inl ⟨by rfl, ?_⟩) ?_ ?_
                            rotate_left
                            · intro w'
                              go_simp
                              with_reducible rfl
                            rotate_left
                            · simp only [Act.put, List.setIfInBounds_toArray, List.set_cons_zero, List.set_cons_succ, i64_w, i32_w]
                              rfl
                            refine pure_ (i := 47) (N := some 107) (v := ?_) (a' := ?_) #[true, true, true, true, true, true, true, true, true, true, true, true, true, true, true, true, true, true, true, true, true, true, true, true, true, true, true, true, true, true, true, true, true, true, true, true, true, true, true, true, true, true, true, true, true, true, true, true, false, false, false, false, false, false, false, false, false, false, false, false, false, false] rfl rfl (any_of HT_.out (by kernel_rfl)) (fun _ _ _ h => h) (Or.inl ⟨by rfl, ?_⟩) ?_ ?_
                            rotate_left
                            · intro w'
                              go_simp
                              with_reducible rfl
                            rotate_left
                            · simp only [Act.put, List.setIfInBounds_toArray, List.set_cons_zero, List.set_cons_succ, i64_w, i32_w]
                              rfl
                            refine pure_ (i := 48) (N := some 108) (v := ?_) (a' := ?_) #[true, true, true, true, true, true, true, true, true, true, true, true, true, true, true, true, true, true, true, true, true, true, true, true, true, true, true, true, true, true, true, true, true, true, true, true, true, true, true, true, true, true, true, true, true, true, true, true, true, false, false, false, false, false, false, false, false, false, false, false, false, false] rfl rfl (any_of HT_.out (by kernel_rfl)) (fun _ _ _ h => h) (Or.inl ⟨by rfl, ?_⟩) ?_ ?_
                            rotate_left
                            · intro w'
                              go_simp
                              with_reducible rfl
                            rotate_left
                            · simp only [Act.put, List.setIfInBounds_toArray, List.set_cons_zero, List.set_cons_succ, i64_w, i32_w]
                              rfl
                            refine pure_ (i := 49) (N := some 109) (v := ?_) (a' := ?_) #[true, true, true, true, true, true, true, true, true, true, true, true, true, true, true, true, true, true, true, true, true, true, true, true, true, true, true, true, true, true, true, true, true, true, true, true, true, true, true, true, true, true, true, true, true, true, true, true, true, true, false, false, false, false, false, false, false, false, false, false, false, false] rfl rfl (any_of HT_.out (by kernel_rfl)) (fun _ _ _ h => h) (Or.inl ⟨by rfl, ?_⟩) ?_ ?_
                            rotate_left
                            · intro w'
                              go_simp
                              with_reducible rfl
                            rotate_left
                            · simp only [Act.put, List.setIfInBounds_toArray, List.set_cons_zero, List.set_cons_succ, i64_w, i32_w]
                              rfl
                            refine pure_ (i := 50) (N := some 110) (v := ?_) (a' := ?_) #[true, true, true, true, true, true, true, true, true, true, true, true, true, true, true, true, true, true, true, true, true, true, true, true, true, true, true, true, true, true, true, true, true, true, true, true, true, true, true, true, true, true, true, true, true, true, true, true, true, true, true, false, false, false, false, false, false, false, false, false, false, false] rfl rfl (any_of HT_.out (by kernel_rfl)) (fun _ _ _ h => h) (Or.inl ⟨by rfl, ?_⟩) ?_ ?_
                            rotate_left
                            · intro w'
                              go_simp
                              with_reducible rfl
                            rotate_left
                            · simp only [Act.put, List.setIfInBounds_toArray, List.set_cons_zero, List.set_cons_succ, i64_w, i32_w]
                              rfl
                            refine pure_ (i := 51) (N := some 111) (v := ?_) (a' := ?_) #[true, true, true, true, true, true, true, true, true, true, true, true, true, true, true, true, true, true, true, true, true, true, true, true, true, true, true, true, true, true, true, true, true, true, true, true, true, true, true, true, true, true, true, true, true, true, true, true, true, true, true, true, false, false, false, false, false, false, false, false, false, false] rfl rfl (any_of HT_.out (by kernel_rfl)) (fun _ _ _ h => h) (Or.inl ⟨by rfl, ?_⟩) ?_ ?_
                            rotate_left
                            · intro w'
                              go_simp
                              with_reducible rfl
                            rotate_left
                            · simp only [Act.put, List.setIfInBounds_toArray, List.set_cons_zero, List.set_cons_succ, i64_w, i32_w]
                              rfl
                            refine one_ (i := 52) (N := some 112) #[true, true, true, true, true, true, true, true, true, true, true, true, true, true, true, true, true, true, true, true, true, true, true, true, true, true, true, true, true, true, true, true, true, true, true, true, true, true, true, true, true, true, true, true, true, true, true, true, true, true, true, true, true, false, false, false, false, false, false, false, false, false] rfl rfl (one_of HT_.out (by kernel_rfl)) (by decide) (fun K hK => ?_)
                            refine goes_ Try.func39 (by kernel_rfl) rfl #[.slice Ao58 t569.length co58] (by rfl) rfl rfl (by (try simp only [List.map_toArray, List.map_cons, List.map_nil]); first | done | rfl | (simp only [List.length_drop, List.length_take]; rfl)) ?_
                            with_reducible refine (span_Set_Len.calls k _ _ t569 t582 _ ?side1 ?side2 A32.out).mono ?_
                            (case side1 => repeat (first | exact (Kd.R_reads' HO572.out).2.2 | (with_reducible refine Kd.C_alloc ?_ _) | (with_reducible refine Kd.C_drewN ?_ _) | (with_reducible refine Kd.C_drew ?_)))
                            (case side2 => exact (Kd.R_reads' HO572.out).2.1)
                            rintro e w59 ⟨rfl, hb⟩
                            have HS0_ := (hb.cell (World.block_lt_of_cell? _ _ (hHeld.1))).trans (hHeld.1)
                            have HS1_ := (hb.cell (World.block_lt_of_cell? _ _ (hHeld.2.1))).trans (hHeld.2.1)
                            have HS2_ := (hb.cell (World.block_lt_of_cell? _ _ (hHeld.2.2))).trans (hHeld.2.2)
                            refine ⟨_, rfl, ?_⟩
                            have n0_ := Aside0.mk (Kd.R_below (by (with_reducible repeat (first | apply Kd.R_alloc | apply Kd.R_drewN | apply Kd.R_drew)); exact HO543.out) hb)
                            have n1_ := Aside0.mk (Kd.R_below (by (with_reducible repeat (first | apply Kd.R_alloc | apply Kd.R_drewN | apply Kd.R_drew)); exact HO546.out) hb)
                            have n2_ := Aside0.mk (Kd.R_below (by (with_reducible repeat (first | apply Kd.R_alloc | apply Kd.R_drewN | apply Kd.R_drew)); exact HO549.out) hb)
                            have n3_ := Aside0.mk (Kd.R_below (by (with_reducible repeat (first | apply Kd.R_alloc | apply Kd.R_drewN | apply Kd.R_drew)); exact HO552.out) hb)
                            have n4_ := Aside0.mk (Kd.R_below (by (with_reducible repeat (first | apply Kd.R_alloc | apply Kd.R_drewN | apply Kd.R_drew)); exact HO555.out) hb)
                            have n5_ := Aside0.mk (Kd.R_below (by (with_reducible repeat (first | apply Kd.R_alloc | apply Kd.R_drewN | apply Kd.R_drew)); exact HO558.out) hb)
                            have n6_ := Aside0.mk (Kd.R_below (by (with_reducible repeat (first | apply Kd.R_alloc | apply Kd.R_drewN | apply Kd.R_drew)); exact HO563.out) hb)
                            have n7_ := Aside0.mk (Kd.R_below (by (with_reducible repeat (first | apply Kd.R_alloc | apply Kd.R_drewN | apply Kd.R_drew)); exact HO568.out) hb)
                            have n8_ := Aside0.mk (Kd.R_below (by (with_reducible repeat (first | apply Kd.R_alloc | apply Kd.R_drewN | apply Kd.R_drew)); exact HO572.out) hb)
                            have n9_ := Aside0.mk (Kd.R_below (by (with_reducible repeat (first | apply Kd.R_alloc | apply Kd.R_drewN | apply Kd.R_drew)); exact HO575.out) hb)
                            have n10_ := Aside0.mk (below_step (by repeat (first | (with_reducible first | exact HB.out | apply below_alloc | apply pw_below_drewN | apply below_drew1) | exact HB.out)) hb)
                            clear HO543
                            clear HO546
                            clear HO549
                            clear HO552
                            clear HO555
                            clear HO558
                            clear HO563
                            clear HO568
                            clear HO572
                            clear HO575
                            clear HB
                            have HO543 := n0_
                            have HO546 := n1_
                            have HO549 := n2_
                            have HO552 := n3_
                            have HO555 := n4_
                            have HO558 := n5_
                            have HO563 := n6_
                            have HO568 := n7_
                            have HO572 := n8_
                            have HO575 := n9_
                            have HB := n10_
                            clear n0_ n1_ n2_ n3_ n4_ n5_ n6_ n7_ n8_ n9_ n10_
                            (try clear hb)
                            (try clear hb2)
                            (try clear hk)
                            (try clear hi)
                            refine hK.out _ _ ⟨HS0_, HS1_, HS2_⟩ (fun hHeld => ?_)
                            clear hK K
                            refine norm_ (a' := ?_) ?_ ?_
                            rotate_left
                            · show Act.put _ (some 112) _ = _
                              simp only [Act.put, List.setIfInBounds_toArray, List.set_cons_zero, List.set_cons_succ, i64_w, i32_w]
                              rfl
                            refine pure_ (i := 53) (N := some 113) (v := ?_) (a' := ?_) #[true, true, true, true, true, true, true, true, true, true, true, true, true, true, true, true, true, true, true, true, true, true, true, true, true, true, true, true, true, true, true, true, true, true, true, true, true, true, true, true, true, true, true, true, true, true, true, true, true, true, true, true, true, true, false, false, false, false, false, false, false, false] rfl rfl (any_of HT_.out (by kernel_rfl)) (fun _ _ _ h => h) (Or.inl ⟨by rfl, ?_⟩) ?_ ?_
                            rotate_left
                            · intro w'
                              go_simp
                              with_reducible rfl
                            rotate_left
                            · simp only [Act.put, List.setIfInBounds_toArray, List.set_cons_zero, List.set_cons_succ, i64_w, i32_w]
                              rfl
                            refine pure_ (i := 54) (N := some 114) (v := ?_) (a' := ?_) #[true, true, true, true, true, true, true, true, true, true, true, true, true, true, true, true, true, true, true, true, true, true, true, true, true, true, true, true, true, true, true, true, true, true, true, true, true, true, true, true, true, true, true, true, true, true, true, true, true, true, true, true, true, true, true, false, false, false, false, false, false, false] rfl rfl (any_of HT_.out (by kernel_rfl)) (fun _ _ _ h => h) (Or.inl ⟨by rfl, ?_⟩) ?_ ?_
                            rotate_left
                            · intro w'
                              go_simp
                              with_reducible rfl
                            rotate_left
                            · simp only [Act.put, List.setIfInBounds_toArray, List.set_cons_zero, List.set_cons_succ, i64_w, i32_w]
                              rfl
                            refine pure_ (i := 55) (N := some 115) (v := ?_) (a' := ?_) #[true, true, true, true, true, true, true, true, true, true, true, true, true, true, true, true, true, true, true, true, true, true, true, true, true, true, true, true, true, true, true, true, true, true, true, true, true, true, true, true, true, true, true, true, true, true, true, true, true, true, true, true, true, true, true, true, false, false, false, false, false, false] rfl rfl (any_of HT_.out (by kernel_rfl)) (fun _ _ _ h => h) (Or.inl ⟨by rfl, ?_⟩) ?_ ?_
                            rotate_left
                            · intro w'
                              go_simp
                              with_reducible rfl
                            rotate_left
                            · simp only [Act.put, List.setIfInBounds_toArray, List.set_cons_zero, List.set_cons_succ, i64_w, i32_w]
                              rfl
                            refine pure_ (i := 56) (N := some 116) (v := ?_) (a' := ?_) #[true, true, true, true, true, true, true, true, true, true, true, true, true, true, true, true, true, true, true, true, true, true, true, true, true, true, true, true, true, true, true, true, true, true, true, true, true, true, true, true, true, true, true, true, true, true, true, true, true, true, true, true, true, true, true, true, true, false, false, false, false, false] rfl rfl (any_of HT_.out (by kernel_rfl)) (fun _ _ _ h => h) (Or.inl ⟨by rfl, ?_⟩) ?_ ?_
                            rotate_left
                            · intro w'
                              go_simp
                              with_reducible rfl
                            rotate_left
                            · simp only [Act.put, List.setIfInBounds_toArray, List.set_cons_zero, List.set_cons_succ, i64_w, i32_w]
                              rfl
                            refine pure_ (i := 58) (N := some 118) (v := ?_) (a' := ?_) #[true, true, true, true, true, true, true, true, true, true, true, true, true, true, true, true, true, true, true, true, true, true, true, true, true, true, true, true, true, true, true, true, true, true, true, true, true, true, true, true, true, true, true, true, true, true, true, true, true, true, true, true, true, true, true, true, true, false, true, false, false, false] rfl rfl (any_of HT_.out (by kernel_rfl)) (fun _ _ _ h => h) (Or.inl ⟨by rfl, ?_⟩) ?_ ?_
                            rotate_left
                            · intro w'
                              go_simp
                              with_reducible rfl
                            rotate_left
                            · simp only [Act.put, List.setIfInBounds_toArray, List.set_cons_zero, List.set_cons_succ, i64_w, i32_w]
                              rfl
                            refine one_ (i := 57) (N := some 117) #[true, true, true, true, true, true, true, true, true, true, true, true, true, true, true, true, true, true, true, true, true, true, true, true, true, true, true, true, true, true, true, true, true, true, true, true, true, true, true, true, true, true, true, true, true, true, true, true, true, true, true, true, true, true, true, true, true, true, true, false, false, false] rfl rfl (one_of HT_.out (by kernel_rfl)) (by decide) (fun K hK => ?_)
                            refine goes_ Try.func20 (by kernel_rfl) rfl #[.slice Ao48 t556.length co48] (by rfl) rfl rfl (by (try simp only [List.map_toArray, List.map_cons, List.map_nil]); first | done | rfl | (simp only [List.length_drop, List.length_take]; rfl)) ?_
                            with_reducible refine (gaps_Count.calls _ _ t556 t583 _ ?side1 ?side2 A34.out).mono ?_
                            (case side1 => repeat (first | exact (Kd.R_reads' HO558.out).2.2 | (with_reducible refine Kd.C_alloc ?_ _) | (with_reducible refine Kd.C_drewN ?_ _) | (with_reducible refine Kd.C_drew ?_)))
                            (case side2 => exact (Kd.R_reads' HO558.out).2.1)
                            rintro e w60 ⟨rfl, hb⟩
                            have HS0_ := (hb.cell (World.block_lt_of_cell? _ _ (hHeld.1))).trans (hHeld.1)
                            have HS1_ := (hb.cell (World.block_lt_of_cell? _ _ (hHeld.2.1))).trans (hHeld.2.1)
                            have HS2_ := (hb.cell (World.block_lt_of_cell? _ _ (hHeld.2.2))).trans (hHeld.2.2)
                            refine ⟨_, rfl, ?_⟩
                            have n0_ := Aside0.mk (Kd.R_below (by (with_reducible repeat (first | apply Kd.R_alloc | apply Kd.R_drewN | apply Kd.R_drew)); exact HO543.out) hb)
                            have n1_ := Aside0.mk (Kd.R_below (by (with_reducible repeat (first | apply Kd.R_alloc | apply Kd.R_drewN | apply Kd.R_drew)); exact HO546.out) hb)
                            have n2_ := Aside0.mk (Kd.R_below (by (with_reducible repeat (first | apply Kd.R_alloc | apply Kd.R_drewN | apply Kd.R_drew)); exact HO549.out) hb)
                            have n3_ := Aside0.mk (Kd.R_below (by (with_reducible repeat (first | apply Kd.R_alloc | apply Kd.R_drewN | apply Kd.R_drew)); exact HO552.out) hb)
                            have n4_ := Aside0.mk (Kd.R_below (by (with_reducible repeat (first | apply Kd.R_alloc | apply Kd.R_drewN | apply Kd.R_drew)); exact HO555.out) hb)
                            have n5_ := Aside0.mk (Kd.R_below (by (with_reducible repeat (first | apply Kd.R_alloc | apply Kd.R_drewN | apply Kd.R_drew)); exact HO558.out) hb)
                            have n6_ := Aside0.mk (Kd.R_below (by (with_reducible repeat (first | apply Kd.R_alloc | apply Kd.R_drewN | apply Kd.R_drew)); exact HO563.out) hb)
                            have n7_ := Aside0.mk (Kd.R_below (by (with_reducible repeat (first | apply Kd.R_alloc | apply Kd.R_drewN | apply Kd.R_drew)); exact HO568.out) hb)
                            have n8_ := Aside0.mk (Kd.R_below (by (with_reducible repeat (first | apply Kd.R_alloc | apply Kd.R_drewN | apply Kd.R_drew)); exact HO572.out) hb)
                            have n9_ := Aside0.mk (Kd.R_below (by (with_reducible repeat (first | apply Kd.R_alloc | apply Kd.R_drewN | apply Kd.R_drew)); exact HO575.out) hb)
                            have n10_ := Aside0.mk (below_step (by repeat (first | (with_reducible first | exact HB.out | apply below_alloc | apply pw_below_drewN | apply below_drew1) | exact HB.out)) hb)
                            clear HO543
                            clear HO546
                            clear HO549
                            clear HO552
                            clear HO555
                            clear HO558
                            clear HO563
                            clear HO568
                            clear HO572
                            clear HO575
                            clear HB
                            have HO543 := n0_
                            have HO546 := n1_
                            have HO549 := n2_
                            have HO552 := n3_
                            have HO555 := n4_
                            have HO558 := n5_
                            have HO563 := n6_
                            have HO568 := n7_
                            have HO572 := n8_
                            have HO575 := n9_
                            have HB := n10_
                            clear n0_ n1_ n2_ n3_ n4_ n5_ n6_ n7_ n8_ n9_ n10_
                            (try clear hb)
                            (try clear hb2)
                            (try clear hk)
                            (try clear hi)
                            refine hK.out _ _ ⟨HS0_, HS1_, HS2_⟩ (fun hHeld => ?_)
                            clear hK K
                            refine norm_ (a' := ?_) ?_ ?_
                            rotate_left
                            · show Act.put _ (some 117) _ = _
                              simp only [Act.put, List.setIfInBounds_toArray, List.set_cons_zero, List.set_cons_succ, i64_w, i32_w]
                              rfl
                            refine pure_ (i := 59) (N := some 119) (v := ?_) (a' := ?_) #[true, true, true, true, true, true, true, true, true, true, true, true, true, true, true, true, true, true, true, true, true, true, true, true, true, true, true, true, true, true, true, true, true, true, true, true, true, true, true, true, true, true, true, true, true, true, true, true, true, true, true, true, true, true, true, true, true, true, true, true, false, false] rfl rfl (any_of HT_.out (by kernel_rfl)) (fun _ _ _ h => h) (Or.inl ⟨by rfl, ?_⟩) ?_ ?_
                            rotate_left
                            · intro w'
                              go_simp
                              with_reducible rfl
                            rotate_left
                            · simp only [Act.put, List.setIfInBounds_toArray, List.set_cons_zero, List.set_cons_succ, i64_w, i32_w]
                              rfl
                            refine pure_ (i := 60) (N := some 120) (v := ?_) (a' := ?_) #[true, true, true, true, true, true, true, true, true, true, true, true, true, true, true, true, true, true, true, true, true, true, true, true, true, true, true, true, true, true, true, true, true, true, true, true, true, true, true, true, true, true, true, true, true, true, true, true, true, true, true, true, true, true, true, true, true, true, true, true, true, false] rfl rfl (any_of HT_.out (by kernel_rfl)) (fun _ _ _ h => h) (Or.inl ⟨by rfl, ?_⟩) ?_ ?_
                            rotate_left
                            · intro w'
                              go_simp
                              with_reducible rfl
                            rotate_left
                            · simp only [Act.put, List.setIfInBounds_toArray, List.set_cons_zero, List.set_cons_succ, i64_w, i32_w]
                              rfl
                            refine pure_ (i := 61) (N := some 4) (v := ?_) (a' := ?_) #[true, true, true, true, true, true, true, true, true, true, true, true, true, true, true, true, true, true, true, true, true, true, true, true, true, true, true, true, true, true, true, true, true, true, true, true, true, true, true, true, true, true, true, true, true, true, true, true, true, true, true, true, true, true, true, true, true, true, true, true, true, true] rfl rfl (any_of HT_.out (by kernel_rfl)) (fun _ _ _ h => h) (Or.inl ⟨by rfl, ?_⟩) ?_ ?_
                            rotate_left
                            · intro w'
                              go_simp
                              with_reducible rfl
                            rotate_left
                            · simp only [Act.put, List.setIfInBounds_toArray, List.set_cons_zero, List.set_cons_succ, i64_w, i32_w]
                              rfl
                            refine done_ (done_of HT_.out (by kernel_rfl)) ?_
                            try go_wp2
                            go_ret
                            exact ⟨by first | rfl | (simp [errW_none, errW_some] <;> rfl) | (simp only [← hji6, ← hji7]; first | rfl | (simp [errW_none, errW_some] <;> rfl)) | (simp [*, errW_none, errW_some] <;> rfl), by repeat (first | (with_reducible first | exact HB.out | apply below_alloc | apply pw_below_drewN | apply below_drew1) | exact HB.out)⟩
                          · rw [if_neg c33] at H
                            exact absurd H (by simp)
                        · replace c31 := Bool.eq_false_iff.mpr c31
                          subst c31
                          have H1 : (none) = some r := by rw [if_neg (show ¬ (false = true) by decide)] at H; exact H
                          clear H
                          have H := H1
                          clear H1
                          exact absurd H (by simp)
                    · rw [if_neg c29] at H
                      exact absurd H (by simp)
                  · replace c27 := Bool.eq_false_iff.mpr c27
                    subst c27
                    have H1 : (none) = some r := by rw [if_neg (show ¬ (false = true) by decide)] at H; exact H
                    clear H
                    have H := H1
                    clear H1
                    exact absurd H (by simp)
                · rw [if_neg c26] at H
                  exact absurd H (by simp)
              · rw [if_neg c25] at H
                exact absurd H (by simp)
            · rw [if_neg c23] at H
              exact absurd H (by simp)
          · rw [if_neg c22] at H
            exact absurd H (by simp)
        · rw [if_neg c20] at H
          exact absurd H (by simp)
      · rw [if_neg c19] at H
        exact absurd H (by simp)
    · rw [if_neg c18] at H
      exact absurd H (by simp)
  · replace c4 := Bool.eq_false_iff.mpr c4
    subst c4
    have H1 : (none) = some r := by rw [if_neg (show ¬ (false = true) by decide)] at H; exact H
    clear H
    have H := H1
    clear H1
    exact absurd H (by simp)

/-- THE ONE PURE STATEMENT of polliwoglaw09_GapsEmpty: yours. -/
def polliwoglaw09_GapsEmpty.Pure : Prop := ∀ (a0 : Int) (a1 : Int), (Lit.int .u32 a0).wf = true → (Lit.int .i64 a1).wf = true → ∃ k, polliwoglaw09_GapsEmpty.f k a0 a1 = some true
theorem polliwoglaw09_GapsEmpty.walk (P : polliwoglaw09_GapsEmpty.Pure) (a0 : Int) (a1 : Int) (w : World) (w0 : (Lit.int .u32 a0).wf = true) (w1 : (Lit.int .i64 a1).wf = true) :
    Calls Try.prog 10 #[.int .u32 a0, .int .i64 a1] w fun e w' => e = .returned (.bool true) ∧ Below w.heap.size w w' := by
  obtain ⟨k, h⟩ := P a0 a1 w0 w1
  refine (polliwoglaw09_GapsEmpty.calls k a0 a1 true w h).mono ?_
  rintro e w' ⟨rfl, hd⟩
  exact ⟨rfl, hd⟩

end Go.Proofs.Ytihobchcmfamaaa.S
