-- Printed for this claim by wip/tools/pp.py (a session's program, over the kit's print with hand-made functions let in). Not trusted: Lean checks it.
import Derived.Test.YtihobchcmfamaaaS0
namespace Go.Proofs.Ytihobchcmfamaaa.S
open Go.RowKit Go.Proofs.YtihobchcmfamaaaW.PrintWords Go.Proofs.YtihobchcmfamaaaW.PrintLast Go.Proofs.YtihobchcmfamaaaW.PrintMore
attribute [local go_sem] max2_int min2_int max_two min_two max_three min_three max_four min_four   -- for this text's walks alone
set_option linter.unusedVariables false
set_option linter.unusedSimpArgs false

/-! ### seq_Num_Low: function 17 -/
def seq_Num_Low.f (a0 : Int) : Option (Int) := some (Go.bits .and .u32 a0 16777215)
set_option maxHeartbeats 8000000 in
set_option maxRecDepth 100000 in
theorem seq_Num_Low.calls (a0 : Int) (r : Int) (w : World) (h : seq_Num_Low.f a0 = some r) :
    Calls Try.prog 17 #[.int .u32 a0] w fun e w' => e = .returned (.int .u32 r) ∧ Drawn0 w w' := by
  have H : (some (Go.bits .and .u32 a0 16777215)) = some r := h
  clear h
  obtain rfl := Option.some.inj H
  go_enter Try.func17, Try.ntmps17
  go_wp2
  go_ret
  exact ⟨by first | rfl | (simp; done) | (simp [*]; done), by repeat (first | exact Drawn0.refl _ | apply Drawn0.step)⟩

/-! ### seq_Of: function 40 -/
def seq_Of.f (a0 : Int) : Option (Int) := some (Go.bits .and .u32 ((a0) % 4294967296) 16777215)
set_option maxHeartbeats 8000000 in
set_option maxRecDepth 100000 in
theorem seq_Of.calls (a0 : Int) (r : Int) (w : World) (h : seq_Of.f a0 = some r) :
    Calls Try.prog 40 #[.int .i64 a0] w fun e w' => e = .returned (.int .u32 r) ∧ Drawn0 w w' := by
  have H : (some (Go.bits .and .u32 ((a0) % 4294967296) 16777215)) = some r := h
  clear h
  obtain rfl := Option.some.inj H
  go_enter Try.func40, Try.ntmps40
  go_wp2
  go_ret
  exact ⟨by first | rfl | (simp; done) | (simp [*]; done), by repeat (first | exact Drawn0.refl _ | apply Drawn0.step)⟩

/-! ### seq_Num_Add: function 19 -/
def seq_Num_Add.f (a0 : Int) (a1 : Int) : Option (Int) := (seq_Num_Low.f a0).bind fun t333 => ((seq_Of.f (wrap64 ((wrap64 (t333)) + (Go.bits .and .i64 a1 16777215)))).bind fun t334 => (some t334))
set_option maxHeartbeats 8000000 in
set_option maxRecDepth 100000 in
theorem seq_Num_Add.calls (a0 : Int) (a1 : Int) (r : Int) (w : World) (h : seq_Num_Add.f a0 a1 = some r) :
    Calls Try.prog 19 #[.int .u32 a0, .int .i64 a1] w fun e w' => e = .returned (.int .u32 r) ∧ Drawn0 w w' := by
  have H : ((seq_Num_Low.f a0).bind fun t333 => ((seq_Of.f (wrap64 ((wrap64 (t333)) + (Go.bits .and .i64 a1 16777215)))).bind fun t334 => (some t334))) = some r := h
  clear h
  replace H := Option.bind_eq_some_iff.mp H
  obtain ⟨t333, A30, H⟩ := H
  replace H : ((seq_Of.f (wrap64 ((wrap64 (t333)) + (Go.bits .and .i64 a1 16777215)))).bind fun t334 => (some t334)) = some r := H
  have A3 := Aside0.mk A30
  clear A30
  replace H := Option.bind_eq_some_iff.mp H
  obtain ⟨t334, A40, H⟩ := H
  replace H : (some t334) = some r := H
  have A4 := Aside0.mk A40
  clear A40
  obtain rfl := Option.some.inj H
  go_enter Try.func19, Try.ntmps19
  go_wp2_with (first | ((with_reducible refine gate_callee (f := 17) rfl ?_); refine goesL_ (some 6) rfl rfl Try.func17 (by kernel_rfl) rfl #[.int .u32 a0] rfl (by (try simp only [List.map_toArray, List.map_cons, List.map_nil]); first | done | rfl | (simp only [List.length_drop, List.length_take]; rfl)) ?_; (with_reducible refine (seq_Num_Low.calls a0 t333 _ A3.out).mono ?_); rintro e w' ⟨rfl, ⟨nd, rfl⟩⟩; refine ⟨_, rfl, ?_⟩) | ((with_reducible refine gate_callee (f := 40) rfl ?_); refine goesL_ (some 11) rfl rfl Try.func40 (by kernel_rfl) rfl #[.int .i64 (wrap64 ((wrap64 (t333)) + (Go.bits .and .i64 a1 16777215)))] rfl (by (try simp only [List.map_toArray, List.map_cons, List.map_nil]); first | done | rfl | (simp only [List.length_drop, List.length_take]; rfl)) ?_; (with_reducible refine (seq_Of.calls (wrap64 ((wrap64 (t333)) + (Go.bits .and .i64 a1 16777215))) t334 _ A4.out).mono ?_); rintro e w' ⟨rfl, ⟨nd, rfl⟩⟩; refine ⟨_, rfl, ?_⟩))
  go_ret
  exact ⟨by first | rfl | (simp; done) | (simp [*]; done), by repeat (first | exact Drawn0.refl _ | apply Drawn0.step)⟩

end Go.Proofs.Ytihobchcmfamaaa.S
