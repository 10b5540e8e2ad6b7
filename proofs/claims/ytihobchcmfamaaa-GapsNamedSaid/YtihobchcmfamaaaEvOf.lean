/- The document's own remainder. -/
import Derived.Test.YtihobchcmfamaaaEvGap
import Derived.Test.YtihobchcmfamaaaS27
import Derived.Test.YtihobchcmfamaaaS31
namespace Go.Proofs.Ytihobchcmfamaaa.SpanEv
open Go.RowKit Go.Proofs.Ytihobchcmfamaaa.S Go.Proofs.YtihobchcmfamaaaW.PrintWords Go.Proofs.YtihobchcmfamaaaW.PrintMore Go.Proofs.Ytihobchcmfamaaa.SpanTh Go.Proofs.Ytihobchcmfamaaa.Bits
theorem of1_eq (a : Int) : polliwogref01_Of.f a = some (a % 16777216) := by
  unfold polliwogref01_Of.f
  by_cases h0 : 0 ≤ a
  · have e := Int.tmod_eq_emod_of_nonneg (b := 16777216) h0
    rw [if_neg (by rw [e]; omega), e]
  · have e : Int.tmod a 16777216 = -((-a) % 16777216) := by
      have h1 := Int.tmod_eq_emod_of_nonneg (a := -a) (b := 16777216) (by omega)
      rw [Int.neg_tmod] at h1
      omega
    rw [e]
    by_cases h2 : (-a) % 16777216 = 0
    · rw [if_neg (by omega)]
      congr 1
      omega
    · rw [if_pos (by omega), widG (by omega) (by omega)]
      congr 1
      omega
theorem to1_eq (a b : Int) : polliwogref01_To.f a b = some ((b - a) % 16777216) := by
  unfold polliwogref01_To.f
  rw [of1_eq, Option.bind_some, of1_eq, Option.bind_some, widG (by omega) (by omega), of1_eq, Option.bind_some]
  congr 1
  omega
end Go.Proofs.Ytihobchcmfamaaa.SpanEv
