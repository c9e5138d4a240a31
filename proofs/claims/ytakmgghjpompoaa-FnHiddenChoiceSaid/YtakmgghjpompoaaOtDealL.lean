/- OtDeal's contracts, written out. -/
import Derived.Test.YtakmgghjpompoaaOtDeal
namespace Go.Proofs.Ytakmgghjpompoaa
set_option linter.unusedSimpArgs false
set_option linter.unusedVariables false
open Go.RowKit
theorem sOtDeal_L {w : World} (s a : Int) :
    Calls Try.prog 57 #[.agg #[.int .i64 s, .int .i64 a]] w fun e w' => e = .returned (.tuple #[.agg #[.int .i64 (dA s a), .int .i64 (dB s a)], .agg #[.int .i64 (dK s a), .int .i64 (dR s a)], .agg #[.int .i64 s, .int .i64 (dT3 s a)]]) ∧ Below w.heap.size w w' :=
  sOtDeal_any s a w
theorem iOtDeal_L {w : World} (s a : Int) :
    Calls Try.prog 59 #[.agg #[.int .i64 s, .int .i64 a]] w fun e w' => e = .returned (.tuple #[.agg #[.int .i64 (dA s a), .int .i64 (dB s a)], .agg #[.int .i64 (dK s a), .int .i64 (dR s a)], .agg #[.int .i64 s, .int .i64 (dT3 s a)]]) ∧ Below w.heap.size w w' :=
  iOtDeal_any s a w
end Go.Proofs.Ytakmgghjpompoaa
