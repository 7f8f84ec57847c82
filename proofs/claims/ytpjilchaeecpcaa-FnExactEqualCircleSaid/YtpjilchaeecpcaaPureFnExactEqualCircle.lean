/- The law FnExactEqualCircle over numbers and lists alone: the program's EqualCircle and the reference's give one answer, each time a new one. Conditions: none. -/
import Derived.Test.YtpjilchaeecpcaaPFnExactEqualCirclex1
import Derived.Test.YtpjilchaeecpcaaWMore
namespace Go.Proofs.Ytpjilchaeecpcaa.Pure
open Go.RowKit Go.Proofs.Ytpjilchaeecpcaa.PFnExactEqualCircle Go.Proofs.YtpjilchaeecpcaaW.PrintWords Go.Proofs.YtpjilchaeecpcaaW.PrintLast Go.Proofs.YtpjilchaeecpcaaW.PrintMore
set_option linter.unusedVariables false
set_option linter.unusedSimpArgs false

theorem FnExactEqualCircle : laws_FnExactEqualCircle.Pure := ⟨20, by decide +kernel⟩

end Go.Proofs.Ytpjilchaeecpcaa.Pure
