/- The example's sum. -/
import Derived.Test.YtjmjdffnakojpaaSum
namespace Go.Proofs.Ytjmjdffnakojpaa
theorem abc_sum : ((sumM [97, 98, 99]).getD 0 0, (sumM [97, 98, 99]).getD 1 0, (sumM [97, 98, 99]).getD 31 0) = (0xba, 0x78, 0xad) := by decide +kernel
end Go.Proofs.Ytjmjdffnakojpaa
