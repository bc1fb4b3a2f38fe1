/- Lists of ids held against each other. -/
import Derived.Test.YtionnlckjjojnaaProg
import Derived.Test.YtionnlckjjojnaaCB1
namespace Go.Proofs.Ytionnlckjjojnaa
open Go.RowKit

theorem byte_info : (Try.prog.info? 5).map (fun i => (i.zero, i.size, i.bytes)) = some (some (.int .u8 0), 1, 1) := by kernel_rfl
theorem id_zero : (Try.prog.info? 33).map (·.zero) = some (some (arr (zeros 32))) := by kernel_rfl
theorem id_built : Try.prog.built 33 [] = some (u8s (zeros 32)).toArray := by kernel_rfl
theorem ids_step {l k : List Id} {j : Nat} {x : Id} {hl : j < l.length} {hk : j < k.length} (ht : l.take j = k.take j) (hx : l[j] = x) (hy : k[j] = x) : l.take (j + 1) = k.take (j + 1) := by
  rw [List.take_succ_eq_append_getElem hl, List.take_succ_eq_append_getElem hk, ht, hx, hy]
theorem id_size : (Try.prog.info? 33).map (·.size) = some 32 := by kernel_rfl

end Go.Proofs.Ytionnlckjjojnaa
