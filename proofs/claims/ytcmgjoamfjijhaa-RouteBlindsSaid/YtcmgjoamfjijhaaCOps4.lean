/- Arms of a walk that ask first which operation it is. -/
import Derived.Test.YtcmgjoamfjijhaaCB1
namespace Go.Proofs.Ytcmgjoamfjijhaa
open Go.RowKit
/-- The operation whose result goes to slot d. -/
theorem wl_at (d : Nat) {P : Program} {ops : Array Oper} {rest : List Oper} {o : Oper} {a : Act} {w : World} {Q : Exit → Act → World → Prop} (hd : o.dst = some d) (h : wpList P ops Q (o :: rest) a w) : wpList P ops Q (o :: rest) a w := h
/-- The same within a round, and for operations that leave no result. -/
theorem wl_none {P : Program} {ops : Array Oper} {rest : List Oper} {o : Oper} {a : Act} {w : World} {Q : Exit → Act → World → Prop} (hd : o.dst = none) (h : wpList P ops Q (o :: rest) a w) : wpList P ops Q (o :: rest) a w := h
end Go.Proofs.Ytcmgjoamfjijhaa
