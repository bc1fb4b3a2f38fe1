/- Envelopes put: the program's and the reference's, over parts. (Not together with XEnvelBack: it says the first of these too.) -/
import Derived.Test.YtcmgjoamfjijhaaCOpenEnv
import Derived.Test.YtcmgjoamfjijhaaCB1
namespace Go.Proofs.Ytcmgjoamfjijhaa
open Go.RowKit
set_option linter.unusedVariables false
set_option linter.unusedSimpArgs false

/-- Something got of a callee of the elder form: a row of new blocks. -/
theorem St.got {S : Nat → Prop} {w0 w w' : World} {L : List Ent} (h : St S w0 w L) {A : Option Addr} {n c : Nat} {xs : List Value} (hx : Sl w' A n c 1 xs) (hs : Step (fun _ => False) w w') (hA : ∀ k, At A k → w.heap.size ≤ k) : St S w0 w' (eGot A n c 1 xs :: L) :=
  h.add hs (eGot A n c 1 xs) ⟨by omega, hx⟩ (fun k hk => hA k hk.2) (fun _ hk => hk)
def outM (e : Env) : List UInt8 := if mayM e then putB e else []
def outC (e : Env) : Int := if mayM e then 0 else 90
theorem put_code2 {w : World} {e : Env} {A B : Option Addr} {n c m d : Nat} (he : EnvIs w e A n c B m d) (hn : n ≤ 1000000) (hm : m ≤ 1000000) :
    Calls Try.prog 50 #[.agg #[.int .i64 e.kind, .int .u32 e.realm, .int .u32 e.epoch, .slice A n c, .slice B m d]] w fun r w' => ∃ A' n' c', r = .returned (.tuple #[.slice A' n' c', .int .i64 (outC e)]) ∧ Sl w' A' n' c' 1 (u8s (outM e)) ∧ Step (fun _ => False) w w' ∧ (∀ k, At A' k → w.heap.size ≤ k) := put_code he hn hm
theorem put_ref2 {w : World} {e : Env} {A B : Option Addr} {n c m d : Nat} (he : EnvIs w e A n c B m d) (hn : n ≤ 1000000) (hm : m ≤ 1000000) :
    Calls Try.prog 51 #[.agg #[.int .i64 e.kind, .int .u32 e.realm, .int .u32 e.epoch, .slice A n c, .slice B m d]] w fun r w' => ∃ A' n' c', r = .returned (.tuple #[.slice A' n' c', .int .i64 (outC e)]) ∧ Sl w' A' n' c' 1 (u8s (outM e)) ∧ Step (fun _ => False) w w' ∧ (∀ k, At A' k → w.heap.size ≤ k) := put_ref he hn hm
end Go.Proofs.Ytcmgjoamfjijhaa
