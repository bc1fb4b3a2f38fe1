/- The reference's digest, whole. -/
import Derived.Test.YtcmgjoamfjijhaaCRsDigA
import Derived.Test.YtcmgjoamfjijhaaCRsDigB
import Derived.Test.YtcmgjoamfjijhaaCRsDigC
namespace Go.Proofs.Ytcmgjoamfjijhaa
open Go.RowKit Go.Maps
theorem rs_digest {S : Nat → Prop} {w0 w : World} {L F : List Ent} {g : Nat} {k : RsAt} {s : RSu} {A : Option Addr} {n c : Nat} {b : List UInt8} (h : St S w0 w L) [sl : SlotV L g k s F] [ka : HasSl F A n c 1 (u8s b)] (hn : n ≤ 100000) (hr0 : s.rows.length ≤ 1000000) (hok : RsOk s.pr) :
    Calls Try.prog 52 #[.pointer (some ⟨g, 0, none⟩), .slice A n c] w fun e w' => e = .returned (.tuple #[.agg (u8s (rdigestM b s.pr).1).toArray, .int .i64 ((rdigestM b s.pr).2.1 : Int)]) ∧ ∃ k' s', s'.pr = (rdigestM b s.pr).2.2 ∧ St S w0 w' (eRs g k' s' :: F) := by
  by_cases hm0 : s.mode = 0
  · cases hf : rfind s.rows 2 zk [] b with
    | some x0 => exact rs_digest_a h hn hr0 hm0 x0 hf
    | none => exact rs_digest_b h hn hr0 hm0 hf
  · exact rs_digest_c h hn hr0 hok hm0
end Go.Proofs.Ytcmgjoamfjijhaa
