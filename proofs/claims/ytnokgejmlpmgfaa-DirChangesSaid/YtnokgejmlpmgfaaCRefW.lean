/- The reference's N, Text, Ids, with memory as parts. -/
import Derived.Test.YtnokgejmlpmgfaaCRefN
import Derived.Test.YtnokgejmlpmgfaaCTy
import Derived.Test.YtnokgejmlpmgfaaCB2
namespace Go.Proofs.Ytnokgejmlpmgfaa
open Go.RowKit
set_option linter.unusedVariables false

theorem wrap_u64 {n : Nat} (h : n < 2 ^ 64) : IntKind.u64.wrap (n : Int) = (n : Int) := by
  have e : IntKind.u64.wrap (n : Int) = ((n % 2 ^ 64 : Nat) : Int) := by simp [IntKind.wrap, IntKind.signed, IntKind.bits]
  rw [e, Nat.mod_eq_of_lt h]
section
variable {S : Nat → Prop} {w0 w : World} {L : List Ent}
theorem St.ownNew (h : St S w0 w L) {w' : World} {e : TypeId} {sz : Nat} {A : Option Addr} {n c : Nat} {xs : List Value} (hx : Own w' e sz A n c xs) (hs : Step (fun _ => False) w w') (hA : ∀ k, At A k → w.heap.size ≤ k) : St S w0 w' (eOwn e sz A n c xs :: L) :=
  h.add hs (eOwn e sz A n c xs) hx.tl (fun k hk => hA k hk) (fun _ hk => hk)
theorem rn_n {A : Option Addr} {m c n : Nat} {l : List UInt8} (h : St S w0 w L) [ha : HasSl L A m c 1 (u8s l)] (hm : m ≤ 100000000) (hn : n < 2 ^ 64) :
    Calls Try.prog 57 #[.slice A m c, .int .u64 (n : Int)] w fun e w' => ∃ A' c', e = .returned (.slice A' (l ++ nM n).length c') ∧ St S w0 w' (eOwn 5 1 A' (l ++ nM n).length c' (u8s (l ++ nM n)) :: L) :=
  (n_ref (h.sl A m c) hm hn).mono fun e w' ⟨A', m', c', h1, h2, h3, h4⟩ => by
    have hn := h2.sl.n_eq
    subst hn
    exact ⟨A', c', h1, h.ownNew h2 h3 h4⟩
theorem rn_text {A B : Option Addr} {m c n d : Nat} {l t : List UInt8} (h : St S w0 w L) [ha : HasSl L A m c 1 (u8s l)] [hb : HasSl L B n d 1 (u8s t)] (hm : m ≤ 100000000) (hn : n ≤ 100000000) :
    Calls Try.prog 58 #[.slice A m c, .slice B n d] w fun e w' => ∃ A' c', e = .returned (.slice A' (l ++ nM t.length ++ t).length c') ∧ St S w0 w' (eOwn 5 1 A' (l ++ nM t.length ++ t).length c' (u8s (l ++ nM t.length ++ t)) :: L) :=
  (text_ref (h.sl A m c) (h.sl B n d) hm hn).mono fun e w' ⟨A', m', c', h1, h2, h3, h4⟩ => by
    have hn := h2.sl.n_eq
    subst hn
    exact ⟨A', c', h1, h.ownNew h2 h3 h4⟩
theorem rn_ids {A B : Option Addr} {m c n d : Nat} {l : List UInt8} {x : List Id} (h : St S w0 w L) (ha : Sl w A m c 1 (u8s l)) [hb : HasSl L B n d 32 (x.flatMap idc)] (hm : m ≤ 100000000) (hn : n ≤ 100000) :
    Calls Try.prog 136 #[.slice A m c, .slice B n d] w fun e w' => ∃ A' c', e = .returned (.slice A' (l ++ nM x.length ++ idsB x).length c') ∧ St S w0 w' (eOwn 5 1 A' (l ++ nM x.length ++ idsB x).length c' (u8s (l ++ nM x.length ++ idsB x)) :: L) :=
  (ids_ref ha (h.sl B n d) hm hn).mono fun e w' ⟨A', m', c', h1, h2, h3, h4⟩ => by
    have hn := h2.sl.n_eq
    subst hn
    exact ⟨A', c', h1, h.ownNew h2 h3 h4⟩
end
end Go.Proofs.Ytnokgejmlpmgfaa
