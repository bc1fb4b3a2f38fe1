/- A block taken in: what is reckoned. -/
import Derived.Test.YtcmgjoamfjijhaaCTable
namespace Go.Proofs.Ytcmgjoamfjijhaa
open Go.RowKit

/-- Eight words. -/
structure S8 where
  a : UInt32
  b : UInt32
  c : UInt32
  d : UInt32
  e : UInt32
  f : UInt32
  g : UInt32
  h : UInt32
def S8.l (s : S8) : List UInt32 := [s.a, s.b, s.c, s.d, s.e, s.f, s.g, s.h]
theorem S8.l_length (s : S8) : s.l.length = 8 := rfl
def S8.of (l : List UInt32) : S8 := ⟨l.getD 0 0, l.getD 1 0, l.getD 2 0, l.getD 3 0, l.getD 4 0, l.getD 5 0, l.getD 6 0, l.getD 7 0⟩
theorem S8.of_l {l : List UInt32} (h : l.length = 8) : (S8.of l).l = l := by
  match l, h with
  | [_, _, _, _, _, _, _, _], _ => rfl
def notW (x : UInt32) : UInt32 := ~~~x
def chW (e f g : UInt32) : UInt32 := xorW g (andW e (xorW f g))
def majW (a b c : UInt32) : UInt32 := orW (andW a b) (andW c (orW a b))
theorem chW_eq (e f g : UInt32) : xorW (andW e f) (andW (notW e) g) = chW e f g := by
  simp only [chW, xorW, andW, notW]
  apply UInt32.eq_of_toBitVec_eq
  simp only [UInt32.toBitVec_xor, UInt32.toBitVec_and, UInt32.toBitVec_not]
  apply BitVec.eq_of_getLsbD_eq
  intro i hi
  simp only [BitVec.getLsbD_xor, BitVec.getLsbD_and, BitVec.getLsbD_not, hi, decide_true, Bool.true_and]
  cases e.toBitVec.getLsbD i <;> cases f.toBitVec.getLsbD i <;> cases g.toBitVec.getLsbD i <;> rfl
theorem majW_eq (a b c : UInt32) : xorW (xorW (andW a b) (andW a c)) (andW b c) = majW a b c := by
  simp only [majW, xorW, andW, orW]
  apply UInt32.eq_of_toBitVec_eq
  simp only [UInt32.toBitVec_xor, UInt32.toBitVec_and, UInt32.toBitVec_or]
  apply BitVec.eq_of_getLsbD_eq
  intro i hi
  simp only [BitVec.getLsbD_xor, BitVec.getLsbD_and, BitVec.getLsbD_or]
  cases a.toBitVec.getLsbD i <;> cases b.toBitVec.getLsbD i <;> cases c.toBitVec.getLsbD i <;> rfl
theorem w_not (x : UInt32) : bits .xor .u32 (-1) (x.toNat : Int) = ((notW x).toNat : Int) := by
  have h : bits .xor .u32 (-1) (x.toNat : Int) = ((4294967295 - x.toNat : Nat) : Int) := by
    show IntKind.u32.wrap ((BitVec.ofInt 32 (-1) ^^^ BitVec.ofInt 32 (x.toNat : Int)).toNat : Int) = _
    rw [show BitVec.ofInt 32 (-1) = BitVec.allOnes 32 by decide, BitVec.allOnes_xor, BitVec.toNat_not, ofInt_u32 _ (w_lt x), IntKind.wrap_u32']
    have := w_lt x
    omega
  rw [h, notW, UInt32.toNat_not]
  rfl

def oneW (s : S8) (k w : UInt32) : UInt32 := addW (addW (addW (addW s.h (turnM s.e 6 11 25 false)) (chW s.e s.f s.g)) k) w
def twoW (s : S8) : UInt32 := addW (turnM s.a 2 13 22 false) (majW s.a s.b s.c)
def rndW (s : S8) (k w : UInt32) : S8 := ⟨addW (oneW s k w) (twoW s), s.a, s.b, s.c, addW s.d (oneW s k w), s.e, s.f, s.g⟩
def compAt (H : S8) (W : List UInt32) : Nat → S8
  | 0 => H
  | t + 1 => rndW (compAt H W t) (kT.getD t 0) (W.getD t 0)
def addAt (H s : List UInt32) : Nat → List UInt32
  | 0 => H
  | i + 1 => (addAt H s i).set i (addW ((addAt H s i).getD i 0) (s.getD i 0))
theorem addAt_length (H s : List UInt32) : ∀ i, (addAt H s i).length = H.length
  | 0 => rfl
  | i + 1 => by rw [addAt, List.length_set, addAt_length H s i]
def compM (H : List UInt32) (b : List UInt8) : List UInt32 := addAt H (compAt (S8.of H) (schedM b) 64).l 8
theorem compM_length (H : List UInt32) (b : List UInt8) : (compM H b).length = H.length := addAt_length _ _ _
end Go.Proofs.Ytcmgjoamfjijhaa
