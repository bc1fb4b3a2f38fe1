/- Commits in memory; which are alike. -/
import Derived.Test.YtjnaiicgincndaaCIds
import Derived.Test.YtjnaiicgincndaaCB1
import Derived.Deep.RegionHeld
namespace Go.Proofs.Ytjnaiicgincndaa
open Go.RowKit

/-- A commit. -/
structure Cmt where
  pa : List Id
  root : Id
  key : Id
  seq : Int
  author : Int
  text : List UInt8
  deriving DecidableEq

/-- The cells of a commit whose list of parents lies at A. -/
def cmtc (A : Option Addr) (n c : Nat) (m : Cmt) : List Value := .slice A n c :: (idc m.root ++ idc m.key ++ [.int .u64 m.seq, .int .u32 m.author, .string (str m.text)])
theorem cmtc_length (A : Option Addr) (n c : Nat) (m : Cmt) : (cmtc A n c m).length = 68 := by simp [cmtc, idc_length]
theorem cmtc_one (A : Option Addr) (n c : Nat) (m : Cmt) : ∀ u ∈ cmtc A n c m, u.oneCell' = true := by
  intro u hu
  simp only [cmtc, List.mem_cons, List.mem_append, List.not_mem_nil, or_false] at hu
  rcases hu with rfl | (h | h) | rfl | rfl | rfl
  · rfl
  · exact idc_one _ u h
  · exact idc_one _ u h
  · rfl
  · rfl
  · rfl

theorem key_size' : (Try.prog.info? 27).map (·.size) = some 32 := by kernel_rfl
theorem cmt_size : (Try.prog.info? 31).map (·.size) = some 68 := by kernel_rfl

/-- The fields of a commit that stands at place off of block g. -/
theorem cmt_fields {w : World} {g off : Nat} {A : Option Addr} {n c : Nat} {m : Cmt} (h : Cells w g off (cmtc A n c m)) :
    w.cell? ⟨g, off, none⟩ = some (.slice A n c) ∧ Cells w g (off + 1) (idc m.root) ∧ Cells w g (off + 33) (idc m.key) ∧
    w.cell? ⟨g, off + 65, none⟩ = some (.int .u64 m.seq) ∧ w.cell? ⟨g, off + 66, none⟩ = some (.int .u32 m.author) ∧ w.cell? ⟨g, off + 67, none⟩ = some (.string (str m.text)) := by
  have hr := idc_length m.root
  have hk := idc_length m.key
  refine ⟨by simpa using h 0 _ (by simp [cmtc]), fun i u hu => ?_, fun i u hu => ?_, h 65 _ ?_, h 66 _ ?_, h 67 _ ?_⟩
  · have hi : i < 32 := by rw [← hr]; exact (List.getElem?_eq_some_iff.1 hu).1
    rw [show off + 1 + i = off + (i + 1) by omega]
    refine h (i + 1) u ?_
    simp only [cmtc, List.getElem?_cons_succ]
    rw [List.append_assoc, List.getElem?_append_left (by omega)]
    exact hu
  · have hi : i < 32 := by rw [← hk]; exact (List.getElem?_eq_some_iff.1 hu).1
    rw [show off + 33 + i = off + (i + 33) by omega]
    refine h (i + 33) u ?_
    rw [cmtc, show i + 33 = (i + 32) + 1 by omega, List.getElem?_cons_succ, List.getElem?_append_left (by simp [hr, hk]; omega), List.getElem?_append_right (by omega), hr]
    simpa using hu
  · simp [cmtc, hr, hk]
  · simp [cmtc, hr, hk]
  · simp [cmtc, hr, hk]

def cmt0 : Cmt := ⟨[], idz, idz, 0, 0, []⟩
theorem cmt_zero : (Try.prog.info? 31).map (·.zero) = some (some (.agg (cmtc none 0 0 cmt0).toArray)) := by kernel_rfl

theorem run_equalIn_id {P : Program} {t e : TypeId} {i : TypeInfo} (ht : P.underlying t = some (.array 32 e)) (he : P.underlying e = some (.int .u8)) (hi : P.info? e = some i) (hs : i.size = 1) (x y : Id) (W : World) :
    (Op.equalIn 10000 t (.agg (idc x).toArray) (.agg (idc y).toArray)).run P W = .ok (decide (x = y)) W := by
  rw [show decide (x = y) = (x.1 == y.1) by rw [Bool.eq_iff_iff]; simp [Subtype.ext_iff]]
  exact run_equalIn_bytes (P := P) W 9998 t e 32 ht he (fun w => by simp [sizeOf, typeInfo, hi, hs]) x.1 y.1 x.2 y.2

/-- What stands behind 'x, y := a, b': two new variables. -/
def CopiesR (w : World) (cx cy : List Value) (a : Act) (e : Exit) (a' : Act) (w' : World) : Prop :=
  e = .normal ∧ ∃ b5 b6, a' = { tmps := [(8, .agg cx.toArray), (9, .agg cy.toArray), (5, .pointer (some ⟨b5, 0, none⟩)), (6, .pointer (some ⟨b6, 0, none⟩))].foldl (fun (t : Array Value) (p : Nat × Value) => t.setIfInBounds p.1 p.2) a.tmps, defers := a.defers } ∧
    Blk w' b5 31 cx.toArray ∧ Blk w' b6 31 cy.toArray ∧ b5 ≠ b6 ∧ w.heap.size ≤ b5 ∧ w.heap.size ≤ b6 ∧ Step (fun _ => False) w w'
end Go.Proofs.Ytjnaiicgincndaa
