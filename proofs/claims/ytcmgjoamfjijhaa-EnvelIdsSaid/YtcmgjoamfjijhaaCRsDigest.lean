/- The reference's digest. -/
import Derived.Test.YtcmgjoamfjijhaaCRsPrf
import Derived.Test.YtcmgjoamfjijhaaCB2
namespace Go.Proofs.Ytcmgjoamfjijhaa
open Go.RowKit Go.Maps
set_option linter.unusedVariables false
set_option linter.unusedSimpArgs false

def zk : Id := ⟨zeros 32, by simp [zeros]⟩
def pcl (D b : List UInt8) (x : PR) : Bool := decide (x.1 = 2 ∧ x.2.2.2.2 = D ∧ x.2.2.2.1 ≠ b)
/-- Behind the answer: is it the digest of another text as well? -/
def rcloseM (D b : List UInt8) (s : PRs) : List UInt8 × Nat × PRs := if s.rows.any (pcl D b) = true then (zeros 32, 71, s) else (D, 0, s)
def rnoteM (b : List UInt8) (s : PRs) : PRs := if (pfind s.rows 2 zk [] b).isSome then s else { s with rows := s.rows ++ [(2, zk, [], b, sumM b)] }
def rdigestM (b : List UInt8) (s : PRs) : List UInt8 × Nat × PRs :=
  if s.mode = 0 then rcloseM (sumM b) b (rnoteM b s)
  else if (ridealM 2 zk [] b 32 s).2.1 = 0 then rcloseM (ridealM 2 zk [] b 32 s).1 b (ridealM 2 zk [] b 32 s).2.2 else (zeros 32, (ridealM 2 zk [] b 32 s).2)
def clh (D b : List UInt8) (x : RRow) : Bool := decide (x.kind.1 = 2 ∧ x.out = D ∧ x.inp ≠ b)
def NoCl (rows : List RRow) (D b : List UInt8) (j : Nat) : Prop := ∀ x ∈ rows.take j, clh D b x = false
theorem NoCl.succ {rows : List RRow} {D b : List UInt8} {j : Nat} (h : NoCl rows D b j) (hj : j < rows.length) (hx : clh D b rows[j] = false) : NoCl rows D b (j + 1) := by
  intro y hy
  rw [List.take_succ_eq_append_getElem hj] at hy
  rcases List.mem_append.1 hy with hy | hy
  · exact h y hy
  · rw [List.mem_singleton] at hy; subst hy; exact hx
theorem rclose_yes {D b : List UInt8} {s : RSu} {x : RRow} (hx : x ∈ s.rows) (h : clh D b x = true) : rcloseM D b s.pr = (zeros 32, 71, s.pr) := by
  unfold rcloseM
  rw [if_pos]
  rw [List.any_eq_true]
  exact ⟨rpr x, List.mem_map.2 ⟨x, hx, rfl⟩, h⟩
theorem rclose_no {D b : List UInt8} {s : RSu} (h : NoCl s.rows D b s.rows.length) : rcloseM D b s.pr = (D, 0, s.pr) := by
  unfold rcloseM
  rw [if_neg]
  rw [List.any_eq_true]
  rintro ⟨y, hy, hyc⟩
  obtain ⟨x, hx, rfl⟩ := List.mem_map.1 hy
  have := h x (by rw [List.take_length]; exact hx)
  rw [show clh D b x = pcl D b (rpr x) from rfl, hyc] at this
  cases this
-- THE LOOP IS STILL TO BE WRITTEN (three paths lead to it; one %let).
end Go.Proofs.Ytcmgjoamfjijhaa
