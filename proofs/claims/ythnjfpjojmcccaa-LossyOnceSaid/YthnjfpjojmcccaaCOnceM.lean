/- What lies on the two lines of LossyOnce. -/
import Derived.Test.YthnjfpjojmcccaaCLinkSend
import Derived.Test.YthnjfpjojmcccaaCLossyAwake
import Derived.Test.YthnjfpjojmcccaaCDrain
namespace Go.Proofs.Ythnjfpjojmcccaa
open Go.RowKit
set_option linter.unusedVariables false
set_option linter.unusedSimpArgs false

/-- The line with fates: what waits on it was sent. -/
structure OnceX (fates : List Fa) (ps : List RowAt) (k : Nat) (x : Lk) : Prop where
  fx : x.fates = fates
  sx : x.sent = k
  len : x.wait.length ≤ 3 * k
  mem : ∀ m ∈ x.wait, m.body ∈ ps.map (·.l)
  short : ∀ m ∈ x.wait, m.body.length ≤ 100
/-- The line without fates: what waits on it is what was sent, in order. -/
structure OnceY (ps : List RowAt) (k : Nat) (y : Lk) : Prop where
  fy : y.fates = []
  sy : y.sent = k
  dues : ∀ m ∈ y.wait, m.due < k
  bodies : y.wait.map (·.body) = (ps.take k).map (·.l)
  short : ∀ m ∈ y.wait, m.body.length ≤ 100
theorem OnceX.new (fates : List Fa) (ps : List RowAt) : OnceX fates ps 0 ⟨fates, 0, []⟩ := ⟨rfl, rfl, by simp, by simp, by simp⟩
theorem OnceY.new (ps : List RowAt) : OnceY ps 0 ⟨[], 0, []⟩ := ⟨rfl, rfl, by simp, by simp, by simp⟩
theorem clampT_le3 (t : Int) : clampT t ≤ 3 := by unfold clampT; omega
theorem OnceX.send {fates : List Fa} {ps : List RowAt} {k i : Nat} {x : Lk} {z : Mg} {p : RowAt} (h : OnceX fates ps k x) (hp : p ∈ ps) (hl : p.l.length ≤ 100) (hi : PlaceFor x.wait i z.due) (hz : z.body = p.l) : OnceX fates ps (k + 1) ⟨x.fates, x.sent + 1, x.wait.take i ++ List.replicate (clampT (fateM x).1) z ++ x.wait.drop i⟩ := by
  have hm : ∀ m ∈ x.wait.take i ++ List.replicate (clampT (fateM x).1) z ++ x.wait.drop i, m ∈ x.wait ∨ m = z := by
    intro m hm
    rcases List.mem_append.1 hm with hm | hm
    · rcases List.mem_append.1 hm with hm | hm
      · exact .inl (List.mem_of_mem_take hm)
      · exact .inr (List.eq_of_mem_replicate hm)
    · exact .inl (List.mem_of_mem_drop hm)
  refine ⟨h.fx, by rw [h.sx], ?_, fun m hh => ?_, fun m hh => ?_⟩
  · have h1 := clampT_le3 (fateM x).1
    have h2 := h.len
    show (x.wait.take i ++ List.replicate (clampT (fateM x).1) z ++ x.wait.drop i).length ≤ _
    rw [ins_len hi.le]
    omega
  · rcases hm m hh with h1 | rfl
    · exact h.mem m h1
    · rw [hz]; exact List.mem_map_of_mem hp
  · rcases hm m hh with h1 | rfl
    · exact h.short m h1
    · rw [hz]; exact hl
theorem OnceY.send {ps : List RowAt} {k i : Nat} {y : Lk} {z : Mg} (h : OnceY ps k y) (hk : k < ps.length) (hl : (ps[k]).l.length ≤ 100) (hi : PlaceFor y.wait i z.due) (hz : z.body = (ps[k]).l) (hd : z.due = y.sent + clampD (fateM y).2) : OnceY ps (k + 1) ⟨y.fates, y.sent + 1, y.wait.take i ++ List.replicate (clampT (fateM y).1) z ++ y.wait.drop i⟩ := by
  have hf : fateM y = (1, 0) := by unfold fateM; rw [h.fy]; simp
  have e1 : clampT 1 = 1 := rfl
  have e2 : clampD 0 = 0 := rfl
  rw [hf] at hd ⊢
  simp only [e1, e2, Nat.add_zero, h.sy] at hd ⊢
  have hin : i = y.wait.length := by
    have h1 := hi.le
    rcases Nat.lt_or_ge i y.wait.length with h2 | h2
    · have h3 := hi.gt i h2 (Nat.le_refl _)
      have h4 := h.dues _ (List.getElem_mem h2)
      omega
    · omega
  subst hin
  rw [List.take_length, List.drop_length, List.append_nil]
  refine ⟨h.fy, rfl, fun m hm => ?_, ?_, fun m hm => ?_⟩
  · rcases List.mem_append.1 hm with hm | hm
    · have := h.dues m hm; omega
    · rw [List.eq_of_mem_replicate hm]; omega
  · show (y.wait ++ List.replicate 1 z).map (·.body) = _
    rw [List.map_append, h.bodies, List.take_succ_eq_append_getElem hk, List.map_append]
    simp [hz]
  · rcases List.mem_append.1 hm with hm | hm
    · exact h.short m hm
    · rw [List.eq_of_mem_replicate hm, hz]; exact hl
theorem OnceX.told {fates : List Fa} {ps : List RowAt} {k : Nat} {x : Lk} {pre : List RowAt} {p : RowAt} (h : OnceX fates ps k x) (hp : (pre ++ [p]).map (·.l) <+: x.wait.map (·.body)) : p.l ∈ ps.map (·.l) ∧ pre.length < 3 * k := by
  have h1 : p.l ∈ x.wait.map (·.body) := hp.subset (by simp)
  obtain ⟨m, hm, e⟩ := List.mem_map.1 h1
  have h2 := hp.length_le
  simp only [List.length_map, List.length_append, List.length_cons, List.length_nil] at h2
  have h3 := h.len
  exact ⟨by rw [← e]; exact h.mem m hm, by omega⟩
theorem OnceY.told {ps : List RowAt} {y : Lk} {pre : List RowAt} {p : RowAt} (h : OnceY ps ps.length y) (hp : (pre ++ [p]).map (·.l) <+: y.wait.map (·.body)) : ∃ hk : pre.length < ps.length, (ps[pre.length]).l = p.l := by
  rw [h.bodies, List.take_length] at hp
  have h2 := hp.length_le
  simp only [List.length_map, List.length_append, List.length_cons, List.length_nil] at h2
  refine ⟨by omega, ?_⟩
  have h3 := List.IsPrefix.getElem hp (i := pre.length) (by simp)
  simp only [List.map_append, List.map_cons, List.map_nil] at h3
  rw [List.getElem_append_right (by simp)] at h3
  simpa using h3.symm
theorem any_all {ps : List RowAt} {l : List UInt8} (h : l ∈ ps.map (·.l)) : (ps.take ps.length).any (fun p => p.l == l) = true := by
  rw [List.take_length]
  obtain ⟨p, hp, e⟩ := List.mem_map.1 h
  exact List.any_eq_true.2 ⟨p, hp, by simpa using e⟩
theorem any_next {ps : List RowAt} {l : List UInt8} {j : Nat} (hj : j < ps.length) : (ps.take (j + 1)).any (fun p => p.l == l) = ((ps.take j).any (fun p => p.l == l) || (ps[j].l == l)) := by
  rw [List.take_succ_eq_append_getElem hj, List.any_append]
  simp
section
variable {P : Program} {w : World}
/-- A return behind two ranges over functions. -/
theorem ret_mark2 {fn : Func} {n : Nat} {R : Ending → World → Prop} {a : Act} {v : Value} {D E : Nat} (hK : w.heap[D]? = some (.deferred (some []))) (hK2 : (w.putObj D (.deferred none)).heap[E]? = some (.deferred (some []))) (hd : a.defers = [{ target := .collected D, args := #[] }, { target := .collected E, args := #[] }])
    (hr : (results fn a.tmps).run P ((w.putObj D (.deferred none)).putObj E (.deferred none)) = .ok v ((w.putObj D (.deferred none)).putObj E (.deferred none))) (h : R (.returned v) ((w.putObj D (.deferred none)).putObj E (.deferred none))) : bodyPostM Fence.wide n P fn R .ret a w := by
  show LeavesInM Fence.wide n P fn a.tmps R a.defers .returning w
  rw [hd]
  exact ⟨by simp, .inl ⟨_, _, rfl, run_takeDeferred hK, ⟨by simp, .inl ⟨_, _, rfl, run_takeDeferred hK2, ⟨v, hr, h⟩⟩⟩⟩⟩
end
end Go.Proofs.Ythnjfpjojmcccaa
