/- A suite's digests. -/
import Derived.Test.YtcmgjoamfjijhaaCSuIdeal
import Derived.Test.YtcmgjoamfjijhaaCMacSum
namespace Go.Proofs.Ytcmgjoamfjijhaa
open Go.RowKit Go.Maps
set_option linter.unusedVariables false
set_option linter.unusedSimpArgs false

def zid : Id := ⟨zeros 32, by simp [zeros]⟩
def nm0 : Nm := ⟨[], by simp⟩
/-- Bytes cut to 32, as an id. -/
def mkId (l : List UInt8) : Id := ⟨(l ++ zeros 32).take 32, by simp [zeros]⟩
theorem mkId_val {l : List UInt8} (h : l.length = 32) : (mkId l).1 = l := by
  show (l ++ zeros 32).take 32 = l
  rw [List.take_left' h]
/-- Questions that are answered by 32 bytes have been. -/
def SuOk (s : Su) : Prop := ∀ q out, mget s.ans q = some out → q.1.1 ≠ 2 → out.1.length = 32
theorem SuOk.new (mode : Nat) (tape : List UInt8) : SuOk (newSu mode tape) := fun q out h => by simp [newSu, mget_nil] at h
theorem idealM_ok {q : Ask} {n : Nat} {s : Su} (h : SuOk s) (hn : q.1.1 ≠ 2 → n = 32) (h6 : n ≤ 1000000) : SuOk (idealM q n s).2 := by
  unfold idealM
  cases hg : mget s.ans q with
  | some out => exact h
  | none =>
    simp only
    split
    · rename_i hle
      intro q' out ho hq
      simp only [putAsk, mget_set] at ho
      split at ho
      · rename_i hqq
        subst hqq
        cases ho
        rw [mkNm_val (by rw [List.length_take]; simp [maxLen]; omega), List.length_take, hn hq]
        rw [hn hq] at hle
        omega
      · exact h q' out ho hq
    · exact h
theorem idealM_len {q : Ask} {s : Su} {out : Nm} (h : SuOk s) (hq : q.1.1 ≠ 2) (ho : (idealM q 32 s).1 = some out) : out.1.length = 32 := by
  unfold idealM at ho
  cases hg : mget s.ans q with
  | some o =>
    rw [hg] at ho
    cases ho
    exact h q _ hg hq
  | none =>
    rw [hg] at ho
    simp only at ho
    split at ho
    · cases ho
      rw [mkNm_val (by rw [List.length_take]; simp [maxLen]; omega), List.length_take]
      omega
    · cases ho
theorem idealM_mode (q : Ask) (n : Nat) (s : Su) : (idealM q n s).2.mode = s.mode := by
  unfold idealM
  split
  · rfl
  · split <;> rfl
def dblM (d : Id) (s : Su) : Bool := (mget s.dbl d).getD false
/-- A text noted under its digest. -/
def markM (d : Id) (b : Nm) (s : Su) : Su := match mget s.texts d with
  | none => { s with texts := mset s.texts d b }
  | some was => if was.1 = b.1 then s else { s with dbl := mset s.dbl d true }
def askD (b : List UInt8) : Ask := (⟨1, by omega⟩, zid, nm0, mkNm b)
/-- What is answered once the digest is there. -/
def closeM (d : Id) (s : Su) : List UInt8 × Nat := if dblM d s = true then (zeros 32, 71) else (d.1, 0)
def digestM (b : List UInt8) (s : Su) : List UInt8 × Nat × Su :=
  if s.mode = 0 then ((closeM (mkId (sumM b)) (markM (mkId (sumM b)) (mkNm b) s)).1, (closeM (mkId (sumM b)) (markM (mkId (sumM b)) (mkNm b) s)).2, markM (mkId (sumM b)) (mkNm b) s)
  else match (idealM (askD b) 32 s).1 with
  | none => (zeros 32, 60, (idealM (askD b) 32 s).2)
  | some out => ((closeM (mkId out.1) (markM (mkId out.1) (mkNm b) (idealM (askD b) 32 s).2)).1, (closeM (mkId out.1) (markM (mkId out.1) (mkNm b) (idealM (askD b) 32 s).2)).2, markM (mkId out.1) (mkNm b) (idealM (askD b) 32 s).2)
theorem markM_ok {d : Id} {b : Nm} {s : Su} (h : SuOk s) : SuOk (markM d b s) := by
  unfold markM
  split
  · exact h
  · split <;> exact h
theorem digestM_ok {b : List UInt8} {s : Su} (h : SuOk s) : SuOk (digestM b s).2.2 := by
  have hi := idealM_ok (q := askD b) (n := 32) h (fun _ => rfl) (by omega)
  unfold digestM
  split
  · exact markM_ok h
  · split
    · exact hi
    · exact markM_ok hi
theorem digestM_len {b : List UInt8} {s : Su} : (digestM b s).1.length = 32 := by
  have hc : ∀ d s, (closeM d s).1.length = 32 := fun d s => by
    unfold closeM
    split
    · simp [zeros]
    · exact d.2
  unfold digestM
  split
  · exact hc _ _
  · split
    · simp [zeros]
    · exact hc _ _
theorem ex_look_bool {P : Program} {ρ : Operand → Value} {o : Oper} {S : Nat → Prop} {w0 w : World} {L F : List Ent} {m : List (Id × Bool)} (h : St S w0 w L) (t : TypeId) (x y : Operand) (ho : o.op = .lookup t x y false) (b : Nat) (hx : ρ x = .map (some b)) (a : Id) (hy : ρ y = idv a) {k e : TypeId} [T : MapTy P t k e (.bool false)] [sm : SlotM L b idv boolv m F] [K : MapKey P k idv] :
    Reads P ρ o w (.bool ((mget m a).getD false)) := by
  have := ex_mlook (P := P) (kv := idv) (vv := boolv) (m := m) h t x y ho b hx a hy
  cases hg : mget m a <;> rw [hg] at this <;> exact this

theorem dbl_put (d : Id) (s : Su) : (mget (mset s.dbl d true) d).getD false = true := by simp [mget_set]
theorem ex_look_boolv {P : Program} {ρ : Operand → Value} {o : Oper} {S : Nat → Prop} {w0 w : World} {L F : List Ent} {m : List (Id × Bool)} (h : St S w0 w L) (t : TypeId) (x y : Operand) (ho : o.op = .lookup t x y false) (b : Nat) (hx : ρ x = .map (some b)) (a : Id) (hy : ρ y = idv a) {v : Bool} (hv : (mget m a).getD false = v) {k e : TypeId} [T : MapTy P t k e (.bool false)] [sm : SlotM L b idv boolv m F] [K : MapKey P k idv] :
    Reads P ρ o w (.bool v) := by
  rw [← hv]
  exact ex_look_bool h t x y ho b hx a hy
end Go.Proofs.Ytcmgjoamfjijhaa
