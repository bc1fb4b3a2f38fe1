/- slices.Collect of slices.Values at ids. -/
import Derived.Test.YtionnlckjjojnaaCValIds
namespace Go.Proofs.Ytionnlckjjojnaa
open Go.RowKit Go.Shelf
set_option linter.unusedVariables false
set_option linter.unusedSimpArgs false

def ColKeep (gs : Nat) (F : List Ent) (pre : List Id) (L : List Ent) : Prop := ∃ A c, L = eBlk gs 23 [.slice A pre.length c] :: eOwn 33 32 A pre.length c (pre.flatMap idc) :: F
def ColAx (gs : Nat) (F : List Ent) (t : Array Value) (pre : List Id) (x : Id) (a' : Act) (L : List Ent) : Prop := ∃ g5 A c, a' = { tmps := (t.setIfInBounds 7 (.agg (u8s x.1).toArray)).setIfInBounds 5 (.pointer (some ⟨g5, 0, none⟩)), defers := [] } ∧ L = eBlk g5 33 (u8s x.1) :: eBlk gs 23 [.slice A pre.length c] :: eOwn 33 32 A pre.length c (pre.flatMap idc) :: F
set_option maxRecDepth 100000 in
set_option maxHeartbeats 1000000 in
theorem append_vals {S : Nat → Prop} {w0 w : World} {F : List Ent} {gb : Nat} {A : Option Addr} {c : Nat} {l : List Id} (h : St S w0 w (VL gb A c l F)) (hl : l.length ≤ 1000000) :
    Calls Try.prog 84 #[.slice none 0 0, .func (.func 71) #[] #[.pointer (some ⟨gb, 0, none⟩)]] w fun e w' => ∃ A1 c1, e = .returned (.slice A1 l.length c1) ∧ St S w0 w' (eOwn 33 32 A1 l.length c1 (l.flatMap idc) :: eSl A l.length c 32 (l.flatMap idc) :: F) := by
  refine callsIn_wide.1 (callsIn_of_wp_marks (F := Fence.wide) (n := 3) Try.func84 rfl trivial ?_ rfl)
  simp only [Try.ntmps84, List.size_toArray, List.length_cons, List.length_nil, Nat.reduceAdd, Nat.reduceSub, Array.replicate_succ, Array.replicate_zero, List.push_toArray, List.append_toArray, List.nil_append, List.cons_append]
  refine wpIn_wide.2 ?_
  go_wp2_with (first
    | (refine wl_runs rfl (ex_box1s h 23 _ rfl none 0 0 rfl) ?_; clear h; rintro _ w ⟨gs, rfl, h⟩))
  replace h : St S w0 w (VL gb A c l [] ++ (eBlk gs 23 [.slice none 0 0] :: eOwn 33 32 none 0 0 [] :: F)) := St.to (L' := eBlk gb 23 [.slice A l.length c] :: eSl A l.length c 32 (l.flatMap idc) :: eBlk gs 23 [.slice none 0 0] :: eOwn 33 32 none 0 0 [] :: F) (h.nilRow 33 32)
  refine wp_iter rfl (enters_of Try.func71 (by kernel_rfl) rfl) (val_iters hl) (fun _ => rfl) h (ColKeep gs F) (fun _ _ _ => False) (ColAx gs F) ⟨none, 0, rfl⟩ ?assign ?body ?done ?stop
  case assign =>
    rintro l' T X O R' pre x L W ⟨A, c, rfl⟩ _ h
    have hrx : Row (u8s x.1) 32 := Row.u32 x
    rw [zip1]
    simp only [u8s_idc, List.setIfInBounds_toArray, List.set_cons_succ, List.set_cons_zero]
    gi_wp2_with (first
      | (refine wi_runs rfl (ex_alloc h 33 rfl) ?_; clear h; rintro _ w ⟨g5, rfl, h⟩)
      | (refine wi_runs rfl (ex_store h _ _ _ rfl _ _ rfl (u8s x.1) rfl) ?_; clear h; rintro _ w ⟨rfl, h⟩; try dsimp only [Act.put]))
    exact ⟨_, ⟨g5, A, c, rfl, rfl⟩, h.to⟩
  case body =>
    rintro l' T X O R' pre x a' L W W2 ⟨g5, A, c, rfl, rfl⟩ hok h
    have hlen : pre.length + 1 ≤ l.length := by
      have h1 := hok.length_le
      simpa using h1
    have hrx : Row (u8s x.1) 32 := Row.u32 x
    clear hok
    simp only [List.setIfInBounds_toArray, List.set_cons_succ, List.set_cons_zero]
    gi_wp2_with (first
      | (refine wi_runs rfl (ex_slice1 h _ _ rfl (u8s x.1) rfl) ?_; clear h; rintro _ w ⟨gx, rfl, h⟩)
      | (refine wi_runs rfl (ex_append h _ _ _ rfl A rfl (some ⟨gx, 0, none⟩) 1 1 rfl (h.slBox gx) hrx.one (by simp [maxLen]; omega) (by omega)) ?_; clear h; rintro _ w ⟨A2, c2, rfl, h⟩)
      | (refine wi_runs rfl (ex_store1s h _ _ _ rfl gs 0 rfl _ _ _ rfl) ?_; clear h; rintro _ w ⟨rfl, h⟩; try dsimp only [Act.put])
      | (refine wi_reads rfl (ex_loadv h _ _ rfl _ _ rfl) ?_))
    refine ⟨_, ⟨A2, c2, rfl⟩, ?_⟩
    have e1 : (pre ++ [x]).length = pre.length + 1 := by simp
    have e2 : (pre ++ [x]).flatMap idc = pre.flatMap idc ++ u8s x.1 := by simp [idc]
    rw [e1, e2]
    exact h.to
  case done =>
    rintro D pre L Lf W ⟨A2, c2, rfl⟩ ⟨rfl, hp⟩ h
    obtain rfl := hp rfl
    replace h : St S w0 W (eDfr D :: eBlk gb 23 [.slice A pre.length c] :: eSl A pre.length c 32 (pre.flatMap idc) :: eBlk gs 23 [.slice A2 pre.length c2] :: eOwn 33 32 A2 pre.length c2 (pre.flatMap idc) :: F) := h
    go_wp2_with (first | (refine wl_reads rfl (ex_loadv h _ _ rfl _ _ rfl) ?_))
    refine ret_mark h.dfr rfl (results_tmp rfl _ _ _) ⟨A2, c2, rfl, ?_⟩
    exact (h.putDfr (D := D)).to
  case stop =>
    rintro D c' pre L Lf W hx
    exact hx.elim
set_option maxRecDepth 100000 in
theorem collect_vals {S : Nat → Prop} {w0 w : World} {F : List Ent} {gb : Nat} {A : Option Addr} {c : Nat} {l : List Id} (h : St S w0 w (VL gb A c l F)) (hl : l.length ≤ 1000000) :
    Calls Try.prog 70 #[.func (.func 71) #[] #[.pointer (some ⟨gb, 0, none⟩)]] w fun e w' => ∃ A1 c1, e = .returned (.slice A1 l.length c1) ∧ St S w0 w' (eOwn 33 32 A1 l.length c1 (l.flatMap idc) :: eSl A l.length c 32 (l.flatMap idc) :: F) := by
  go_enter Try.func70, Try.ntmps70
  go_wp2_with (first
    | (go_at_call 84; refine (append_vals h hl).mono ?_; clear h; rintro e w ⟨A1, c1, rfl, h⟩))
  go_ret
  exact ⟨A1, c1, rfl, h⟩
end Go.Proofs.Ytionnlckjjojnaa
