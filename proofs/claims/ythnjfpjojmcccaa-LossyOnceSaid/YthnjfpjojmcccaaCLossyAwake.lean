/- A line's example; a line that nobody made. -/
import Derived.Test.YthnjfpjojmcccaaCLinkSend
namespace Go.Proofs.Ythnjfpjojmcccaa
open Go.RowKit Go.Shelf
set_option linter.unusedVariables false
set_option linter.unusedSimpArgs false

/-- A literal's block as a row of elements of several cells. -/
theorem St.blkRowK {S : Nat → Prop} {w0 w : World} {L F : List Ent} (h : St S w0 w L) (g n sz : Nat) {t : TypeId} {xs : List Value} [k : SlotB L g t xs F] (hl : xs.length = n * sz) (hn : n ≤ 1000000) : St S w0 w (eOwn t sz (some ⟨g, 0, none⟩) n n xs :: F) :=
  (h.perm k.perm).recast (e := eBlk g t xs) (k := ⟨.refl _⟩) (eOwn t sz (some ⟨g, 0, none⟩) n n xs) ⟨hl, .inr ⟨g, 0, xs.toArray, rfl, h.blk g (k := k), Nat.le_refl _, by simp [maxLen]; omega, by simp [hl], by rw [List.drop_zero]; exact List.take_of_length_le (by rw [show xs.toArray.toList = xs from rfl, hl]; exact Nat.le_refl _)⟩⟩ (fun i ⟨a, ha, hi⟩ => by cases ha; exact hi.symm) (fun _ hk => hk)
def fs0 : List Fa := [(1, 2), (2, 0)]
theorem aw1 {S : Nat → Prop} {w0 w : World} {L F : List Ent} {g d : Nat} {k : LkAt} {B : Option Addr} (h : St S w0 w L) [sl : SlotL L g k ⟨fs0, 0, []⟩ F] [ka : HasSl F B 1 d 1 (u8s [97])] :
    Calls Try.prog 26 #[.pointer (some ⟨g, 0, none⟩), .slice B 1 d] w fun e w' => e = .returned (.tuple #[]) ∧ ∃ k' x, (x.body = [97] ∧ x.due = 2) ∧ St S w0 w' (eLk g k' ⟨fs0, 1, [x]⟩ :: F) := by
  refine (lk_send (g := g) (B := B) (m := 1) (d := d) (b := [97]) h (by omega) (by simp [fs0]) (by simp) (by simp)).mono ?_
  rintro e w' ⟨rfl, k', i, x, hp, hb, hd, hs⟩
  have h0 : i = 0 := by have := hp.le; simp at this; exact this
  have c1 : clampT (fateM ⟨fs0, 0, []⟩).1 = 1 := by decide
  have c2 : clampD (fateM ⟨fs0, 0, []⟩).2 = 2 := by decide
  subst h0
  rw [c1] at hs
  rw [c2] at hd
  exact ⟨rfl, k', x, ⟨hb, by simpa using hd⟩, by simpa using hs⟩
theorem aw2 {S : Nat → Prop} {w0 w : World} {L F : List Ent} {g d : Nat} {k : LkAt} {B : Option Addr} {x : Mg} (h : St S w0 w L) (hx : x.body = [97] ∧ x.due = 2) [sl : SlotL L g k ⟨fs0, 1, [x]⟩ F] [ka : HasSl F B 1 d 1 (u8s [98])] :
    Calls Try.prog 26 #[.pointer (some ⟨g, 0, none⟩), .slice B 1 d] w fun e w' => e = .returned (.tuple #[]) ∧ ∃ k' y, (y.body = [98] ∧ y.due = 1) ∧ St S w0 w' (eLk g k' ⟨fs0, 2, [y, y, x]⟩ :: F) := by
  refine (lk_send (g := g) (B := B) (m := 1) (d := d) (b := [98]) h (by omega) (by simp [fs0]) (by simp) (by simp)).mono ?_
  rintro e w' ⟨rfl, k', i, y, hp, hb, hd, hs⟩
  have c1 : clampT (fateM ⟨fs0, 1, [x]⟩).1 = 2 := rfl
  have c2 : clampD (fateM ⟨fs0, 1, [x]⟩).2 = 0 := rfl
  rw [c1] at hs
  rw [c2] at hd
  have hd1 : y.due = 1 := by simpa using hd
  have h0 : i = 0 := by
    refine Classical.byContradiction fun hi => ?_
    have h1 := hp.le
    have h2 := hp.ge (by omega)
    simp only [List.length_cons, List.length_nil] at h1
    obtain rfl : i = 1 := by omega
    simp at h2
    omega
  subst h0
  exact ⟨rfl, k', y, ⟨hb, hd1⟩, by simpa using hs⟩
theorem aw3 {S : Nat → Prop} {w0 w : World} {L F : List Ent} {g d : Nat} {k : LkAt} {B : Option Addr} {x y : Mg} (h : St S w0 w L) (hx : x.body = [97] ∧ x.due = 2) (hy : y.body = [98] ∧ y.due = 1) [sl : SlotL L g k ⟨fs0, 2, [y, y, x]⟩ F] [ka : HasSl F B 1 d 1 (u8s [99])] :
    Calls Try.prog 26 #[.pointer (some ⟨g, 0, none⟩), .slice B 1 d] w fun e w' => e = .returned (.tuple #[]) ∧ ∃ k' z, St S w0 w' (eLk g k' ⟨fs0, 3, [y, y, x, z]⟩ :: F) := by
  refine (lk_send (g := g) (B := B) (m := 1) (d := d) (b := [99]) h (by omega) (by simp [fs0]) (by simp) (by simp)).mono ?_
  rintro e w' ⟨rfl, k', i, z, hp, hb, hd, hs⟩
  have c1 : clampT (fateM ⟨fs0, 2, [y, y, x]⟩).1 = 1 := rfl
  have c2 : clampD (fateM ⟨fs0, 2, [y, y, x]⟩).2 = 0 := rfl
  rw [c1] at hs
  rw [c2] at hd
  have hd1 : z.due = 2 := by simpa using hd
  have h0 : i = 3 := by
    refine Classical.byContradiction fun hi => ?_
    have h1 := hp.le
    simp only [List.length_cons, List.length_nil] at h1
    have h2 := hp.gt 2 (by simp) (by omega)
    simp at h2
    omega
  subst h0
  exact ⟨rfl, k', z, by simpa using hs⟩
set_option maxRecDepth 100000 in
set_option maxHeartbeats 2000000 in
theorem lossy_awake {S : Nat → Prop} {w0 w : World} {L : List Ent} (h : St S w0 w L) : Calls Try.prog 24 #[] w fun e w' => e = .returned (.bool true) ∧ St S w0 w' L := by
  have hr1 : Row (c_api_Fate (.int .i64 1) (.int .i64 2)) 2 := c_api_Fate.row _ _
  have hr2 : Row (c_api_Fate (.int .i64 2) (.int .i64 0)) 2 := c_api_Fate.row _ _
  have t1 := True.intro
  have t2 := True.intro
  have t3 := True.intro
  have t4 := True.intro
  have t5 := True.intro
  have t6 := True.intro
  have z1 : (str [98]).size = 1 := by rw [str_size]; rfl
  have z2 : (str [97]).size = 1 := by rw [str_size]; rfl
  have hcat : (str [98] ++ str [98] ++ str [97]).toList = [98, 98, 97] := by rw [str_append, str_append]; exact str_toList _
  go_enter Try.func24, Try.ntmps24
  go_wp2_with (first
    | (refine wl_at 8 rfl ?_; refine wl_reads rfl (ex_lit _ _ rfl [(0, .int .i64 1), (1, .int .i64 2)] rfl) ?_)
    | (refine wl_at 9 rfl ?_; refine wl_reads rfl (ex_lit _ _ rfl [(0, .int .i64 2)] rfl) ?_)
    | (refine wl_at 10 rfl ?_; refine wl_runs rfl (ex_sliceN h _ 2 _ rfl [(.agg (c_api_Fate (.int .i64 1) (.int .i64 2)).toArray, c_api_Fate (.int .i64 1) (.int .i64 2)), (.agg (c_api_Fate (.int .i64 2) (.int .i64 0)).toArray, c_api_Fate (.int .i64 2) (.int .i64 0))] rfl rfl (by simp [Value.cells, c_api_Fate]) (by omega) (by omega)) ?_; clear h; rintro _ w ⟨gs, rfl, h⟩; replace h := h.blkRowK gs 2 2 rfl (by omega))
    | (go_at_call 25; refine (lk_new (A := some ⟨gs, 0, none⟩) (n := 2) (c := 2) (fs := fs0) h (by omega)).mono ?_; clear h; rintro e w ⟨g, k, rfl, h⟩)
    | (clear t1; go_at_call 26; refine (aw1 (g := g) (B := some ⟨gx, 0, none⟩) (d := 1) h).mono ?_; clear h; rintro e w ⟨rfl, k1, x, hx, h⟩)
    | (clear t2; go_at_call 26; refine (aw2 (g := g) (B := some ⟨gx, 0, none⟩) (d := 1) h hx).mono ?_; clear h; rintro e w ⟨rfl, k2, y, hy, h⟩)
    | (clear t3; go_at_call 26; refine (aw3 (g := g) (B := some ⟨gx, 0, none⟩) (d := 1) h hx hy).mono ?_; clear h; rintro e w ⟨rfl, k3, z, h⟩)
    | (clear t4; go_at_call 28; refine (lk_receive1 (g := g) (x := y) (p := [y, x, z]) h (by rw [hy.1]; decide) (by simp)).mono ?_; rw [hy.1]; clear h; rintro e w ⟨B1, d1, k4, rfl, h⟩)
    | (clear t5; go_at_call 28; refine (lk_receive1 (g := g) (x := y) (p := [x, z]) h (by rw [hy.1]; decide) (by simp)).mono ?_; rw [hy.1]; clear h; rintro e w ⟨B2, d2, k5, rfl, h⟩)
    | (clear t6; go_at_call 28; refine (lk_receive1 (g := g) (x := x) (p := [z]) h (by rw [hx.1]; decide) (by simp)).mono ?_; rw [hx.1]; clear h; rintro e w ⟨B3, d3, k6, rfl, h⟩)
    | (refine wl_at 48 rfl ?_; refine wl_reads rfl (ex_string _ _ _ rfl Try.underlying5 Try.underlying9 B1 1 d1 rfl (h.sl B1 1 d1)) ?_)
    | (refine wl_at 50 rfl ?_; refine wl_reads rfl (ex_string _ _ _ rfl Try.underlying5 Try.underlying9 B2 1 d2 rfl (h.sl B2 1 d2)) ?_)
    | (refine wl_at 53 rfl ?_; refine wl_reads rfl (ex_string _ _ _ rfl Try.underlying5 Try.underlying9 B3 1 d3 rfl (h.sl B3 1 d3)) ?_)
    | (go_at_call 30; refine (lk_waiting (g := g) h).mono ?_; rintro e w ⟨rfl, rfl⟩)
    | (refine wl_runs rfl (ex_slice1i h _ _ rfl _ _ rfl) ?_; clear h; rintro _ w ⟨gx, rfl, h⟩) | (refine wl_runs rfl (ex_conv h _ _ rfl Try.underlying5 gx 1 rfl rfl (by decide)) ?_; clear h; rintro _ w ⟨rfl, h⟩) | (refine wl_reads rfl (ex_loadv h _ _ rfl _ _ rfl) ?_))
  go_ret
  exact ⟨rfl, h.to⟩
end Go.Proofs.Ythnjfpjojmcccaa
