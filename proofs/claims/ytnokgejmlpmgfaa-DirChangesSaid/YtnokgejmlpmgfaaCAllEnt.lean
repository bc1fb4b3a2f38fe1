/- slices.All at entries. -/
import Derived.Test.YtnokgejmlpmgfaaCDirM
import Derived.Test.YtnokgejmlpmgfaaCB2
import Derived.Test.YtnokgejmlpmgfaaCValIds
import Derived.WalkMore
import Derived.Laws.Cover3
namespace Go.Proofs.Ytnokgejmlpmgfaa
open Go.RowKit Go.Shelf
set_option linter.unusedVariables false
set_option linter.unusedSimpArgs false

def allL (l : List En) : List (Nat × En) := (List.range l.length).zip l
theorem allL_length (l : List En) : (allL l).length = l.length := by simp [allL]
theorem allL_get (l : List En) (j : Nat) (hj : j < l.length) : (allL l)[j]'(by rw [allL_length]; exact hj) = (j, l[j]) := by simp [allL]
theorem allL_take (l : List En) (j : Nat) (hj : j < l.length) : (allL l).take (j + 1) = (allL l).take j ++ [(j, l[j])] := by
  rw [List.take_succ_eq_append_getElem (by rw [allL_length]; exact hj), allL_get l j hj]
abbrev AL (gb : Nat) (A : Option Addr) (c : Nat) (l : List En) (F : List Ent) : List Ent := eBlk gb 22 [.slice A l.length c] :: eSl A l.length c 100 (l.flatMap enK) :: F
theorem all_make {S : Nat → Prop} {w0 w : World} {L : List Ent} {A : Option Addr} {n c : Nat} (h : St S w0 w L) :
    Calls Try.prog 86 #[.slice A n c] w fun e w' => ∃ gb, e = .returned (.func (.func 112) #[] #[.pointer (some ⟨gb, 0, none⟩)]) ∧ St S w0 w' (eBlk gb 22 [.slice A n c] :: L) := by
  go_enter Try.func86, Try.ntmps86
  go_wp2_with (first
    | (refine wl_runs rfl (ex_box1s h 22 _ rfl A n c rfl) ?_; clear h; rintro _ w ⟨gb, rfl, h⟩))
  go_ret
  exact ⟨gb, rfl, h⟩
set_option maxRecDepth 100000 in
set_option maxHeartbeats 1000000 in
theorem all_iters {gb : Nat} {A : Option Addr} {c : Nat} {l : List En} (hl : l.length ≤ 1000000) :
    Iters Try.prog 112 #[.pointer (some ⟨gb, 0, none⟩)] (fun p : Nat × En => #[.int .i64 (p.1 : Int), .agg (enK p.2).toArray]) (fun pre x _ _ _ => pre ++ [x] <+: allL l)
      (fun pre stopped Lf => Lf = AL gb A c l [] ∧ (stopped = false → pre = allL l)) (AL gb A c l []) := by
  intro n l' J Jx W hW hJ hJx hY h0
  refine callsIn_wide.2 ?_
  go_enter Try.func112, Try.ntmps112
  have h := hW
  go_wp2_with (first | (refine wl_reads rfl (ex_loadv h _ _ rfl _ _ rfl) ?_))
  clear h
  go_loopw [7] (fun x wr => ∃ k : Nat, k ≤ l.length ∧ x = .int .i64 (k : Int) ∧ St (owns (AL gb A c l [])) wr wr (AL gb A c l []) ∧ J ((allL l).take k) (owns (AL gb A c l [])) (reads (AL gb A c l [])) wr) (fun x _ => l.length - (intOf x).toNat)
  case atStart => exact ⟨0, Nat.zero_le _, rfl, hW, by rw [List.take_zero]; exact h0⟩
  case round =>
    clear h0 hW
    obtain ⟨k, hk, rfl, h, hj⟩ := hrel
    by_cases hkl : k < l.length
    · have f2 : (k : Int) < (l.length : Int) := by omega
      have t0 : ((k : Int)).toNat = k := by omega
      obtain ⟨x, hx⟩ : ∃ x, l[k] = x := ⟨_, rfl⟩
      have Hpre := Lib.hid (show (allL l).take (k + 1) = (allL l).take k ++ [(k, x)] by rw [allL_take l k hkl, hx])
      obtain ⟨b, off, rfl, _⟩ := (h.sl A l.length c).pos (by omega)
      have hcs : ∀ {w}, Sl w (some ⟨b, off, none⟩) l.length c 100 (l.flatMap enK) → Cells w b (off + k * 100) (enK x) := fun hs => by rw [← hx]; exact hs.elemAt enK_length hkl (by omega)
      have hrx : Row (enK x) 100 := enK_row x
      clear hx
      go_upto_region 3 with (first
        | (refine wl_at 11 rfl ?_; refine wl_reads rfl (ex_load_at _ _ rfl b (off + k * 100) rfl (enK x) (enK_length _) (hcs (h.sl (some ⟨b, off, none⟩) l.length c))) ?_)
        | (refine wl_runs rfl (ex_alloc h 87 rfl) ?_; clear h; rintro _ w ⟨gv, rfl, h⟩)
        | (refine wl_runs rfl (ex_store h _ _ _ rfl _ _ rfl (enK x) rfl) ?_; clear h; rintro _ w ⟨rfl, h⟩; try dsimp only [Act.put]))
      have hJ2 := hJ _ _ _ (owns (eBlk gv 87 (enK x) :: AL gb (some ⟨b, off, none⟩) c l [])) (reads (eBlk gv 87 (enK x) :: AL gb (some ⟨b, off, none⟩) c l [])) wr w hj h.step (fun i hi => ⟨(h.owns_lt hi).2, (h.owns_lt hi).1⟩) (fun i hi => ⟨by
        obtain ⟨y, hy, hi2⟩ := hi
        rcases List.mem_cons.1 hy with rfl | hy
        · exact hi2.elim
        · exact .inr (.inl ⟨y, hy, hi2⟩), h.readsLt hi⟩)
      refine (wpIn_wide (n := n)).1 ?_
      obtain ⟨fn, tmps, assign, body, hy, hR⟩ := hY _ (k, x) _ _ _ hJ2 (by rw [← Hpre.out]; exact List.take_prefix _ _)
      simp only at hy
      gi_wp2_with (first | (refine wi_reads rfl (ex_loadv h _ _ rfl _ _ rfl) ?_))
      refine ⟨fun h => (by cases h), hR.mono ?_⟩
      rintro e W3 ⟨hs3, ⟨rfl, hJ3⟩ | ⟨rfl, hJx3⟩⟩
      · replace h := h.over hs3
        have h2 : St _ W3 W3 (AL gb (some ⟨b, off, none⟩) c l []) := h.to
        have hJ4 := hJ _ _ _ (owns (AL gb (some ⟨b, off, none⟩) c l [])) (reads (AL gb (some ⟨b, off, none⟩) c l [])) W3 W3 hJ3 (Step.refl _ _) (fun i hi => ⟨.inl (owns_tail hi), (h2.owns_lt hi).1⟩) (fun i hi => ⟨.inr (.inl (reads_tail hi)), h2.readsLt hi⟩)
        gi_wp2
        go_wp2
        refine ⟨⟨k + 1, by omega, by push_cast; rfl, h2.renew, by rw [Hpre.out]; exact hJ4⟩, ?_⟩
        simp only [intOf]
        omega
      · replace h := h.over hs3
        have h2 : St _ W3 W3 (AL gb (some ⟨b, off, none⟩) c l []) := h.to
        have hJ4 := hJx _ _ _ (owns (AL gb (some ⟨b, off, none⟩) c l [])) (reads (AL gb (some ⟨b, off, none⟩) c l [])) W3 W3 hJx3 (Step.refl _ _) (fun i hi => ⟨.inl (owns_tail hi), (h2.owns_lt hi).1⟩) (fun i hi => ⟨.inr (.inl (reads_tail hi)), h2.readsLt hi⟩)
        gi_wp2
        go_wp2
        exact bodyPost_ret (results_none rfl _ _ _) rfl (IterEnd.stops (pre := _ ++ [(k, x)]) ⟨rfl, fun e => by cases e⟩ h2.renew hJ4)
    · have hkz : k = l.length := by omega
      subst hkz
      rw [List.take_of_length_le (by rw [allL_length]; exact Nat.le_refl _)] at hj
      go_wp2
      go_end0
      exact IterEnd.ends (pre := allL l) ⟨rfl, fun _ => rfl⟩ h hj
end Go.Proofs.Ytnokgejmlpmgfaa
