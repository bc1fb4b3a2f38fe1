/- slices.Values, slices.Collect at ids. -/
import Derived.Test.YtionnlckjjojnaaCOrder
import Derived.Test.YtionnlckjjojnaaCTy
import Derived.Test.YtionnlckjjojnaaCB2
import Derived.WalkMore
import Derived.Laws.Cover3
namespace Go.Proofs.Ytionnlckjjojnaa
open Go.RowKit Go.Shelf
set_option linter.unusedVariables false
set_option linter.unusedSimpArgs false

abbrev VL (gb : Nat) (A : Option Addr) (c : Nat) (l : List Id) (F : List Ent) : List Ent := eBlk gb 23 [.slice A l.length c] :: eSl A l.length c 32 (l.flatMap idc) :: F
theorem val_make {S : Nat → Prop} {w0 w : World} {L : List Ent} {A : Option Addr} {n c : Nat} (h : St S w0 w L) :
    Calls Try.prog 59 #[.slice A n c] w fun e w' => ∃ gb, e = .returned (.func (.func 71) #[] #[.pointer (some ⟨gb, 0, none⟩)]) ∧ St S w0 w' (eBlk gb 23 [.slice A n c] :: L) := by
  go_enter Try.func59, Try.ntmps59
  go_wp2_with (first
    | (refine wl_runs rfl (ex_box1s h 23 _ rfl A n c rfl) ?_; clear h; rintro _ w ⟨gb, rfl, h⟩))
  go_ret
  exact ⟨gb, rfl, h⟩
theorem owns_tail {x : Ent} {L : List Ent} {i : Nat} (h : owns L i) : owns (x :: L) i := by obtain ⟨y, hy, hi⟩ := h; exact ⟨y, List.mem_cons_of_mem _ hy, hi⟩
theorem reads_tail {x : Ent} {L : List Ent} {i : Nat} (h : reads L i) : reads (x :: L) i := by obtain ⟨y, hy, hi⟩ := h; exact ⟨y, List.mem_cons_of_mem _ hy, hi⟩
theorem St.readsLt {S : Nat → Prop} {w0 w : World} {L : List Ent} (h : St S w0 w L) {i : Nat} (hi : reads L i) : i < w.heap.size := by
  obtain ⟨x, hx, hi⟩ := hi
  exact x.lt (h.holds x hx) i (.inr hi)
theorem u8s_idc (x : Id) : idc x = u8s x.1 := rfl
set_option maxRecDepth 100000 in
set_option maxHeartbeats 1000000 in
theorem val_iters {gb : Nat} {A : Option Addr} {c : Nat} {l : List Id} (hl : l.length ≤ 1000000) :
    Iters Try.prog 71 #[.pointer (some ⟨gb, 0, none⟩)] (fun x : Id => #[.agg (idc x).toArray]) (fun pre x _ _ _ => pre ++ [x] <+: l)
      (fun pre stopped Lf => Lf = VL gb A c l [] ∧ (stopped = false → pre = l)) (VL gb A c l []) := by
  intro n l' J Jx W hW hJ hJx hY h0
  refine callsIn_wide.2 ?_
  go_enter Try.func71, Try.ntmps71
  have h := hW
  go_wp2_with (first | (refine wl_reads rfl (ex_loadv h _ _ rfl _ _ rfl) ?_))
  clear h
  go_loopw [7] (fun x wr => ∃ k : Nat, k ≤ l.length ∧ x = .int .i64 (k : Int) ∧ St (owns (VL gb A c l [])) wr wr (VL gb A c l []) ∧ J (l.take k) (owns (VL gb A c l [])) (reads (VL gb A c l [])) wr) (fun x _ => l.length - (intOf x).toNat)
  case atStart => exact ⟨0, Nat.zero_le _, rfl, hW, by rw [List.take_zero]; exact h0⟩
  case round =>
    clear h0 hW
    obtain ⟨k, hk, rfl, h, hj⟩ := hrel
    by_cases hkl : k < l.length
    · have f2 : (k : Int) < (l.length : Int) := by omega
      have t0 : ((k : Int)).toNat = k := by omega
      obtain ⟨x, hx⟩ : ∃ x, l[k] = x := ⟨_, rfl⟩
      have Hpre := Lib.hid (show l.take (k + 1) = l.take k ++ [x] by rw [List.take_succ_eq_append_getElem hkl, hx])
      obtain ⟨b, off, rfl, _⟩ := (h.sl A l.length c).pos (by omega)
      have hcs : ∀ {w}, Sl w (some ⟨b, off, none⟩) l.length c 32 (l.flatMap idc) → Cells w b (off + k * 32) (u8s x.1) := fun hs => by rw [← hx]; exact hs.elemAt idc_length hkl (by omega)
      have hrx : Row (u8s x.1) 32 := Row.u32 x
      clear hx
      go_upto_region 3 with (first
        | (refine wl_at 10 rfl ?_; refine wl_reads rfl (ex_load_at _ _ rfl b (off + k * 32) rfl (u8s x.1) (by rw [u8s_length, x.2]) (hcs (h.sl (some ⟨b, off, none⟩) l.length c))) ?_)
        | (refine wl_runs rfl (ex_alloc h 33 rfl) ?_; clear h; rintro _ w ⟨gv, rfl, h⟩)
        | (refine wl_runs rfl (ex_store h _ _ _ rfl _ _ rfl (u8s x.1) rfl) ?_; clear h; rintro _ w ⟨rfl, h⟩; try dsimp only [Act.put]))
      have hJ2 := hJ _ _ _ (owns (eBlk gv 33 (u8s x.1) :: VL gb (some ⟨b, off, none⟩) c l [])) (reads (eBlk gv 33 (u8s x.1) :: VL gb (some ⟨b, off, none⟩) c l [])) wr w hj h.step (fun i hi => ⟨(h.owns_lt hi).2, (h.owns_lt hi).1⟩) (fun i hi => ⟨by
        obtain ⟨y, hy, hi2⟩ := hi
        rcases List.mem_cons.1 hy with rfl | hy
        · exact hi2.elim
        · exact .inr (.inl ⟨y, hy, hi2⟩), h.readsLt hi⟩)
      refine (wpIn_wide (n := n)).1 ?_
      obtain ⟨fn, tmps, assign, body, hy, hR⟩ := hY _ x _ _ _ hJ2 (by rw [← Hpre.out]; exact List.take_prefix _ _)
      simp only [u8s_idc] at hy
      gi_wp2_with (first | (refine wi_reads rfl (ex_loadv h _ _ rfl _ _ rfl) ?_))
      refine ⟨fun h => (by cases h), hR.mono ?_⟩
      rintro e W3 ⟨hs3, ⟨rfl, hJ3⟩ | ⟨rfl, hJx3⟩⟩
      · replace h := h.over hs3
        have h2 : St _ W3 W3 (VL gb (some ⟨b, off, none⟩) c l []) := h.to
        have hJ4 := hJ _ _ _ (owns (VL gb (some ⟨b, off, none⟩) c l [])) (reads (VL gb (some ⟨b, off, none⟩) c l [])) W3 W3 hJ3 (Step.refl _ _) (fun i hi => ⟨.inl (owns_tail hi), (h2.owns_lt hi).1⟩) (fun i hi => ⟨.inr (.inl (reads_tail hi)), h2.readsLt hi⟩)
        gi_wp2
        go_wp2
        refine ⟨⟨k + 1, by omega, by push_cast; rfl, h2.renew, by rw [Hpre.out]; exact hJ4⟩, ?_⟩
        simp only [intOf]
        omega
      · replace h := h.over hs3
        have h2 : St _ W3 W3 (VL gb (some ⟨b, off, none⟩) c l []) := h.to
        have hJ4 := hJx _ _ _ (owns (VL gb (some ⟨b, off, none⟩) c l [])) (reads (VL gb (some ⟨b, off, none⟩) c l [])) W3 W3 hJx3 (Step.refl _ _) (fun i hi => ⟨.inl (owns_tail hi), (h2.owns_lt hi).1⟩) (fun i hi => ⟨.inr (.inl (reads_tail hi)), h2.readsLt hi⟩)
        gi_wp2
        go_wp2
        exact bodyPost_ret (results_none rfl _ _ _) rfl (IterEnd.stops (pre := _ ++ [x]) ⟨rfl, fun e => by cases e⟩ h2.renew hJ4)
    · have hkz : k = l.length := by omega
      subst hkz
      rw [List.take_length] at hj
      go_wp2
      go_end0
      exact IterEnd.ends (pre := l) ⟨rfl, fun _ => rfl⟩ h hj
end Go.Proofs.Ytionnlckjjojnaa
