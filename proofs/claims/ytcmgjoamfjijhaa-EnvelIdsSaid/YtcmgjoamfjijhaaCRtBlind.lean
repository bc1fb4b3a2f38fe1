/- A name blinded: the program's and the reference's. -/
import Derived.Test.YtcmgjoamfjijhaaCRsPrf
import Derived.Test.YtcmgjoamfjijhaaCSuPrf
namespace Go.Proofs.Ytcmgjoamfjijhaa
open Go.RowKit Go.Maps
set_option linter.unusedVariables false
set_option linter.unusedSimpArgs false

theorem rprfM_len {k : Id} {lab : UInt8} {b : List UInt8} {s : PRs} (h : RsOk s) : (rprfM k lab b s).1.length = 32 := by
  have hl := ridealM_32 (q := 1) (k := k) (lab := [lab]) (inp := b) h (.inl rfl)
  unfold rprfM
  split
  · exact macM_length _ _
  · split
    · rename_i he; exact hl he
    · simp [zeros]
set_option maxRecDepth 100000 in
theorem rt_blind {S : Nat → Prop} {w0 w : World} {L F : List Ent} {g : Nat} {k : SuAt} {s : Su} (h : St S w0 w L) [sl : SlotU L g k s F] (key : Id) (a : List UInt8) (ha : a.length ≤ 100000) (hok : SuOk s) :
    Calls Try.prog 26 #[.pointer (some ⟨g, 0, none⟩), .agg (u8s key.1).toArray, .string (str a)] w fun e w' => e = .returned (.tuple #[.agg (u8s (prfM key 110 a s).1).toArray, .int .i64 ((prfM key 110 a s).2.1 : Int)]) ∧ ∃ k', St S w0 w' (eSu g k' (prfM key 110 a s).2.2 :: F) := by
  replace h := h.perm sl.perm
  have hrk := Row.u32 key
  have hl := prfM_len (k := key) (lab := 110) (b := a) hok
  obtain ⟨x, e0, s1, hi⟩ : ∃ x e0 s1, prfM key 110 a s = (x, e0, s1) := ⟨_, _, _, rfl⟩
  rw [hi] at hl ⊢
  obtain ⟨d, hd⟩ : ∃ d : Id, d.1 = x := ⟨⟨x, hl⟩, rfl⟩
  subst hd
  have Hi := Lib.hid hi
  have hr := Row.u32 d
  have t1 := True.intro
  have t2 := True.intro
  have hmx : a.length ≤ maxLen := by simp [maxLen]; omega
  clear hi hl
  go_enter Try.func26, Try.ntmps26
  go_wp2_with (first
    | (refine wl_runs rfl (ex_box h 29 _ rfl (u8s key.1) rfl) ?_; clear h; rintro _ w ⟨g4, rfl, h⟩)
    | (refine wl_runs rfl (ex_alloc h 49 rfl) ?_; clear h; rintro _ w ⟨gr, rfl, h⟩)
    | (refine wl_runs rfl (ex_alloc h 29 rfl) ?_; clear h; rintro _ w ⟨g8, rfl, h⟩)
    | (refine wl_runs rfl (ex_bytes h _ _ _ rfl Try.underlying9 Try.underlying5 a rfl hmx) ?_; clear h; rintro _ w ⟨ga, ca, rfl, h⟩)
    | (go_at_call 20; refine (su_prf (g := g) (A := some ⟨ga, 0, none⟩) (n := a.length) (c := ca) (b := a) h key 110 ha hok).mono ?_; rw [Hi.out]; clear h; rintro e w ⟨rfl, k1, h⟩)
    | (refine wl_reads rfl (ex_loadv h _ _ rfl _ _ rfl) ?_) | (refine wl_runs rfl (ex_store h _ _ _ rfl _ _ rfl _ rfl) ?_; clear h; rintro _ w ⟨rfl, h⟩; try dsimp only [Act.put]))
  refine bodyPost_ret (res_cell_tmp rfl rfl rfl (h.loadVar 49 gr 0)) rfl ?_
  exact ⟨rfl, k1, h.to⟩
set_option maxRecDepth 100000 in
theorem rr_blind {S : Nat → Prop} {w0 w : World} {L F : List Ent} {g : Nat} {k : RsAt} {s : RSu} (h : St S w0 w L) [sl : SlotV L g k s F] (key : Id) (a : List UInt8) (ha : a.length ≤ 100000) (hr0 : s.rows.length ≤ 1000000) (hok : RsOk s.pr) :
    Calls Try.prog 27 #[.pointer (some ⟨g, 0, none⟩), .agg (u8s key.1).toArray, .string (str a)] w fun e w' => e = .returned (.tuple #[.agg (u8s (rprfM key 110 a s.pr).1).toArray, .int .i64 ((rprfM key 110 a s.pr).2.1 : Int)]) ∧ ∃ k' s', s'.pr = (rprfM key 110 a s.pr).2.2 ∧ St S w0 w' (eRs g k' s' :: F) := by
  replace h := h.perm sl.perm
  have hrk := Row.u32 key
  have hl := rprfM_len (k := key) (lab := 110) (b := a) hok
  obtain ⟨x, e0, p1, hi⟩ : ∃ x e0 p1, rprfM key 110 a s.pr = (x, e0, p1) := ⟨_, _, _, rfl⟩
  rw [hi] at hl ⊢
  obtain ⟨d, hd⟩ : ∃ d : Id, d.1 = x := ⟨⟨x, hl⟩, rfl⟩
  subst hd
  have Hi := Lib.hid hi
  have hr := Row.u32 d
  have t1 := True.intro
  have t2 := True.intro
  have hmx : a.length ≤ maxLen := by simp [maxLen]; omega
  clear hi hl
  go_enter Try.func27, Try.ntmps27
  go_wp2_with (first
    | (refine wl_runs rfl (ex_box h 29 _ rfl (u8s key.1) rfl) ?_; clear h; rintro _ w ⟨g4, rfl, h⟩)
    | (refine wl_runs rfl (ex_alloc h 49 rfl) ?_; clear h; rintro _ w ⟨gr, rfl, h⟩)
    | (refine wl_runs rfl (ex_alloc h 29 rfl) ?_; clear h; rintro _ w ⟨g8, rfl, h⟩)
    | (refine wl_runs rfl (ex_bytes h _ _ _ rfl Try.underlying9 Try.underlying5 a rfl hmx) ?_; clear h; rintro _ w ⟨ga, ca, rfl, h⟩)
    | (go_at_call 49; refine (rs_prf (g := g) (A := some ⟨ga, 0, none⟩) (n := a.length) (c := ca) (b := a) h key 110 ha hr0 hok).mono ?_; rw [Hi.out]; clear h; rintro e w ⟨rfl, k1, s1, hs1, h⟩)
    | (refine wl_reads rfl (ex_loadv h _ _ rfl _ _ rfl) ?_) | (refine wl_runs rfl (ex_store h _ _ _ rfl _ _ rfl _ rfl) ?_; clear h; rintro _ w ⟨rfl, h⟩; try dsimp only [Act.put]))
  refine bodyPost_ret (res_cell_tmp rfl rfl rfl (h.loadVar 49 gr 0)) rfl ?_
  exact ⟨rfl, k1, s1, hs1, h.to⟩
end Go.Proofs.Ytcmgjoamfjijhaa
