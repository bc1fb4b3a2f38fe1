/- A suite's keyed words. -/
import Derived.Test.YtcmgjoamfjijhaaCSuDigest
namespace Go.Proofs.Ytcmgjoamfjijhaa
open Go.RowKit Go.Maps
set_option linter.unusedVariables false
set_option linter.unusedSimpArgs false

def askP (k : Id) (lab : UInt8) (b : List UInt8) : Ask := (⟨0, by omega⟩, k, mkNm [lab], mkNm b)
def prfM (k : Id) (lab : UInt8) (b : List UInt8) (s : Su) : List UInt8 × Nat × Su :=
  if s.mode = 0 then (macM k.1 (lab :: b), 0, s)
  else match (idealM (askP k lab b) 32 s).1 with
  | none => (zeros 32, 60, (idealM (askP k lab b) 32 s).2)
  | some out => (out.1, 0, (idealM (askP k lab b) 32 s).2)
theorem prfM_ok {k : Id} {lab : UInt8} {b : List UInt8} {s : Su} (h : SuOk s) : SuOk (prfM k lab b s).2.2 := by
  have hi := idealM_ok (q := askP k lab b) (n := 32) h (fun _ => rfl) (by omega)
  unfold prfM
  split
  · exact h
  · split <;> exact hi
theorem prfM_len {k : Id} {lab : UInt8} {b : List UInt8} {s : Su} (h : SuOk s) : (prfM k lab b s).1.length = 32 := by
  have hl := fun out => idealM_len (q := askP k lab b) (out := out) h (by simp [askP])
  unfold prfM
  split
  · exact macM_length _ _
  · split
    · simp [zeros]
    · rename_i out ho; exact hl out ho
set_option maxRecDepth 100000 in
set_option maxHeartbeats 2000000 in
theorem su_prf {S : Nat → Prop} {w0 w : World} {L F : List Ent} {g : Nat} {k : SuAt} {s : Su} {A : Option Addr} {n c : Nat} {b : List UInt8} (h : St S w0 w L) [sl : SlotU L g k s F] [ka : HasSl F A n c 1 (u8s b)] (key : Id) (lab : UInt8) (hn : n ≤ 100000) (hok : SuOk s) :
    Calls Try.prog 20 #[.pointer (some ⟨g, 0, none⟩), .agg (u8s key.1).toArray, .int .u8 (lab.toNat : Int), .slice A n c] w fun e w' => e = .returned (.tuple #[.agg (u8s (prfM key lab b s).1).toArray, .int .i64 ((prfM key lab b s).2.1 : Int)]) ∧ ∃ k', St S w0 w' (eSu g k' (prfM key lab b s).2.2 :: F) := by
  replace h := h.perm sl.perm
  have hnl := (h.sl A n c).n_eq
  have hbm : b.length ≤ maxLen := by simp [maxLen]; omega
  have hnb := mkNm_val hbm
  have hrk := Row.u32 key
  have tr := True.intro
  by_cases hm0 : s.mode = 0
  · have hd : prfM key lab b s = (macM key.1 (lab :: b), 0, s) := by unfold prfM; rw [if_pos hm0]
    rw [hd]
    have f1 : ((s.mode : Int) == 0) = true := by simp [hm0]
    have hX : ∀ (gl : Nat), macM key.1 (([⟨some ⟨gl, 0, none⟩, 1, 1, [lab]⟩, ⟨A, n, c, b⟩] : List RowAt).flatMap (·.l)) = macM key.1 (lab :: b) := fun gl => by simp
    have hrow : ∀ (gl : Nat), ∀ p ∈ ([⟨some ⟨gl, 0, none⟩, 1, 1, [lab]⟩, ⟨A, n, c, b⟩] : List RowAt), p.l.length ≤ 100000 := by
      intro gl
      simp
      omega
    have HX := Lib.hid hX
    have Hrow := Lib.hid hrow
    have hr1 : Row (u8s [lab]) 1 := Row.mk' rfl (u8s_one _) (by omega)
    have hr2 : Row (u8s (macM key.1 (lab :: b))) 32 := Row.mk' (by rw [u8s_length, macM_length]) (u8s_one _) (by omega)
    clear hd hm0 hX hrow hnl hbm hnb
    generalize macM key.1 (lab :: b) = X at *
    go_enter Try.func20, Try.ntmps20
    go_wp2_with (first
      | (refine wl_runs rfl (ex_box h 29 _ rfl (u8s key.1) rfl) ?_; clear h; rintro _ w ⟨g5, rfl, h⟩)
      | (refine wl_runs rfl (ex_alloc h 29 rfl) ?_; clear h; rintro _ w ⟨gr, rfl, h⟩)
      | (go_at_call 33; refine (su_ok (g := g) h).mono ?_; rintro e w ⟨rfl, rfl⟩; replace h := h.suOpen g)
      | (refine wl_runs rfl (ex_slice1i h _ _ rfl _ _ rfl) ?_; clear h; rintro _ w ⟨gl, rfl, h⟩; replace h : St _ _ w (eBlk gl 5 (u8s [lab]) :: _) := h)
      | (refine wl_runs rfl (ex_sliceN h _ 2 _ rfl [(.slice (some ⟨gl, 0, none⟩) 1 1, [.slice (some ⟨gl, 0, none⟩) 1 1]), (.slice A n c, [.slice A n c])] rfl rfl (by simp [Value.cells]) (by decide) (by decide)) ?_; clear h; rintro _ w ⟨gq, rfl, h⟩; replace h : St _ _ w (eBlk gq 27 [.slice (some ⟨gl, 0, none⟩) 1 1, .slice A n c] :: _) := h)
      | (go_at_call 45; refine (mac_code (A := some ⟨g5, 0, none⟩) (n := 32) (c := 32) (key := key.1) h (by decide) (by decide) (Hrow.out gl)).mono ?_; rw [HX.out gl]; clear h; rintro e w ⟨rfl, h⟩)
      | (refine wl_reads rfl (ex_loadv h _ _ rfl _ _ rfl) ?_) | (refine wl_runs rfl (ex_store h _ _ _ rfl _ _ rfl _ rfl) ?_; clear h; rintro _ w ⟨rfl, h⟩; try dsimp only [Act.put]) | (refine wl_reads rfl (ex_lit0 _ rfl) ?_))
    refine bodyPost_ret (res_cell_tmp rfl rfl rfl (h.loadVar 29 gr 0)) rfl ?_
    have h2 : St S w0 w (SU g k s F) := h.to
    exact ⟨rfl, _, h2.suShut⟩
  · have f1 : ((s.mode : Int) == 0) = false := by simp; omega
    have hq : askv (askP key lab b) = .agg (c_suite_ask (.int .i64 0) (u8s key.1) (.string (str [lab])) (.string (str b))).toArray := by
      unfold askv askc askP
      have e1 : (mkNm [lab]).1 = [lab] := mkNm_val (by simp [maxLen])
      simp only [hnb, e1]
      rfl
    have hlen := fun out => idealM_len (q := askP key lab b) (out := out) hok (by simp [askP])
    have hp : ∀ o s1, idealM (askP key lab b) 32 s = (o, s1) → prfM key lab b s = match o with | none => (zeros 32, 60, s1) | some out => (out.1, 0, s1) := fun o s1 e => by
      unfold prfM
      rw [if_neg hm0, e]
    obtain ⟨o, s1, hi⟩ : ∃ o s1, idealM (askP key lab b) 32 s = (o, s1) := ⟨_, _, rfl⟩
    rw [hp o s1 hi]
    rw [hi] at hlen
    have Hq := Lib.hid hq
    have Hi := Lib.hid hi
    have hr1 : Row (u8s [lab]) 1 := Row.mk' rfl (u8s_one _) (by omega)
    clear hq hp hi hm0 hnb hbm hnl
    cases o with
    | none =>
      clear hlen
      go_enter Try.func20, Try.ntmps20
      go_wp2_with (first
        | (refine wl_runs rfl (ex_box h 29 _ rfl (u8s key.1) rfl) ?_; clear h; rintro _ w ⟨g5, rfl, h⟩)
        | (refine wl_runs rfl (ex_alloc h 29 rfl) ?_; clear h; rintro _ w ⟨gr, rfl, h⟩)
        | (go_at_call 33; refine (su_ok (g := g) h).mono ?_; rintro e w ⟨rfl, rfl⟩; replace h := h.suOpen g)
        | (refine wl_runs rfl (ex_slice1i h _ _ rfl _ _ rfl) ?_; clear h; rintro _ w ⟨gl, rfl, h⟩; replace h : St _ _ w (eBlk gl 5 (u8s [lab]) :: _) := h)
        | (refine wl_reads rfl (ex_string _ _ _ rfl Try.underlying5 Try.underlying9 (some ⟨gl, 0, none⟩) 1 1 rfl (h.sl (some ⟨gl, 0, none⟩) 1 1)) ?_)
        | (refine wl_reads rfl (ex_string _ _ _ rfl Try.underlying5 Try.underlying9 A n c rfl (h.sl A n c)) ?_)
        | (refine wl_reads rfl (ex_lit _ _ rfl [(0, .int .i64 0), (1, .agg (u8s key.1).toArray), (2, .string (str [lab])), (3, .string (str b))] rfl) ?_)
        | (go_at_call 37; replace h : St S w0 w (SU g k s (eBlk gr 29 (u8s (zeros 32)) :: F)) := h.to; replace h := h.suShut; have hc := su_ideal (g := g) h (askP key lab b) 32 (by omega); rw [Hq.out, Hi.out] at hc; refine hc.mono ?_; clear hc h; rintro e w ⟨A1, c1, rfl, k1, h⟩)
        | (refine wl_reads rfl (ex_loadv h _ _ rfl _ _ rfl) ?_) | (refine wl_runs rfl (ex_store h _ _ _ rfl _ _ rfl _ rfl) ?_; clear h; rintro _ w ⟨rfl, h⟩; try dsimp only [Act.put]) | (refine wl_reads rfl (ex_lit0 _ rfl) ?_))
      refine bodyPost_ret (res_cell_tmp rfl rfl rfl (h.loadVar 29 gr 0)) rfl ?_
      exact ⟨rfl, k1, h.to⟩
    | some out =>
      have hol := hlen out rfl
      obtain ⟨d, hd⟩ : ∃ d : Id, d.1 = out.1 := ⟨⟨out.1, hol⟩, rfl⟩
      have Hd := Lib.hid hd
      simp only
      rw [← hd]
      clear hlen hol hd
      have hr := Row.u32 d
      have hat : ∀ (b0 off c : Nat) W', (Instr.arrayAt 29 (.slice (some ⟨b0, off, none⟩) 32 c)).run Try.prog W' = .ok (.pointer (some ⟨b0, off, none⟩)) W' := fun b0 off c W' => run_arrayAt _ _ _ 32 _ _ _ Try.underlying29 (Nat.le_refl _)
      go_enter Try.func20, Try.ntmps20
      go_wp2_with (first
        | (refine wl_runs rfl (ex_box h 29 _ rfl (u8s key.1) rfl) ?_; clear h; rintro _ w ⟨g5, rfl, h⟩)
        | (refine wl_runs rfl (ex_alloc h 29 rfl) ?_; clear h; rintro _ w ⟨gr, rfl, h⟩)
        | (go_at_call 33; refine (su_ok (g := g) h).mono ?_; rintro e w ⟨rfl, rfl⟩; replace h := h.suOpen g)
        | (refine wl_runs rfl (ex_slice1i h _ _ rfl _ _ rfl) ?_; clear h; rintro _ w ⟨gl, rfl, h⟩; replace h : St _ _ w (eBlk gl 5 (u8s [lab]) :: _) := h)
        | (refine wl_reads rfl (ex_string _ _ _ rfl Try.underlying5 Try.underlying9 (some ⟨gl, 0, none⟩) 1 1 rfl (h.sl (some ⟨gl, 0, none⟩) 1 1)) ?_)
        | (refine wl_reads rfl (ex_string _ _ _ rfl Try.underlying5 Try.underlying9 A n c rfl (h.sl A n c)) ?_)
        | (refine wl_reads rfl (ex_lit _ _ rfl [(0, .int .i64 0), (1, .agg (u8s key.1).toArray), (2, .string (str [lab])), (3, .string (str b))] rfl) ?_)
        | (go_at_call 37; replace h : St S w0 w (SU g k s (eBlk gr 29 (u8s (zeros 32)) :: F)) := h.to; replace h := h.suShut; have hc := su_ideal (g := g) h (askP key lab b) 32 (by omega); rw [Hq.out, Hi.out] at hc; refine hc.mono ?_; clear hc h; rintro e w ⟨A1, c1, rfl, k1, h⟩; have hob : outB (some out) = d.1 := Hd.out.symm; have hdl := d.2; rw [hob, hdl] at h ⊢; clear hob hdl; obtain ⟨b0, off, rfl, hbl, hcs⟩ := (h.sl A1 32 c1).pos (by omega))
        | (refine wl_reads rfl (ex_load_at _ _ rfl b0 off rfl (u8s d.1) (by rw [u8s_length, d.2]) hcs) ?_)
        | (refine wl_reads rfl (ex_loadv h _ _ rfl _ _ rfl) ?_) | (refine wl_runs rfl (ex_store h _ _ _ rfl _ _ rfl _ rfl) ?_; clear h; rintro _ w ⟨rfl, h⟩; try dsimp only [Act.put]) | (refine wl_reads rfl (ex_lit0 _ rfl) ?_))
      refine bodyPost_ret (res_cell_tmp rfl rfl rfl (h.loadVar 29 gr 0)) rfl ?_
      exact ⟨rfl, k1, h.to⟩
end Go.Proofs.Ytcmgjoamfjijhaa
