/- What an ideal suite seals and opens. -/
import Derived.Test.YtcmgjoamfjijhaaCSuDigest
import Derived.Test.YtcmgjoamfjijhaaCPadPut
namespace Go.Proofs.Ytcmgjoamfjijhaa
open Go.RowKit Go.Maps
set_option linter.unusedVariables false
set_option linter.unusedSimpArgs false

def askS (k : Id) (ad b : List UInt8) : Ask := (⟨2, by omega⟩, k, mkNm ad, mkNm b)
def seal1M (k : Id) (ad b : List UInt8) (s : Su) : Option Nm × Su := idealM (askS k ad b) (44 + bkt b.length) s
def open1M (k : Id) (ad ct : List UInt8) (s : Su) : Option Nm := mget s.plains (k, mkNm ad, mkNm ct)
def openE (o : Option Nm) : Nat := match o with | some _ => 0 | none => 70
set_option maxRecDepth 100000 in
set_option maxHeartbeats 2000000 in
theorem su_seal1 {S : Nat → Prop} {w0 w : World} {L F : List Ent} {g : Nat} {k : SuAt} {s : Su} {A B : Option Addr} {n c m d : Nat} {ad b : List UInt8} (h : St S w0 w L) [sl : SlotU L g k s F] [ka : HasSl F A n c 1 (u8s ad)] [kb : HasSl F B m d 1 (u8s b)] (key : Id) (hn : n ≤ 100000) (hm : m ≤ 65532) (hmo : s.mode ≠ 0) :
    Calls Try.prog 16 #[.pointer (some ⟨g, 0, none⟩), .agg (u8s key.1).toArray, .slice A n c, .slice B m d] w fun e w' => ∃ A1 c1, e = .returned (.tuple #[.slice A1 (outB (seal1M key ad b s).1).length c1, .int .i64 (outE (seal1M key ad b s).1 : Int)]) ∧ ∃ k', St S w0 w' (eSl A1 (outB (seal1M key ad b s).1).length c1 1 (u8s (outB (seal1M key ad b s).1)) :: eSu g k' (seal1M key ad b s).2 :: F) := by
  replace h := h.perm sl.perm
  have han := mkNm_val (b := ad) (by have := (h.sl A n c).n_eq; simp [maxLen]; omega)
  have hbn := mkNm_val (b := b) (by have := (h.sl B m d).n_eq; simp [maxLen]; omega)
  have hq : askv (askS key ad b) = .agg (c_suite_ask (.int .i64 2) (u8s key.1) (.string (str ad)) (.string (str b))).toArray := by
    unfold askv askc askS
    simp only [han, hbn]
    rfl
  have hle := bkt_le (b.length : Int)
  obtain ⟨o, s1, hi⟩ : ∃ o s1, seal1M key ad b s = (o, s1) := ⟨_, _, rfl⟩
  rw [hi]
  have Hi := Lib.hid hi
  have Hq := Lib.hid hq
  have f1 : ((s.mode : Int) == 0) = false := by simp; omega
  have hrk := Row.u32 key
  unfold seal1M at Hi
  obtain ⟨K, hK⟩ : ∃ K, bkt (b.length : Int) = K := ⟨_, rfl⟩
  rw [hK] at Hi hle
  have HK := Lib.hid hK
  clear hi hq han hbn hmo hK
  go_enter Try.func16, Try.ntmps16
  go_wp2_with (first
    | (refine wl_runs rfl (ex_box h 29 _ rfl (u8s key.1) rfl) ?_; clear h; rintro _ w ⟨g5, rfl, h⟩)
    | (go_at_call 33; refine (su_ok (g := g) h).mono ?_; rintro e w ⟨rfl, rfl⟩)
    | (go_at_call 34; refine (padput_code h hm).mono ?_; rw [HK.out]; clear h; rintro e w ⟨Ap, cp, rfl, h⟩; replace h := h.suOpen g)
    | (refine wl_reads rfl (ex_string _ _ _ rfl Try.underlying5 Try.underlying9 A n c rfl (h.sl A n c)) ?_)
    | (refine wl_reads rfl (ex_string _ _ _ rfl Try.underlying5 Try.underlying9 B m d rfl (h.sl B m d)) ?_)
    | (refine wl_reads rfl (ex_lit _ _ rfl [(0, .int .i64 2), (1, .agg (u8s key.1).toArray), (2, .string (str ad)), (3, .string (str b))] rfl) ?_)
    | (go_at_call 37; replace h : St S w0 w (SU g k s F) := h.to; replace h := h.suShut; have hc := su_ideal (g := g) h (askS key ad b) (44 + K) (by omega); rw [Hq.out, Hi.out] at hc; refine hc.mono ?_; clear hc h; rintro e w ⟨A1, c1, rfl, k1, h⟩)
    | (refine wl_reads rfl (ex_loadv h _ _ rfl _ _ rfl) ?_) | (refine wl_runs rfl (ex_store h _ _ _ rfl _ _ rfl _ rfl) ?_; clear h; rintro _ w ⟨rfl, h⟩; try dsimp only [Act.put]))
  go_ret2
  exact ⟨A1, c1, rfl, k1, h⟩
set_option maxRecDepth 100000 in
set_option maxHeartbeats 2000000 in
theorem su_open1 {S : Nat → Prop} {w0 w : World} {L F : List Ent} {g : Nat} {k : SuAt} {s : Su} {A B : Option Addr} {n c m d : Nat} {ad ct : List UInt8} (h : St S w0 w L) [sl : SlotU L g k s F] [ka : HasSl F A n c 1 (u8s ad)] [kb : HasSl F B m d 1 (u8s ct)] (key : Id) (hn : n ≤ 100000) (hm : m ≤ 1000000) (hmo : s.mode = 1) :
    Calls Try.prog 17 #[.pointer (some ⟨g, 0, none⟩), .agg (u8s key.1).toArray, .slice A n c, .slice B m d] w fun e w' => ∃ A1 c1, e = .returned (.tuple #[.slice A1 (outB (open1M key ad ct s)).length c1, .int .i64 (openE (open1M key ad ct s) : Int)]) ∧ St S w0 w' (eSl A1 (outB (open1M key ad ct s)).length c1 1 (u8s (outB (open1M key ad ct s))) :: eSu g k s :: F) := by
  replace h := h.perm sl.perm
  have han := mkNm_val (b := ad) (by have := (h.sl A n c).n_eq; simp [maxLen]; omega)
  have hbn := mkNm_val (b := ct) (by have := (h.sl B m d).n_eq; simp [maxLen]; omega)
  have hq : givv (key, mkNm ad, mkNm ct) = .agg (c_suite_given (u8s key.1) (.string (str ad)) (.string (str ct))).toArray := by
    unfold givv givc
    simp only [han, hbn]
  obtain ⟨o, hi⟩ : ∃ o, open1M key ad ct s = o := ⟨_, rfl⟩
  rw [hi]
  have Hi := Lib.hid hi
  have Hq := Lib.hid hq
  have f1 : ((s.mode : Int) == 1) = true := by simp [hmo]
  have hrk := Row.u32 key
  unfold open1M at Hi
  clear hi hq han hbn hmo
  cases o with
  | none =>
    go_enter Try.func17, Try.ntmps17
    go_upto_region 4 with (first
      | (refine wl_runs rfl (ex_box h 29 _ rfl (u8s key.1) rfl) ?_; clear h; rintro _ w ⟨g5, rfl, h⟩)
      | (go_at_call 33; refine (su_ok (g := g) h).mono ?_; rintro e w ⟨rfl, rfl⟩; replace h := h.suOpen g)
      | (refine wl_reads rfl (ex_loadv h _ _ rfl _ _ rfl) ?_))
    refine wp_region_K 16 (fun w' => St _ _ w' _) (by kernel_rfl) h.drew ?_; replace h := h.drew
    refine wpAnyK_pure 25 (v := ?_) (i := 0) (fuel := 15) rfl rfl (by kernel_rfl) (by kernel_rfl) (by kernel_rfl) (by decide) (fun _ _ _ h => h) (Or.inl ⟨by rfl, fun w _ => ?_⟩) ?_; rotate_left; (go_simp; with_reducible rfl); simp only [Act.put, List.setIfInBounds_toArray, List.set_cons_zero, List.set_cons_succ]
    refine wpAnyK_pure 26 (v := ?_) (i := 1) (fuel := 14) rfl rfl (by kernel_rfl) (by kernel_rfl) (by kernel_rfl) (by decide) (fun _ _ _ h => h) (Or.inl ⟨by rfl, fun w _ => ?_⟩) ?_; rotate_left; (go_simp; with_reducible rfl); simp only [Act.put, List.setIfInBounds_toArray, List.set_cons_zero, List.set_cons_succ]
    refine wpAnyK_pure 27 (v := ?_) (i := 2) (fuel := 13) rfl rfl (by kernel_rfl) (by kernel_rfl) (by kernel_rfl) (by decide) (fun _ _ _ h => h) (Or.inl ⟨by rfl, fun w _ => ?_⟩) ?_; rotate_left; (go_simp; with_reducible rfl); simp only [Act.put, List.setIfInBounds_toArray, List.set_cons_zero, List.set_cons_succ]
    refine wpAnyK_load 28 (i := 3) (fuel := 12) rfl rfl (by kernel_rfl) (by kernel_rfl) (by kernel_rfl) (.inr (by decide)) (by decide) (fun _ _ _ h => h) rfl (fun w h => ex_loadv h _ _ rfl _ _ rfl) ?_; simp only [Act.put, List.setIfInBounds_toArray, List.set_cons_zero, List.set_cons_succ]
    refine wpAnyK_load 29 (i := 4) (fuel := 11) rfl rfl (by kernel_rfl) (by kernel_rfl) (by kernel_rfl) (.inr (by decide)) (by decide) (fun _ _ _ h => h) rfl (fun w h => ex_loadv h _ _ rfl _ _ rfl) ?_; simp only [Act.put, List.setIfInBounds_toArray, List.set_cons_zero, List.set_cons_succ]
    refine wpAnyK_pure 30 (v := ?_) (i := 5) (fuel := 10) rfl rfl (by kernel_rfl) (by kernel_rfl) (by kernel_rfl) (by decide) (fun _ _ _ h => h) (Or.inl ⟨by rfl, fun w _ => ?_⟩) ?_; rotate_left; (go_simp; with_reducible rfl); simp only [Act.put, List.setIfInBounds_toArray, List.set_cons_zero, List.set_cons_succ]
    refine wpAnyK_load 31 (i := 6) (fuel := 9) rfl rfl (by kernel_rfl) (by kernel_rfl) (by kernel_rfl) (.inr (by decide)) (by decide) (fun _ _ _ h => h) rfl (fun w h => ex_string _ _ _ rfl Try.underlying5 Try.underlying9 A n c rfl (h.sl A n c)) ?_; simp only [Act.put, List.setIfInBounds_toArray, List.set_cons_zero, List.set_cons_succ]
    refine wpAnyK_pure 32 (v := ?_) (i := 7) (fuel := 8) rfl rfl (by kernel_rfl) (by kernel_rfl) (by kernel_rfl) (by decide) (fun _ _ _ h => h) (Or.inl ⟨by rfl, fun w _ => ?_⟩) ?_; rotate_left; (go_simp; with_reducible rfl); simp only [Act.put, List.setIfInBounds_toArray, List.set_cons_zero, List.set_cons_succ]
    refine wpAnyK_load 33 (i := 8) (fuel := 7) rfl rfl (by kernel_rfl) (by kernel_rfl) (by kernel_rfl) (.inr (by decide)) (by decide) (fun _ _ _ h => h) rfl (fun w h => ex_string _ _ _ rfl Try.underlying5 Try.underlying9 B m d rfl (h.sl B m d)) ?_; simp only [Act.put, List.setIfInBounds_toArray, List.set_cons_zero, List.set_cons_succ]
    refine wpAnyK_load 34 (i := 9) (fuel := 6) rfl rfl (by kernel_rfl) (by kernel_rfl) (by kernel_rfl) (.inr (by decide)) (by decide) (fun _ _ _ h => h) rfl (fun w h => ex_lit _ _ rfl [(0, .agg (u8s key.1).toArray), (1, .string (str ad)), (2, .string (str ct))] rfl) ?_; simp only [Act.put, List.setIfInBounds_toArray, List.set_cons_zero, List.set_cons_succ]
    refine wpAnyK_load 35 (i := 10) (fuel := 5) rfl rfl (by kernel_rfl) (by kernel_rfl) (by kernel_rfl) (.inr (by decide)) (by decide) (fun _ _ _ h => h) rfl (fun w h => ex_look_none givv nmv h _ _ _ rfl k.m2 rfl (key, mkNm ad, mkNm ct) (by exact Hq.out.symm) Hi.out) ?_; simp only [Act.put, List.setIfInBounds_toArray, List.set_cons_zero, List.set_cons_succ]
    refine wpAnyK_pure 24 (v := ?_) (i := 11) (fuel := 4) rfl rfl (by kernel_rfl) (by kernel_rfl) (by kernel_rfl) (by decide) (fun _ _ _ h => h) (Or.inl ⟨by rfl, fun w _ => ?_⟩) ?_; rotate_left; (go_simp; with_reducible rfl); simp only [Act.put, List.setIfInBounds_toArray, List.set_cons_zero, List.set_cons_succ]
    refine wpAnyK_pure 36 (v := ?_) (i := 12) (fuel := 3) rfl rfl (by kernel_rfl) (by kernel_rfl) (by kernel_rfl) (by decide) (fun _ _ _ h => h) (Or.inl ⟨by rfl, fun w _ => ?_⟩) ?_; rotate_left; (go_simp; with_reducible rfl); simp only [Act.put, List.setIfInBounds_toArray, List.set_cons_zero, List.set_cons_succ]
    refine wpAnyK_pure 37 (v := ?_) (i := 13) (fuel := 2) rfl rfl (by kernel_rfl) (by kernel_rfl) (by kernel_rfl) (by decide) (fun _ _ _ h => h) (Or.inl ⟨by rfl, fun w _ => ?_⟩) ?_; rotate_left; (go_simp; with_reducible rfl); simp only [Act.put, List.setIfInBounds_toArray, List.set_cons_zero, List.set_cons_succ]
    refine wpAnyK_pure 10 (v := ?_) (i := 14) (fuel := 1) rfl rfl (by kernel_rfl) (by kernel_rfl) (by kernel_rfl) (by decide) (fun _ _ _ h => h) (Or.inl ⟨by rfl, fun w _ => ?_⟩) ?_; rotate_left; (go_simp; with_reducible rfl); simp only [Act.put, List.setIfInBounds_toArray, List.set_cons_zero, List.set_cons_succ]
    refine wpAnyK_pure 11 (v := ?_) (i := 15) (fuel := 0) rfl rfl (by kernel_rfl) (by kernel_rfl) (by kernel_rfl) (by decide) (fun _ _ _ h => h) (Or.inl ⟨by rfl, fun w _ => ?_⟩) ?_; rotate_left; (go_simp; with_reducible rfl); simp only [Act.put, List.setIfInBounds_toArray, List.set_cons_zero, List.set_cons_succ]
    refine wpAnyK_done (by kernel_rfl) ?_
    go_wp2
    go_ret2
    have h2 : St S w0 _ (SU g k s F) := h.to
    have h3 : St S w0 _ (eSl none 0 0 1 [] :: eSu g k s :: F) := (h2.suShut.nilRow 5 1).release none (by omega)
    exact ⟨none, 0, rfl, h3⟩
  | some out =>
    go_enter Try.func17, Try.ntmps17
    go_upto_region 4 with (first
      | (refine wl_runs rfl (ex_box h 29 _ rfl (u8s key.1) rfl) ?_; clear h; rintro _ w ⟨g5, rfl, h⟩)
      | (go_at_call 33; refine (su_ok (g := g) h).mono ?_; rintro e w ⟨rfl, rfl⟩; replace h := h.suOpen g)
      | (refine wl_reads rfl (ex_loadv h _ _ rfl _ _ rfl) ?_))
    refine wp_region_K 16 (fun w' => St _ _ w' _) (by kernel_rfl) h.drew ?_; replace h := h.drew
    refine wpAnyK_pure 25 (v := ?_) (i := 0) (fuel := 15) rfl rfl (by kernel_rfl) (by kernel_rfl) (by kernel_rfl) (by decide) (fun _ _ _ h => h) (Or.inl ⟨by rfl, fun w _ => ?_⟩) ?_; rotate_left; (go_simp; with_reducible rfl); simp only [Act.put, List.setIfInBounds_toArray, List.set_cons_zero, List.set_cons_succ]
    refine wpAnyK_pure 26 (v := ?_) (i := 1) (fuel := 14) rfl rfl (by kernel_rfl) (by kernel_rfl) (by kernel_rfl) (by decide) (fun _ _ _ h => h) (Or.inl ⟨by rfl, fun w _ => ?_⟩) ?_; rotate_left; (go_simp; with_reducible rfl); simp only [Act.put, List.setIfInBounds_toArray, List.set_cons_zero, List.set_cons_succ]
    refine wpAnyK_pure 27 (v := ?_) (i := 2) (fuel := 13) rfl rfl (by kernel_rfl) (by kernel_rfl) (by kernel_rfl) (by decide) (fun _ _ _ h => h) (Or.inl ⟨by rfl, fun w _ => ?_⟩) ?_; rotate_left; (go_simp; with_reducible rfl); simp only [Act.put, List.setIfInBounds_toArray, List.set_cons_zero, List.set_cons_succ]
    refine wpAnyK_load 28 (i := 3) (fuel := 12) rfl rfl (by kernel_rfl) (by kernel_rfl) (by kernel_rfl) (.inr (by decide)) (by decide) (fun _ _ _ h => h) rfl (fun w h => ex_loadv h _ _ rfl _ _ rfl) ?_; simp only [Act.put, List.setIfInBounds_toArray, List.set_cons_zero, List.set_cons_succ]
    refine wpAnyK_load 29 (i := 4) (fuel := 11) rfl rfl (by kernel_rfl) (by kernel_rfl) (by kernel_rfl) (.inr (by decide)) (by decide) (fun _ _ _ h => h) rfl (fun w h => ex_loadv h _ _ rfl _ _ rfl) ?_; simp only [Act.put, List.setIfInBounds_toArray, List.set_cons_zero, List.set_cons_succ]
    refine wpAnyK_pure 30 (v := ?_) (i := 5) (fuel := 10) rfl rfl (by kernel_rfl) (by kernel_rfl) (by kernel_rfl) (by decide) (fun _ _ _ h => h) (Or.inl ⟨by rfl, fun w _ => ?_⟩) ?_; rotate_left; (go_simp; with_reducible rfl); simp only [Act.put, List.setIfInBounds_toArray, List.set_cons_zero, List.set_cons_succ]
    refine wpAnyK_load 31 (i := 6) (fuel := 9) rfl rfl (by kernel_rfl) (by kernel_rfl) (by kernel_rfl) (.inr (by decide)) (by decide) (fun _ _ _ h => h) rfl (fun w h => ex_string _ _ _ rfl Try.underlying5 Try.underlying9 A n c rfl (h.sl A n c)) ?_; simp only [Act.put, List.setIfInBounds_toArray, List.set_cons_zero, List.set_cons_succ]
    refine wpAnyK_pure 32 (v := ?_) (i := 7) (fuel := 8) rfl rfl (by kernel_rfl) (by kernel_rfl) (by kernel_rfl) (by decide) (fun _ _ _ h => h) (Or.inl ⟨by rfl, fun w _ => ?_⟩) ?_; rotate_left; (go_simp; with_reducible rfl); simp only [Act.put, List.setIfInBounds_toArray, List.set_cons_zero, List.set_cons_succ]
    refine wpAnyK_load 33 (i := 8) (fuel := 7) rfl rfl (by kernel_rfl) (by kernel_rfl) (by kernel_rfl) (.inr (by decide)) (by decide) (fun _ _ _ h => h) rfl (fun w h => ex_string _ _ _ rfl Try.underlying5 Try.underlying9 B m d rfl (h.sl B m d)) ?_; simp only [Act.put, List.setIfInBounds_toArray, List.set_cons_zero, List.set_cons_succ]
    refine wpAnyK_load 34 (i := 9) (fuel := 6) rfl rfl (by kernel_rfl) (by kernel_rfl) (by kernel_rfl) (.inr (by decide)) (by decide) (fun _ _ _ h => h) rfl (fun w h => ex_lit _ _ rfl [(0, .agg (u8s key.1).toArray), (1, .string (str ad)), (2, .string (str ct))] rfl) ?_; simp only [Act.put, List.setIfInBounds_toArray, List.set_cons_zero, List.set_cons_succ]
    refine wpAnyK_load 35 (i := 10) (fuel := 5) rfl rfl (by kernel_rfl) (by kernel_rfl) (by kernel_rfl) (.inr (by decide)) (by decide) (fun _ _ _ h => h) rfl (fun w h => ex_look_some givv nmv h _ _ _ rfl k.m2 rfl (key, mkNm ad, mkNm ct) (by exact Hq.out.symm) Hi.out) ?_; simp only [Act.put, List.setIfInBounds_toArray, List.set_cons_zero, List.set_cons_succ]
    refine wpAnyK_pure 24 (v := ?_) (i := 11) (fuel := 4) rfl rfl (by kernel_rfl) (by kernel_rfl) (by kernel_rfl) (by decide) (fun _ _ _ h => h) (Or.inl ⟨by rfl, fun w _ => ?_⟩) ?_; rotate_left; (go_simp; with_reducible rfl); simp only [Act.put, List.setIfInBounds_toArray, List.set_cons_zero, List.set_cons_succ]
    refine wpAnyK_pure 36 (v := ?_) (i := 12) (fuel := 3) rfl rfl (by kernel_rfl) (by kernel_rfl) (by kernel_rfl) (by decide) (fun _ _ _ h => h) (Or.inl ⟨by rfl, fun w _ => ?_⟩) ?_; rotate_left; (go_simp; with_reducible rfl); simp only [Act.put, List.setIfInBounds_toArray, List.set_cons_zero, List.set_cons_succ]
    refine wpAnyK_pure 37 (v := ?_) (i := 13) (fuel := 2) rfl rfl (by kernel_rfl) (by kernel_rfl) (by kernel_rfl) (by decide) (fun _ _ _ h => h) (Or.inl ⟨by rfl, fun w _ => ?_⟩) ?_; rotate_left; (go_simp; with_reducible rfl); simp only [Act.put, List.setIfInBounds_toArray, List.set_cons_zero, List.set_cons_succ]
    refine wpAnyK_pure 10 (v := ?_) (i := 14) (fuel := 1) rfl rfl (by kernel_rfl) (by kernel_rfl) (by kernel_rfl) (by decide) (fun _ _ _ h => h) (Or.inl ⟨by rfl, fun w _ => ?_⟩) ?_; rotate_left; (go_simp; with_reducible rfl); simp only [Act.put, List.setIfInBounds_toArray, List.set_cons_zero, List.set_cons_succ]
    refine wpAnyK_pure 11 (v := ?_) (i := 15) (fuel := 0) rfl rfl (by kernel_rfl) (by kernel_rfl) (by kernel_rfl) (by decide) (fun _ _ _ h => h) (Or.inl ⟨by rfl, fun w _ => ?_⟩) ?_; rotate_left; (go_simp; with_reducible rfl); simp only [Act.put, List.setIfInBounds_toArray, List.set_cons_zero, List.set_cons_succ]
    refine wpAnyK_done (by kernel_rfl) ?_
    go_wp2_with (first
      | (refine wl_runs rfl (ex_bytes h _ _ _ rfl Try.underlying9 Try.underlying5 out.1 rfl out.2) ?_; clear h; rintro _ w ⟨ga, ca, rfl, h⟩))
    go_ret2
    have h2 : St S w0 w (SU g k s (eGot (some ⟨ga, 0, none⟩) out.1.length ca 1 (u8s out.1) :: F)) := h.to
    have h3 : St S w0 w (eSl (some ⟨ga, 0, none⟩) out.1.length ca 1 (u8s out.1) :: eSu g k s :: F) := h2.suShut.releaseGot (k := Slot.miss _ _ _ _) _
    exact ⟨some ⟨ga, 0, none⟩, ca, rfl, h3⟩
end Go.Proofs.Ytcmgjoamfjijhaa
