/- An ideal suite opens what it sealed, and nothing else. -/
import Derived.Test.YtcmgjoamfjijhaaCSuSeal1
import Derived.Test.YtcmgjoamfjijhaaCLawTape
import Derived.Test.YtcmgjoamfjijhaaCAwake07
namespace Go.Proofs.Ytcmgjoamfjijhaa
open Go.RowKit Go.Maps
set_option linter.unusedVariables false
set_option linter.unusedSimpArgs false

theorem bkt_512 {n : Nat} (h : n ≤ 300) : bkt (n : Int) ≤ 512 := by
  have h2 : ∀ i : Fin 301, bkt ((i.1 : Nat) : Int) ≤ 512 := by decide +kernel
  exact h2 ⟨n, by omega⟩
theorem mkNm_self (x : Nm) : mkNm x.1 = x := Subtype.ext (mkNm_val x.2)
/-- What an ideal suite with draws enough does. -/
theorem ideal_law (T : List UInt8) (hT : T.length = 1600) (k : Id) (ad b : List UInt8) (hb : b.length ≤ 300) (had : ad.length ≤ 100) :
    ∃ (X : Nm) (s1 : Su), seal1M k ad b (newSu 1 T) = (some X, s1) ∧ seal1M k ad b s1 = (some X, s1) ∧ s1.mode = 1 ∧ X.1.length ≤ 1600 ∧ (∀ other : Id, open1M other ad X.1 s1 = if other = k then some (mkNm b) else none) ∧ (∀ ct : List UInt8, ct.length ≤ 1000 → open1M k ad ct s1 = if ct = X.1 then some (mkNm b) else none) := by
  have hk := bkt_512 hb
  obtain ⟨n, hn⟩ : ∃ n, 44 + bkt (b.length : Int) = n := ⟨_, rfl⟩
  have hle : n ≤ T.length := by omega
  refine ⟨mkNm (T.take n), putAsk (askS k ad b) (mkNm (T.take n)) { newSu 1 T with tape := T.drop n }, ?_, ?_, rfl, ?_, fun other => ?_, fun ct hct => ?_⟩
  · unfold seal1M idealM
    rw [mget_nil, hn]
    simp only [if_pos hle]
  · unfold seal1M idealM
    have : mget (putAsk (askS k ad b) (mkNm (T.take n)) { newSu 1 T with tape := T.drop n }).ans (askS k ad b) = some (mkNm (T.take n)) := by
      show mget (mset [] (askS k ad b) (mkNm (T.take n))) (askS k ad b) = _
      rw [mget_set, if_pos rfl]
    rw [this]
  · rw [mkNm_val (by rw [List.length_take]; simp [maxLen]; omega), List.length_take]
    omega
  · unfold open1M
    rw [mkNm_self]
    show mget (mset [] (k, mkNm ad, mkNm (T.take n)) (mkNm b)) (other, mkNm ad, mkNm (T.take n)) = _
    rw [mget_set, mget_nil]
    by_cases h : other = k
    · subst h; simp
    · rw [if_neg (fun e => h (Prod.mk.inj e).1), if_neg h]
  · unfold open1M
    show mget (mset [] (k, mkNm ad, mkNm (T.take n)) (mkNm b)) (k, mkNm ad, mkNm ct) = _
    rw [mget_set, mget_nil]
    have hc := mkNm_val (b := ct) (by simp [maxLen]; omega)
    have ht := mkNm_val (b := T.take n) (by rw [List.length_take]; simp [maxLen]; omega)
    by_cases h : ct = (mkNm (T.take n)).1
    · rw [if_pos h, if_pos]
      rw [h, mkNm_self]
    · rw [if_neg h, if_neg]
      intro e
      apply h
      have e2 : mkNm ct = mkNm (T.take n) := (Prod.mk.inj (Prod.mk.inj e).2).2
      rw [← e2, hc]
set_option maxRecDepth 100000 in
set_option maxHeartbeats 4000000 in
theorem walk_SuiteIdeal {w0 : World} {x : Int} {k other : Id} {A B C : Option Addr} {n c m d p q1 : Nat} {ad b ct : List UInt8} (hx : (Lit.int .u32 x).wf = true) (ha : Sl w0 A n c 1 (u8s ad)) (hb : Sl w0 B m d 1 (u8s b)) (hc : Sl w0 C p q1 1 (u8s ct)) :
    Calls Try.prog 6 #[.int .u32 x, .agg (u8s k.1).toArray, .slice A n c, .slice B m d, .agg (u8s other.1).toArray, .slice C p q1] w0 fun e w' => e = .returned (.bool true) ∧ Below w0.heap.size w0 w' := by
  have h := ((St.read0 ha (by omega)).reading hb (by omega) (fun k hk2 => ⟨hb.ft_lt (by omega) hk2, id⟩)).reading hc (by omega) (fun k hk2 => ⟨hc.ft_lt (by omega) hk2, id⟩)
  have hal := ha.n_eq
  have hbl := hb.n_eq
  have hcl := hc.n_eq
  have hrk := Row.u32 k
  have hro := Row.u32 other
  clear ha hb hc
  by_cases hsm : n ≤ 100 ∧ m ≤ 300 ∧ p ≤ 600
  · obtain ⟨h1, h2, h3⟩ := hsm
    have d1 : decide ((100 : Int) < (n : Int)) = false := by simp; omega
    have d2 : decide ((300 : Int) < (m : Int)) = false := by simp; omega
    have d3 : decide ((600 : Int) < (p : Int)) = false := by simp; omega
    have hlaw := fun T hT => ideal_law T hT k ad b (by omega) (by omega)
    have Hlaw := Lib.hid hlaw
    have hbv := mkNm_val (b := b) (by simp [maxLen]; omega)
    have Hbv := Lib.hid (show outB (some (mkNm b)) = b from hbv)
    have Hcl := Lib.hid hcl
    have Hbl := Lib.hid hbl
    clear hlaw hbv hal hcl hbl
    go_enter Try.func6, Try.ntmps6
    go_upto_region 6 with (first
      | (refine wl_runs rfl (ex_box h 29 _ rfl (u8s k.1) rfl) ?_; clear h; rintro _ w ⟨g7, rfl, h⟩)
      | (refine wl_runs rfl (ex_box h 29 _ rfl (u8s other.1) rfl) ?_; clear h; rintro _ w ⟨g10, rfl, h⟩)
      | (go_at_call 10; refine (su_awake h).mono ?_; clear h; rintro e w ⟨rfl, h⟩)
      | (go_at_call 19; refine (law_tape h x 400 (by omega)).mono ?_; clear h; rintro e w ⟨T, AT, cT, hTl, rfl, h⟩)
      | (go_at_call 15; refine (tape_new (A := AT) (n := 4 * 400) (c := cT) (b := T) h (by omega)).mono ?_; clear h; rintro e w ⟨gt, A1, c1, rfl, h⟩)
      | (go_at_call 11; refine (su_new1 (tp := some gt) h).mono ?_; clear h; rintro e w ⟨g, kk, rfl, h⟩))
    obtain ⟨X, s1, hs1, hs2, hmo, hX6, ho1, ho2⟩ := Hlaw.out T (by rw [hTl])
    have hk1 := ho1 k
    have hk2 := ho1 other
    have hk3 := ho2 ct (by have := Hcl.out; omega)
    rw [if_pos rfl] at hk1
    clear ho1 ho2 Hlaw hTl
    obtain ⟨xl, hxl⟩ : ∃ xl, outB (some X) = xl := ⟨_, rfl⟩
    have hxl2 : X.1 = xl := hxl
    rw [hxl2] at hk1 hk2 hk3 hX6
    have Hs1 := Lib.hid hs1
    have Hs2 := Lib.hid hs2
    have Hxl := Lib.hid hxl
    have Hk1 := Lib.hid hk1
    have hm1 : s1.mode = 1 := hmo
    have Hm1 := Lib.hid hm1
    have e2 : ∀ (P : Prop) [Decidable P], ∃ v : Nat, openE (if P then some (mkNm b) else none) = v ∧ ((v : Int) == 0) = decide P := fun P _ => by
      by_cases hP : P
      · exact ⟨0, by rw [if_pos hP]; rfl, by simp [hP]⟩
      · exact ⟨70, by rw [if_neg hP]; rfl, by simp [hP]⟩
    obtain ⟨v1, hv1, hb1⟩ := e2 (other = k)
    obtain ⟨v2, hv2, hb2⟩ := e2 (ct = xl)
    rw [← hk2] at hv1
    rw [← hk3] at hv2
    have hek : (other.1 == k.1) = decide (other = k) := by
      by_cases h : other = k
      · simp [h]
      · have : ¬ other.1 = k.1 := fun e => h (Subtype.ext e)
        simp [h, this]
    have hec : ((str ct).toList == (str xl).toList) = decide (ct = xl) := by
      rw [str_toList, str_toList]
      by_cases h : ct = xl <;> simp [h]
    have Hv1 := Lib.hid hv1
    have Hv2 := Lib.hid hv2
    generalize decide (other = k) = B1 at *
    generalize decide (ct = xl) = B2 at *
    have hxx : ((str xl).toList == (str xl).toList) = true := by simp
    have hbb : ((str b).toList == (str b).toList) = true := by simp
    clear e2 hs1 hs2 hxl hk1 hmo hk2 hk3 hv1 hv2 hxl2 hm1
    go_wp2_with (first
      | (have q := Hs1.out; clear Hs1; go_at_call 16; refine (su_seal1 (g := g) (A := A) (n := n) (c := c) (B := B) (m := m) (d := d) (ad := ad) (b := b) h k (by omega) (by omega) (show (1 : Nat) ≠ 0 by decide)).mono ?_; rw [q]; clear q h; rintro e w ⟨X1, cx, rfl, k1, h⟩; rw [Hxl.out] at h; rw [Hxl.out, show outE (some X) = 0 from rfl])
      | (have q := Hs2.out; clear Hs2; go_at_call 16; refine (su_seal1 (g := g) (A := A) (n := n) (c := c) (B := B) (m := m) (d := d) (ad := ad) (b := b) h k (by omega) (by omega) (by rw [Hm1.out]; decide)).mono ?_; rw [q]; clear q h; rintro e w ⟨Y1, cy, rfl, k2, h⟩; rw [Hxl.out] at h; rw [Hxl.out, show outE (some X) = 0 from rfl])
      | (have q := Hk1.out; clear Hk1; go_at_call 17; refine (su_open1 (g := g) (A := A) (n := n) (c := c) (B := X1) (m := xl.length) (d := cx) (ad := ad) (ct := xl) h k (by omega) (by omega) Hm1.out).mono ?_; rw [q]; clear q h; rintro e w ⟨O1, co, rfl, h⟩; rw [Hbv.out] at h; rw [Hbv.out, show openE (some (mkNm b)) = 0 from rfl])
      | (have q := Hv1.out; clear Hv1; go_at_call 17; refine (su_open1 (g := g) (A := A) (n := n) (c := c) (B := X1) (m := xl.length) (d := cx) (ad := ad) (ct := xl) h other (by omega) (by omega) Hm1.out).mono ?_; rw [q]; clear q h; rintro e w ⟨O2, co2, rfl, h⟩)
      | (have q := Hv2.out; clear Hv2; go_at_call 17; refine (su_open1 (g := g) (A := A) (n := n) (c := c) (B := C) (m := p) (d := q1) (ad := ad) (ct := ct) h k (by omega) (by omega) Hm1.out).mono ?_; rw [q]; clear q h; rintro e w ⟨O3, co3, rfl, h⟩)
      | (refine wl_reads rfl (ex_string _ _ _ rfl Try.underlying5 Try.underlying9 X1 xl.length cx rfl (h.sl X1 xl.length cx)) ?_)
      | (refine wl_reads rfl (ex_string _ _ _ rfl Try.underlying5 Try.underlying9 Y1 xl.length cy rfl (h.sl Y1 xl.length cy)) ?_)
      | (refine wl_reads rfl (ex_string _ _ _ rfl Try.underlying5 Try.underlying9 O1 b.length co rfl (h.sl O1 b.length co)) ?_)
      | (refine wl_reads rfl (ex_string _ _ _ rfl Try.underlying5 Try.underlying9 B m d rfl (h.sl B m d)) ?_)
      | (refine wl_reads rfl (ex_string _ _ _ rfl Try.underlying5 Try.underlying9 C p q1 rfl (h.sl C p q1)) ?_)
      | (refine wl_reads rfl (ex_eq _ _ _ _ rfl other.1 k.1 rfl rfl other.2 k.2 B1 hek) ?_)
      | (refine wl_reads rfl (ex_loadv h _ _ rfl _ _ rfl) ?_))
    go_ret
    exact ⟨rfl, h.step.below⟩
  · go_enter Try.func6, Try.ntmps6
    have hsm2 : 100 < (n : Int) ∨ (¬ 100 < (n : Int) ∧ 300 < (m : Int)) ∨ (¬ 100 < (n : Int) ∧ ¬ 300 < (m : Int) ∧ 600 < (p : Int)) := by omega
    clear hsm
    rcases hsm2 with f1 | ⟨f1, f2⟩ | ⟨f1, f2, f3⟩
    all_goals
      go_wp2_with (first
        | (refine wl_runs rfl (ex_box h 29 _ rfl (u8s k.1) rfl) ?_; clear h; rintro _ w ⟨g7, rfl, h⟩)
        | (refine wl_runs rfl (ex_box h 29 _ rfl (u8s other.1) rfl) ?_; clear h; rintro _ w ⟨g10, rfl, h⟩)
        | (go_at_call 10; refine (su_awake h).mono ?_; clear h; rintro e w ⟨rfl, h⟩))
      go_ret
      exact ⟨rfl, h.step.below⟩
end Go.Proofs.Ytcmgjoamfjijhaa
