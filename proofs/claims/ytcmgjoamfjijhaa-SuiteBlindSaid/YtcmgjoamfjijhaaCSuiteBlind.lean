/- Ideal suites with the same draws seal texts of the same length as the same. -/
import Derived.Test.YtcmgjoamfjijhaaCSuSeal1
import Derived.Test.YtcmgjoamfjijhaaCAwake07
import Derived.Test.YtcmgjoamfjijhaaCByteRows
namespace Go.Proofs.Ytcmgjoamfjijhaa
open Go.RowKit Go.Maps
set_option linter.unusedVariables false
set_option linter.unusedSimpArgs false

theorem xor8_self (x b : UInt8) : xor8 (xor8 x b) b = x := by
  unfold xor8
  rw [UInt8.xor_assoc, UInt8.xor_self, UInt8.xor_zero]
theorem xorB_self (b : UInt8) (l : List UInt8) : xorB b (xorB b l) = l := by
  unfold xorB
  rw [List.map_map]
  conv => rhs; rw [← List.map_id l]
  apply List.map_congr_left
  intro x _
  exact xor8_self x b
def xorNm (b : UInt8) (x : Nm) : Nm := ⟨xorB b x.1, by rw [xorB_length]; exact x.2⟩
def xorAsk (b : UInt8) (q : Ask) : Ask := (q.1, q.2.1, q.2.2.1, xorNm b q.2.2.2)
theorem xorNm_inj {b : UInt8} {x y : Nm} (h : xorNm b x = xorNm b y) : x = y := by
  have := congrArg (fun z : Nm => xorB b z.1) h
  simp only [xorNm, xorB_self] at this
  exact Subtype.ext this
theorem xorAsk_inj {b : UInt8} {x y : Ask} : xorAsk b x = xorAsk b y ↔ x = y := by
  constructor
  · intro h
    obtain ⟨x1, x2, x3, x4⟩ := x
    obtain ⟨y1, y2, y3, y4⟩ := y
    simp only [xorAsk, Prod.mk.injEq] at h
    obtain ⟨rfl, rfl, rfl, h⟩ := h
    rw [xorNm_inj h]
  · rintro rfl; rfl
/-- The one suite was asked what the other was, but for the mixed byte. -/
def Blind (by_ : UInt8) (a b : Su) : Prop := a.mode ≠ 0 ∧ b.mode ≠ 0 ∧ a.tape = b.tape ∧ ∀ q, mget b.ans (xorAsk by_ q) = mget a.ans q
theorem Blind.new (by_ : UInt8) (T : List UInt8) : Blind by_ (newSu 1 T) (newSu 1 T) := ⟨by simp, by simp, rfl, fun q => by rw [mget_nil, mget_nil]⟩
theorem Blind.seal {by_ : UInt8} {a b : Su} (h : Blind by_ a b) (k : Id) (ad p : List UInt8) (hp : p.length ≤ 1000) :
    (seal1M k ad (xorB by_ p) b).1 = (seal1M k ad p a).1 ∧ Blind by_ (seal1M k ad p a).2 (seal1M k ad (xorB by_ p) b).2 := by
  obtain ⟨h0, h1, h2, h3⟩ := h
  have hq : askS k ad (xorB by_ p) = xorAsk by_ (askS k ad p) := by
    have e1 := mkNm_val (b := p) (by simp [maxLen]; omega)
    have e2 := mkNm_val (b := xorB by_ p) (by rw [xorB_length]; simp [maxLen]; omega)
    unfold askS xorAsk
    simp only [Prod.mk.injEq, true_and]
    apply Subtype.ext
    show (mkNm (xorB by_ p)).1 = xorB by_ (mkNm p).1
    rw [e1, e2]
  unfold seal1M
  rw [hq, xorB_length]
  generalize askS k ad p = q
  generalize 44 + bkt (p.length : Int) = n
  unfold idealM
  rw [h3 q, ← h2]
  cases hg : mget a.ans q with
  | some o => exact ⟨rfl, h0, h1, h2, h3⟩
  | none =>
    simp only
    by_cases hl : n ≤ a.tape.length
    · rw [if_pos hl, if_pos hl]
      refine ⟨rfl, h0, h1, rfl, fun q' => ?_⟩
      show mget (mset b.ans (xorAsk by_ q) _) (xorAsk by_ q') = mget (mset a.ans q _) q'
      rw [mget_set, mget_set, h3 q']
      by_cases he : q' = q
      · rw [if_pos he, if_pos (by rw [he])]
      · rw [if_neg he, if_neg (fun e => he (xorAsk_inj.1 e))]
    · rw [if_neg hl, if_neg hl]
      exact ⟨rfl, h0, h1, h2, h3⟩
abbrev BL (ga gb g6 : Nat) (ka kb : SuAt) (sa sb : Su) (k : Id) (A B : Option Addr) (n c m d : Nat) (ad : List UInt8) (ps : List RowAt) : List Ent :=
  [eSu ga ka sa, eSu gb kb sb, eBlk g6 29 (u8s k.1), eSl A n c 1 (u8s ad), eRows B m d ps]
set_option maxRecDepth 100000 in
set_option maxHeartbeats 4000000 in
theorem walk_SuiteBlind {w0 : World} {k : Id} {by_ : UInt8} {D A B : Option Addr} {nd cd n c m d : Nat} {T ad : List UInt8} {ps : List RowAt} (hd : Sl w0 D nd cd 1 (u8s T)) (ha : Sl w0 A n c 1 (u8s ad)) (hl : Sl w0 B m d 1 (ps.flatMap rowc) ∧ RowsIs w0 ps) :
    Calls Try.prog 4 #[.slice D nd cd, .agg (u8s k.1).toArray, .slice A n c, .slice B m d, .int .u8 (by_.toNat : Int)] w0 fun e w' => e = .returned (.bool true) ∧ Below w0.heap.size w0 w' := by
  have h := ((St.rows0 hl.1 hl.2).reading ha (by omega) (fun k hk2 => ⟨ha.ft_lt (by omega) hk2, id⟩)).reading hd (by omega) (fun k hk2 => ⟨hd.ft_lt (by omega) hk2, id⟩)
  have hmp := hl.1.n_rows
  have hrk := Row.u32 k
  have Hmp := Lib.hid hmp
  clear hd ha hl hmp
  have hsm2 : (3000 < (nd : Int)) ∨ (¬ 3000 < (nd : Int) ∧ 100 < (n : Int)) ∨ (¬ 3000 < (nd : Int) ∧ ¬ 100 < (n : Int) ∧ 10 < (m : Int)) ∨ (nd ≤ 3000 ∧ n ≤ 100 ∧ m ≤ 10) := by omega
  rcases hsm2 with f1 | ⟨f1, f2⟩ | ⟨f1, f2, f3⟩ | ⟨h1, h2, h3⟩
  iterate 3
    · go_enter Try.func4, Try.ntmps4
      go_wp2_with (first
        | (refine wl_runs rfl (ex_box h 29 _ rfl (u8s k.1) rfl) ?_; clear h; rintro _ w ⟨g7, rfl, h⟩)
        | (go_at_call 10; refine (su_awake h).mono ?_; clear h; rintro e w ⟨rfl, h⟩))
      go_ret
      exact ⟨rfl, h.step.below⟩
  have d1 : decide ((3000 : Int) < (nd : Int)) = false := by simp; omega
  have d2 : decide ((100 : Int) < (n : Int)) = false := by simp; omega
  have d3 : decide ((10 : Int) < (m : Int)) = false := by simp; omega
  have t1 := True.intro
  have t2 := True.intro
  go_enter Try.func4, Try.ntmps4
  go_wp2_with (first
    | (refine wl_runs rfl (ex_box h 29 _ rfl (u8s k.1) rfl) ?_; clear h; rintro _ w ⟨g6, rfl, h⟩)
    | (go_at_call 10; refine (su_awake h).mono ?_; clear h; rintro e w ⟨rfl, h⟩)
    | (clear t1; go_at_call 15; refine (tape_new (A := D) (n := nd) (c := cd) (b := T) h (by omega)).mono ?_; clear h; rintro e w ⟨gt, A1, c1, rfl, h⟩)
    | (clear t2; go_at_call 11; refine (su_new1 (tp := some gt) h).mono ?_; clear h; rintro e w ⟨ga, ka, rfl, h⟩)
    | (go_at_call 15; refine (tape_new (A := D) (n := nd) (c := cd) (b := T) h (by omega)).mono ?_; clear h; rintro e w ⟨gt2, A2, c2, rfl, h⟩)
    | (go_at_call 11; refine (su_new1 (tp := some gt2) h).mono ?_; clear h; rintro e w ⟨gb, kb, rfl, h⟩))
  go_loopw [44] (fun x wr => ∃ (j : Nat) (sa sb : Su) (ka kb : SuAt), x = .int .i64 (j : Int) ∧ j ≤ m ∧ Hid (Blind by_ sa sb) ∧ St (fun _ => False) w0 wr (BL ga gb g6 ka kb sa sb k A B n c m d ad ps)) (fun x _ => m - (intOf x).toNat)
  case atStart => exact ⟨0, newSu 1 T, newSu 1 T, ka, kb, rfl, by omega, Lib.hid (Blind.new by_ T), h.to⟩
  case round =>
    clear h
    obtain ⟨j, sa, sb, ka, kb, rfl, hj, Hb, h⟩ := hrel
    by_cases hlt : j < m
    · have f1 : (j : Int) < (m : Int) := by omega
      have hjp : j < ps.length := by have := Hmp.out; omega
      obtain ⟨b, off, rfl, hcel⟩ := (h.rowsAt B m d).1.elem (f := rowc) rowc_length hjp (by omega)
      have hc1 : wr.cell? ⟨b, off + j, none⟩ = some (.slice (ps[j]).A (ps[j]).n (ps[j]).c) := by
        have := hcel 0 _ rfl
        rwa [Nat.mul_one, Nat.add_zero] at this
      have hmem := List.getElem_mem hjp
      generalize ps[j] = p at *
      obtain ⟨Bp, mp, dp, bl⟩ := p
      replace h := h.oneRow (some ⟨b, off, none⟩) m d hmem
      dsimp only at h hc1
      have hbl := (h.sl Bp mp dp).n_eq
      clear hcel hmem
      by_cases hm3 : mp ≤ 300
      · have f2 : decide ((300 : Int) < (mp : Int)) = false := by simp; omega
        have hbd := (Hb.out).seal k ad bl (by omega)
        obtain ⟨o, sa2, hs1⟩ : ∃ o sa2, seal1M k ad bl sa = (o, sa2) := ⟨_, _, rfl⟩
        obtain ⟨o2, sb2, hs2⟩ : ∃ o sb2, seal1M k ad (xorB by_ bl) sb = (o, sb2) := ⟨_, _, rfl⟩
        rw [hs1, hs2] at hbd
        obtain ⟨rfl, hbd2⟩ := hbd
        have Hs1 := Lib.hid hs1
        have Hs2 := Lib.hid hs2
        have Hbd := Lib.hid hbd2
        have Hbl := Lib.hid hbl
        have Hma := Lib.hid (Hb.out).1
        have Hmb := Lib.hid (Hb.out).2.1
        clear hs1 hs2 hbd2 hbl
        go_wp2_with (first
          | (refine wl_reads rfl (ex_load1_at _ _ rfl b (off + j) rfl _ hc1) ?_)
          | (refine wl_runs rfl (ex_append_nil h _ _ _ rfl rfl Bp mp dp rfl (h.sl Bp mp dp) (u8s_one _) (by simp [maxLen]; omega) (by omega)) ?_; clear h; rintro _ w ⟨Aq, cq, rfl, h⟩))
        go_loopw [55] (fun x wr2 => ∃ i : Nat, x = .int .i64 (i : Int) ∧ i ≤ mp ∧ St (fun _ => False) w0 wr2 (eOwn 5 1 Aq mp cq (u8s (mixM by_ bl i)) :: eSl Bp mp dp 1 (u8s bl) :: BL ga gb g6 ka kb sa sb k A (some ⟨b, off, none⟩) n c m d ad ps)) (fun x _ => mp - (intOf x).toNat)
        case atStart => exact ⟨0, rfl, by omega, by rw [mixM_zero]; exact h⟩
        case round =>
          clear h
          obtain ⟨i, rfl, hi, h⟩ := hrel
          by_cases hii : i < mp
          · have hil : i < bl.length := by rw [← Hbl.out]; exact hii
            have hget := mixM_get by_ bl hil
            have hset := mixM_set by_ bl hil
            obtain ⟨bq, oq, rfl, _⟩ := (h.sl Aq mp cq).pos (by omega)
            have hcc := (h.sl (some ⟨bq, oq, none⟩) mp cq).cellAt (i := i) (v := u8v bl[i]) (by rw [u8s, List.getElem?_map, hget]; rfl)
            have hx := b_xor bl[i] by_
            have hcc2 : wr.cell? ⟨bq, oq + i, none⟩ = some (.int .u8 ((bl[i]).toNat : Int)) := hcc
            clear hcc
            generalize bl[i] = x at *
            have Hset := Lib.hid hset
            have f3 : (i : Int) < (mp : Int) := by omega
            clear hset hget
            go_wp2_with (first
              | (refine wl_reads rfl (ex_load1_at _ _ rfl bq (oq + i) rfl _ hcc2) ?_)
              | (refine wl_runs rfl (ex_store_row h _ _ _ rfl bq oq i rfl (.int .u8 ((xor8 x by_).toNat : Int)) rfl hii) ?_; clear h; rintro _ w ⟨rfl, h⟩; try dsimp only [Act.put]))
            rw [u8s_setl, Hset.out] at h
            exact ⟨⟨i + 1, by go_num, by omega, h⟩, by simp only [intOf]; omega⟩
          · have hi2 : i = mp := by omega
            subst hi2
            rw [mixM_all by_ bl (by rw [← Hbl.out]; exact Nat.le_refl _)] at h
            have f3 : ¬ (i : Int) < (i : Int) := by omega
            have hxx : ((str (outB o2)).toList == (str (outB o2)).toList) = true := by simp
            have hee : ((outE o2 : Int) == (outE o2 : Int)) = true := by simp
            go_wp2_with (first
              | (have q := Hs1.out; clear Hs1; go_at_call 16; refine (su_seal1 (g := ga) (A := A) (n := n) (c := c) (B := Bp) (m := i) (d := dp) (ad := ad) (b := bl) h k (by omega) (by omega) Hma.out).mono ?_; rw [q]; clear q h; rintro e w ⟨X1, cx, rfl, k1, h⟩)
              | (have q := Hs2.out; clear Hs2; go_at_call 16; refine (su_seal1 (g := gb) (A := A) (n := n) (c := c) (B := Aq) (m := i) (d := cq) (ad := ad) (b := xorB by_ bl) h k (by omega) (by omega) Hmb.out).mono ?_; rw [q]; clear q h; rintro e w ⟨Y1, cy, rfl, k2, h⟩)
              | (refine wl_reads rfl (ex_string _ _ _ rfl Try.underlying5 Try.underlying9 X1 (outB o2).length cx rfl (h.sl X1 (outB o2).length cx)) ?_)
              | (refine wl_reads rfl (ex_string _ _ _ rfl Try.underlying5 Try.underlying9 Y1 (outB o2).length cy rfl (h.sl Y1 (outB o2).length cy)) ?_)
              | (refine wl_reads rfl (ex_loadv h _ _ rfl _ _ rfl) ?_))
            exact ⟨⟨j + 1, sa2, sb2, k1, k2, by go_num, by omega, Hbd, h.to⟩, by simp only [intOf]; omega⟩
      · have f2 : decide ((300 : Int) < (mp : Int)) = true := by simp; omega
        go_wp2_with (first
          | (refine wl_reads rfl (ex_load1_at _ _ rfl b (off + j) rfl _ hc1) ?_))
        go_ret
        exact ⟨rfl, h.step.below⟩
    · have f1 : ¬ (j : Int) < (m : Int) := by omega
      go_wp2
      go_ret
      exact ⟨rfl, h.step.below⟩
end Go.Proofs.Ytcmgjoamfjijhaa
