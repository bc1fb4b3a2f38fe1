/- A suite as a part; New, ok, Size, Draw. -/
import Derived.Test.YtcmgjoamfjijhaaCB3
namespace Go.Proofs.Ytcmgjoamfjijhaa
open Go.RowKit Go.Maps
set_option linter.unusedVariables false
set_option linter.unusedSimpArgs false

/-- A text cut to what may be a key. -/
def mkNm (b : List UInt8) : Nm := ⟨b.take maxLen, by rw [List.length_take]; omega⟩
theorem mkNm_val {b : List UInt8} (h : b.length ≤ maxLen) : (mkNm b).1 = b := List.take_of_length_le h
/-- A suite that somebody made. -/
structure Su where
  mode : Nat
  tape : List UInt8
  ans : List (Ask × Nm)
  plains : List (Giv × Nm)
  texts : List (Id × Nm)
  dbl : List (Id × Bool)
abbrev newSu (mode : Nat) (tape : List UInt8) : Su := ⟨mode, tape, [], [], [], []⟩
/-- Where it lies. -/
structure SuAt where
  tp : Option Nat
  A : Option Addr
  n : Nat
  c : Nat
  m1 : Nat
  m2 : Nat
  m3 : Nat
  m4 : Nat
  a1 : Option Addr
  n1 : Nat
  c1 : Nat
  a2 : Option Addr
  n2 : Nat
  c2 : Nat
  cd : Bool
def boolv (b : Bool) : Value := .bool b
abbrev suc (k : SuAt) (mode : Nat) : List Value := c_suite_Suite (.int .i64 (mode : Int)) (tpv k.tp) (.map (some k.m1)) (.map (some k.m2)) (.map (some k.m3)) (.map (some k.m4)) [.slice k.a1 k.n1 k.c1, .slice k.a2 k.n2 k.c2] (.bool k.cd) (.bool true)
instance (tp : Option Nat) : OneV (tpv tp) := ⟨rfl, rfl⟩
abbrev SU (g : Nat) (k : SuAt) (s : Su) (L : List Ent) : List Ent :=
  eBlk g 75 (suc k s.mode) :: eMap k.m1 askv nmv s.ans :: eMap k.m2 givv nmv s.plains :: eMap k.m3 idv nmv s.texts :: eMap k.m4 idv boolv s.dbl :: eTp k.tp k.A k.n k.c s.tape :: L
def eSu (g : Nat) (k : SuAt) (s : Su) : Ent :=
  eStar (eStar (eStar (eStar (eStar (eBlk g 75 (suc k s.mode)) (eMap k.m1 askv nmv s.ans)) (eMap k.m2 givv nmv s.plains)) (eMap k.m3 idv nmv s.texts)) (eMap k.m4 idv boolv s.dbl)) (eTp k.tp k.A k.n k.c s.tape)
class SlotU (L : List Ent) (g : Nat) (k : outParam SuAt) (s : outParam Su) (F : outParam (List Ent)) : Prop where
  perm : L.Perm (eSu g k s :: F)
instance (priority := high) SlotU.hit (g : Nat) (k : SuAt) (s : Su) (L : List Ent) : SlotU (eSu g k s :: L) g k s L := ⟨.refl _⟩
instance SlotU.miss (x : Ent) (g : Nat) (k : SuAt) (s : Su) (L F : List Ent) [h : SlotU L g k s F] : SlotU (x :: L) g k s (x :: F) := ⟨(h.perm.cons x).trans (.swap _ _ _)⟩
section
variable {S : Nat → Prop} {w0 w : World} {L F : List Ent}
theorem St.suOpen (h : St S w0 w L) (g : Nat) {k : SuAt} {s : Su} [sl : SlotU L g k s F] : St S w0 w (SU g k s F) :=
  (h.perm sl.perm).unstar.unstar.unstar.unstar.unstar
theorem St.suShut {g : Nat} {k : SuAt} {s : Su} (h : St S w0 w (SU g k s F)) : St S w0 w (eSu g k s :: F) :=
  h.star.star.star.star.star
end

set_option maxRecDepth 100000 in
set_option maxHeartbeats 1000000 in
theorem su_new0 {S : Nat → Prop} {w0 w : World} {L F : List Ent} {tp : Option Nat} {A : Option Addr} {n c : Nat} {b : List UInt8} (h : St S w0 w L) [k : SlotTp L tp A n c b F] :
    Calls Try.prog 11 #[.int .i64 0, tpv tp] w fun e w' => ∃ g k, e = .returned (.pointer (some ⟨g, 0, none⟩)) ∧ St S w0 w' (eSu g k (newSu 0 b) :: F) := by
  replace h := h.perm k.perm
  have tr1 := True.intro
  have tr2 := True.intro
  have tr3 := True.intro
  go_enter Try.func11, Try.ntmps11
  go_wp2_with (first
    | (clear tr1; refine wl_runs rfl (ex_mmake h 69 rfl askv nmv) ?_; clear h; rintro _ w ⟨m1, rfl, h⟩)
    | (clear tr2; refine wl_runs rfl (ex_mmake h 70 rfl givv nmv) ?_; clear h; rintro _ w ⟨m2, rfl, h⟩)
    | (clear tr3; refine wl_runs rfl (ex_mmake h 71 rfl idv nmv) ?_; clear h; rintro _ w ⟨m3, rfl, h⟩)
    | (refine wl_runs rfl (ex_mmake h 72 rfl idv boolv) ?_; clear h; rintro _ w ⟨m4, rfl, h⟩)
    | (refine wl_reads rfl (ex_lit _ _ rfl [(0, .int .i64 0), (1, tpv tp), (2, .map (some m1)), (3, .map (some m2)), (4, .map (some m3)), (5, .map (some m4)), (8, .bool true)] rfl) ?_)
    | (refine wl_runs rfl (ex_box h 75 _ rfl _ rfl) ?_; clear h; rintro _ w ⟨g, rfl, h⟩))
  go_ret
  have h2 : St S w0 w (SU g ⟨tp, A, n, c, m1, m2, m3, m4, none, 0, 0, none, 0, 0, false⟩ (newSu 0 b) F) := St.to (L := eBlk g 75 (suc ⟨tp, A, n, c, m1, m2, m3, m4, none, 0, 0, none, 0, 0, false⟩ 0) :: _) h
  exact ⟨g, _, rfl, h2.suShut⟩
set_option maxRecDepth 100000 in
set_option maxHeartbeats 1000000 in
theorem su_new1 {S : Nat → Prop} {w0 w : World} {L F : List Ent} {tp : Option Nat} {A : Option Addr} {n c : Nat} {b : List UInt8} (h : St S w0 w L) [k : SlotTp L tp A n c b F] :
    Calls Try.prog 11 #[.int .i64 1, tpv tp] w fun e w' => ∃ g k, e = .returned (.pointer (some ⟨g, 0, none⟩)) ∧ St S w0 w' (eSu g k (newSu 1 b) :: F) := by
  replace h := h.perm k.perm
  have tr1 := True.intro
  have tr2 := True.intro
  have tr3 := True.intro
  go_enter Try.func11, Try.ntmps11
  go_wp2_with (first
    | (clear tr1; refine wl_runs rfl (ex_mmake h 69 rfl askv nmv) ?_; clear h; rintro _ w ⟨m1, rfl, h⟩)
    | (clear tr2; refine wl_runs rfl (ex_mmake h 70 rfl givv nmv) ?_; clear h; rintro _ w ⟨m2, rfl, h⟩)
    | (clear tr3; refine wl_runs rfl (ex_mmake h 71 rfl idv nmv) ?_; clear h; rintro _ w ⟨m3, rfl, h⟩)
    | (refine wl_runs rfl (ex_mmake h 72 rfl idv boolv) ?_; clear h; rintro _ w ⟨m4, rfl, h⟩)
    | (refine wl_reads rfl (ex_lit _ _ rfl [(0, .int .i64 1), (1, tpv tp), (2, .map (some m1)), (3, .map (some m2)), (4, .map (some m3)), (5, .map (some m4)), (8, .bool true)] rfl) ?_)
    | (refine wl_runs rfl (ex_box h 75 _ rfl _ rfl) ?_; clear h; rintro _ w ⟨g, rfl, h⟩))
  go_ret
  have h2 : St S w0 w (SU g ⟨tp, A, n, c, m1, m2, m3, m4, none, 0, 0, none, 0, 0, false⟩ (newSu 1 b) F) := St.to (L := eBlk g 75 (suc ⟨tp, A, n, c, m1, m2, m3, m4, none, 0, 0, none, 0, 0, false⟩ 1) :: _) h
  exact ⟨g, _, rfl, h2.suShut⟩
theorem su_ok {S : Nat → Prop} {w0 w : World} {L F : List Ent} {g : Nat} {k : SuAt} {s : Su} (h : St S w0 w L) [sl : SlotU L g k s F] :
    Calls Try.prog 33 #[.pointer (some ⟨g, 0, none⟩)] w fun e w' => e = .returned (.bool true) ∧ w' = w := by
  replace h := h.suOpen g
  go_enter Try.func33, Try.ntmps33
  go_wp2_with (first | (refine wl_reads rfl (ex_loadv h _ _ rfl _ _ rfl) ?_) | (refine wl_runs rfl (ex_store1i h _ _ _ rfl _ _ rfl _ _ rfl) ?_; clear h; rintro _ w ⟨rfl, h⟩; try dsimp only [Act.put]) | (refine wl_runs rfl (ex_store1s h _ _ _ rfl _ _ rfl _ _ _ rfl) ?_; clear h; rintro _ w ⟨rfl, h⟩; try dsimp only [Act.put]) | (refine wl_runs rfl (ex_store1b h _ _ _ rfl _ _ rfl _ rfl) ?_; clear h; rintro _ w ⟨rfl, h⟩; try dsimp only [Act.put]) | (refine wl_runs rfl (ex_store1t h _ _ _ rfl _ _ rfl _ rfl) ?_; clear h; rintro _ w ⟨rfl, h⟩; try dsimp only [Act.put]) | (refine wl_runs rfl (ex_store1p h _ _ _ rfl _ _ rfl _ rfl) ?_; clear h; rintro _ w ⟨rfl, h⟩; try dsimp only [Act.put]) | (refine wl_runs rfl (ex_store1m h _ _ _ rfl _ _ rfl _ rfl) ?_; clear h; rintro _ w ⟨rfl, h⟩; try dsimp only [Act.put]) | (refine wl_runs rfl (ex_store h _ _ _ rfl _ _ rfl _ rfl) ?_; clear h; rintro _ w ⟨rfl, h⟩; try dsimp only [Act.put]) | (refine wl_runs rfl (ex_alloc h _ rfl) ?_; clear h; rintro _ w ⟨g, rfl, h⟩) | (refine wl_runs rfl (ex_box h _ _ rfl _ rfl) ?_; clear h; rintro _ w ⟨g, rfl, h⟩) | (refine wl_runs rfl (ex_box1i h _ _ rfl _ _ rfl) ?_; clear h; rintro _ w ⟨g, rfl, h⟩) | (refine wl_runs rfl (ex_box1s h _ _ rfl _ _ _ rfl) ?_; clear h; rintro _ w ⟨g, rfl, h⟩) | (refine wl_runs rfl (ex_box1b h _ _ rfl _ rfl) ?_; clear h; rintro _ w ⟨g, rfl, h⟩) | (refine wl_runs rfl (ex_box1t h _ _ rfl _ rfl) ?_; clear h; rintro _ w ⟨g, rfl, h⟩) | (refine wl_runs rfl (ex_box1p h _ _ rfl _ rfl) ?_; clear h; rintro _ w ⟨g, rfl, h⟩) | (refine wl_runs rfl (ex_box1m h _ _ rfl _ rfl) ?_; clear h; rintro _ w ⟨g, rfl, h⟩) | (refine wl_runs rfl (ex_slice1 h _ _ rfl _ rfl) ?_; clear h; rintro _ w ⟨g, rfl, h⟩) | (refine wl_runs rfl (ex_slice1i h _ _ rfl _ _ rfl) ?_; clear h; rintro _ w ⟨g, rfl, h⟩) | (refine wl_runs rfl (ex_slice1s h _ _ rfl _ _ _ rfl) ?_; clear h; rintro _ w ⟨g, rfl, h⟩) | (refine wl_runs rfl (ex_slice1b h _ _ rfl _ rfl) ?_; clear h; rintro _ w ⟨g, rfl, h⟩) | (refine wl_runs rfl (ex_slice1t h _ _ rfl _ rfl) ?_; clear h; rintro _ w ⟨g, rfl, h⟩) | (refine wl_runs rfl (ex_slice1p h _ _ rfl _ rfl) ?_; clear h; rintro _ w ⟨g, rfl, h⟩) | (refine wl_runs rfl (ex_slice1m h _ _ rfl _ rfl) ?_; clear h; rintro _ w ⟨g, rfl, h⟩) | (refine wl_reads rfl (ex_lit0 _ rfl) ?_))
  go_ret
  exact ⟨rfl, rfl⟩
theorem su_ok_nil {w : World} :
    Calls Try.prog 33 #[.pointer none] w fun e w' => e = .returned (.bool false) ∧ w' = w := by
  go_enter Try.func33, Try.ntmps33
  go_wp2
  go_ret
  exact ⟨rfl, rfl⟩
def sizeM (n : Int) : Nat := if bkt n = 0 then 0 else 44 + bkt n
theorem su_size {S : Nat → Prop} {w0 w : World} {L F : List Ent} {g : Nat} {k : SuAt} {s : Su} (h : St S w0 w L) [sl : SlotU L g k s F] (n : Int) (hn : (Lit.int .i64 n).wf = true) :
    Calls Try.prog 12 #[.pointer (some ⟨g, 0, none⟩), .int .i64 n] w fun e w' => e = .returned (.int .i64 (sizeM n : Int)) ∧ St S w0 w' (eSu g k s :: F) := by
  replace h := h.perm sl.perm
  have hl := bkt_le n
  have hb := @bucket_code
  by_cases h0 : bkt n = 0
  · have hs : sizeM n = 0 := if_pos h0
    rw [hs]
    go_enter Try.func12, Try.ntmps12
    go_wp2_with (first
      | (go_at_call 32; refine (bucket_code h n hn).mono ?_; rw [h0]; clear h; rintro e w ⟨rfl, h⟩)
      | (go_at_call 33; refine (su_ok (g := g) h).mono ?_; rintro e w ⟨rfl, rfl⟩))
    go_ret
    exact ⟨rfl, h⟩
  · have hs : sizeM n = 44 + bkt n := if_neg h0
    rw [hs]
    have hz : ((bkt n : Int) == 0) = false := by simp; omega
    go_enter Try.func12, Try.ntmps12
    go_wp2_with (first
      | (go_at_call 32; refine (bucket_code h n hn).mono ?_; clear h; rintro e w ⟨rfl, h⟩)
      | (go_at_call 33; refine (su_ok (g := g) h).mono ?_; rintro e w ⟨rfl, rfl⟩))
    go_ret
    exact ⟨rfl, h⟩
theorem su_size_nil {S : Nat → Prop} {w0 w : World} {L : List Ent} (h : St S w0 w L) (n : Int) (hn : (Lit.int .i64 n).wf = true) :
    Calls Try.prog 12 #[.pointer none, .int .i64 n] w fun e w' => e = .returned (.int .i64 0) ∧ St S w0 w' L := by
  go_enter Try.func12, Try.ntmps12
  go_wp2_with (first
    | (go_at_call 32; refine (bucket_code h n hn).mono ?_; clear h; rintro e w ⟨rfl, h⟩)
    | (go_at_call 33; refine (su_ok_nil).mono ?_; rintro e w ⟨rfl, rfl⟩))
  go_ret
  exact ⟨rfl, h⟩
theorem su_draw {S : Nat → Prop} {w0 w : World} {L F : List Ent} {g : Nat} {k : SuAt} {s : Su} (h : St S w0 w L) [sl : SlotU L g k s F] :
    Calls Try.prog 22 #[.pointer (some ⟨g, 0, none⟩)] w fun e w' => e = .returned (.tuple #[.agg (u8s (keyT s.tape)).toArray, .int .i64 (takeE 32 s.tape : Int)]) ∧ ∃ k', St S w0 w' (eSu g k' { s with tape := (takeM 32 s.tape).2 } :: F) := by
  replace h := h.perm sl.perm
  have hk := keyT_length s.tape
  have hr : Row (u8s (keyT s.tape)) 32 := Row.mk' (by rw [u8s_length, hk]) (u8s_one _) (by omega)
  go_enter Try.func22, Try.ntmps22
  go_wp2_with (first
    | (refine wl_runs rfl (ex_alloc h 29 rfl) ?_; clear h; rintro _ w ⟨gr, rfl, h⟩)
    | (go_at_call 33; refine (su_ok (g := g) h).mono ?_; rintro e w ⟨rfl, rfl⟩; replace h := h.suOpen g)
    | (go_at_call 47; refine (tape_key (tp := k.tp) h).mono ?_; clear h; rintro e w ⟨rfl, A2, n2, c2, h⟩)
    | (refine wl_reads rfl (ex_loadv h _ _ rfl _ _ rfl) ?_) | (refine wl_runs rfl (ex_store1i h _ _ _ rfl _ _ rfl _ _ rfl) ?_; clear h; rintro _ w ⟨rfl, h⟩; try dsimp only [Act.put]) | (refine wl_runs rfl (ex_store1s h _ _ _ rfl _ _ rfl _ _ _ rfl) ?_; clear h; rintro _ w ⟨rfl, h⟩; try dsimp only [Act.put]) | (refine wl_runs rfl (ex_store1b h _ _ _ rfl _ _ rfl _ rfl) ?_; clear h; rintro _ w ⟨rfl, h⟩; try dsimp only [Act.put]) | (refine wl_runs rfl (ex_store1t h _ _ _ rfl _ _ rfl _ rfl) ?_; clear h; rintro _ w ⟨rfl, h⟩; try dsimp only [Act.put]) | (refine wl_runs rfl (ex_store1p h _ _ _ rfl _ _ rfl _ rfl) ?_; clear h; rintro _ w ⟨rfl, h⟩; try dsimp only [Act.put]) | (refine wl_runs rfl (ex_store1m h _ _ _ rfl _ _ rfl _ rfl) ?_; clear h; rintro _ w ⟨rfl, h⟩; try dsimp only [Act.put]) | (refine wl_runs rfl (ex_store h _ _ _ rfl _ _ rfl _ rfl) ?_; clear h; rintro _ w ⟨rfl, h⟩; try dsimp only [Act.put]) | (refine wl_runs rfl (ex_alloc h _ rfl) ?_; clear h; rintro _ w ⟨g, rfl, h⟩) | (refine wl_runs rfl (ex_box h _ _ rfl _ rfl) ?_; clear h; rintro _ w ⟨g, rfl, h⟩) | (refine wl_runs rfl (ex_box1i h _ _ rfl _ _ rfl) ?_; clear h; rintro _ w ⟨g, rfl, h⟩) | (refine wl_runs rfl (ex_box1s h _ _ rfl _ _ _ rfl) ?_; clear h; rintro _ w ⟨g, rfl, h⟩) | (refine wl_runs rfl (ex_box1b h _ _ rfl _ rfl) ?_; clear h; rintro _ w ⟨g, rfl, h⟩) | (refine wl_runs rfl (ex_box1t h _ _ rfl _ rfl) ?_; clear h; rintro _ w ⟨g, rfl, h⟩) | (refine wl_runs rfl (ex_box1p h _ _ rfl _ rfl) ?_; clear h; rintro _ w ⟨g, rfl, h⟩) | (refine wl_runs rfl (ex_box1m h _ _ rfl _ rfl) ?_; clear h; rintro _ w ⟨g, rfl, h⟩) | (refine wl_runs rfl (ex_slice1 h _ _ rfl _ rfl) ?_; clear h; rintro _ w ⟨g, rfl, h⟩) | (refine wl_runs rfl (ex_slice1i h _ _ rfl _ _ rfl) ?_; clear h; rintro _ w ⟨g, rfl, h⟩) | (refine wl_runs rfl (ex_slice1s h _ _ rfl _ _ _ rfl) ?_; clear h; rintro _ w ⟨g, rfl, h⟩) | (refine wl_runs rfl (ex_slice1b h _ _ rfl _ rfl) ?_; clear h; rintro _ w ⟨g, rfl, h⟩) | (refine wl_runs rfl (ex_slice1t h _ _ rfl _ rfl) ?_; clear h; rintro _ w ⟨g, rfl, h⟩) | (refine wl_runs rfl (ex_slice1p h _ _ rfl _ rfl) ?_; clear h; rintro _ w ⟨g, rfl, h⟩) | (refine wl_runs rfl (ex_slice1m h _ _ rfl _ rfl) ?_; clear h; rintro _ w ⟨g, rfl, h⟩) | (refine wl_reads rfl (ex_lit0 _ rfl) ?_))
  refine bodyPost_ret (res_cell_tmp rfl rfl rfl (h.loadVar 29 gr 0)) rfl ?_
  have h2 : St S w0 w (SU g { k with A := A2, n := n2, c := c2 } { s with tape := (takeM 32 s.tape).2 } F) := h.to
  exact ⟨rfl, _, h2.suShut⟩
theorem su_draw_nil {S : Nat → Prop} {w0 w : World} {L : List Ent} (h : St S w0 w L) :
    Calls Try.prog 22 #[.pointer none] w fun e w' => e = .returned (.tuple #[.agg (u8s (zeros 32)).toArray, .int .i64 1]) ∧ St S w0 w' L := by
  go_enter Try.func22, Try.ntmps22
  go_wp2_with (first
    | (refine wl_runs rfl (ex_alloc h 29 rfl) ?_; clear h; rintro _ w ⟨gr, rfl, h⟩)
    | (go_at_call 33; refine (su_ok_nil).mono ?_; rintro e w ⟨rfl, rfl⟩)
    | (refine wl_reads rfl (ex_loadv h _ _ rfl _ _ rfl) ?_) | (refine wl_runs rfl (ex_store1i h _ _ _ rfl _ _ rfl _ _ rfl) ?_; clear h; rintro _ w ⟨rfl, h⟩; try dsimp only [Act.put]) | (refine wl_runs rfl (ex_store1s h _ _ _ rfl _ _ rfl _ _ _ rfl) ?_; clear h; rintro _ w ⟨rfl, h⟩; try dsimp only [Act.put]) | (refine wl_runs rfl (ex_store1b h _ _ _ rfl _ _ rfl _ rfl) ?_; clear h; rintro _ w ⟨rfl, h⟩; try dsimp only [Act.put]) | (refine wl_runs rfl (ex_store1t h _ _ _ rfl _ _ rfl _ rfl) ?_; clear h; rintro _ w ⟨rfl, h⟩; try dsimp only [Act.put]) | (refine wl_runs rfl (ex_store1p h _ _ _ rfl _ _ rfl _ rfl) ?_; clear h; rintro _ w ⟨rfl, h⟩; try dsimp only [Act.put]) | (refine wl_runs rfl (ex_store1m h _ _ _ rfl _ _ rfl _ rfl) ?_; clear h; rintro _ w ⟨rfl, h⟩; try dsimp only [Act.put]) | (refine wl_runs rfl (ex_store h _ _ _ rfl _ _ rfl _ rfl) ?_; clear h; rintro _ w ⟨rfl, h⟩; try dsimp only [Act.put]) | (refine wl_runs rfl (ex_alloc h _ rfl) ?_; clear h; rintro _ w ⟨g, rfl, h⟩) | (refine wl_runs rfl (ex_box h _ _ rfl _ rfl) ?_; clear h; rintro _ w ⟨g, rfl, h⟩) | (refine wl_runs rfl (ex_box1i h _ _ rfl _ _ rfl) ?_; clear h; rintro _ w ⟨g, rfl, h⟩) | (refine wl_runs rfl (ex_box1s h _ _ rfl _ _ _ rfl) ?_; clear h; rintro _ w ⟨g, rfl, h⟩) | (refine wl_runs rfl (ex_box1b h _ _ rfl _ rfl) ?_; clear h; rintro _ w ⟨g, rfl, h⟩) | (refine wl_runs rfl (ex_box1t h _ _ rfl _ rfl) ?_; clear h; rintro _ w ⟨g, rfl, h⟩) | (refine wl_runs rfl (ex_box1p h _ _ rfl _ rfl) ?_; clear h; rintro _ w ⟨g, rfl, h⟩) | (refine wl_runs rfl (ex_box1m h _ _ rfl _ rfl) ?_; clear h; rintro _ w ⟨g, rfl, h⟩) | (refine wl_runs rfl (ex_slice1 h _ _ rfl _ rfl) ?_; clear h; rintro _ w ⟨g, rfl, h⟩) | (refine wl_runs rfl (ex_slice1i h _ _ rfl _ _ rfl) ?_; clear h; rintro _ w ⟨g, rfl, h⟩) | (refine wl_runs rfl (ex_slice1s h _ _ rfl _ _ _ rfl) ?_; clear h; rintro _ w ⟨g, rfl, h⟩) | (refine wl_runs rfl (ex_slice1b h _ _ rfl _ rfl) ?_; clear h; rintro _ w ⟨g, rfl, h⟩) | (refine wl_runs rfl (ex_slice1t h _ _ rfl _ rfl) ?_; clear h; rintro _ w ⟨g, rfl, h⟩) | (refine wl_runs rfl (ex_slice1p h _ _ rfl _ rfl) ?_; clear h; rintro _ w ⟨g, rfl, h⟩) | (refine wl_runs rfl (ex_slice1m h _ _ rfl _ rfl) ?_; clear h; rintro _ w ⟨g, rfl, h⟩) | (refine wl_reads rfl (ex_lit0 _ rfl) ?_))
  refine bodyPost_ret (res_cell_tmp rfl rfl rfl (h.loadVar 29 gr 0)) rfl ⟨rfl, h.to⟩
end Go.Proofs.Ytcmgjoamfjijhaa
