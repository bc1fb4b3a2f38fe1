/- A key's chain, cut to a length. -/
import Derived.Test.YtjmjdffnakojpaaLinks
namespace Go.Proofs.Ytjmjdffnakojpaa
open Go.RowKit Go.Shelf
set_option linter.unusedVariables false
set_option linter.unusedSimpArgs false

/-- A part that is only looked at. -/
def eView (x : Ent) : Ent where
  own _ := False
  rd k := x.own k ∨ x.rd k
  holds := x.holds
  isC := x.isC
  lt h k hk := x.lt h k (hk.resolve_left id)
  keep h hs hd := x.keep h hs fun k hk => hd k (.inr hk)
  cel e w h k hk o ho := x.cel e h k (hk.resolve_left id) o ho
instance HasSl.view (L : List Ent) (A : Option Addr) (n c sz : Nat) (xs : List Value) [h : HasSl L A n c sz xs] : HasSl (L.map eView) A n c sz xs :=
  ⟨fun w hw => h.sl w (fun y hy => hw (eView y) (List.mem_map_of_mem hy))⟩
instance Calm.view (L : List Ent) [h : Calm L] : Calm (L.map eView) := ⟨fun x hx => by
  obtain ⟨y, hy, rfl⟩ := List.mem_map.1 hx
  exact h.all y hy⟩
section
variable {S : Nat → Prop} {w0 w : World} {L F F1 F2 : List Ent}
/-- All parts only looked at. -/
theorem St.viewed (h : St S w0 w L) : St (fun _ => False) w w (L.map eView) := by
  refine ⟨Step.refl _ _, fun x hx => ?_, fun x hx k hk => ?_, ?_⟩
  · obtain ⟨y, hy, rfl⟩ := List.mem_map.1 hx
    exact h.holds y hy
  · obtain ⟨y, hy, rfl⟩ := List.mem_map.1 hx
    exact hk.elim
  · rw [List.pairwise_map]
    exact h.apart.imp fun _ k => ⟨fun h => h.elim, fun _ h => h⟩
theorem St.sep (h : St S w0 w L) (e1 e2 : Ent) [s : Slot L e1 F1] [s2 : Slot F1 e2 F2] {i : Nat} (h1 : e1.own i) (h2 : e2.own i) : False :=
  (((List.pairwise_cons.1 (h.perm s.perm).apart).1 e2 (s2.perm.mem_iff.2 List.mem_cons_self)) i).1 h1 (.inl h2)
/-- Two parts to write to, the others to look at. -/
theorem St.focus2 (h : St S w0 w L) (e1 e2 : Ent) [s : Slot L e1 F1] [s2 : Slot F1 e2 F2] : St (fun i => e1.own i ∨ e2.own i) w w (e1 :: e2 :: F2.map eView) := by
  have h' := h.perm (s.perm.trans (s2.perm.cons e1))
  have a1 := List.pairwise_cons.1 h'.apart
  have a2 := List.pairwise_cons.1 a1.2
  refine ⟨Step.refl _ _, fun x hx => ?_, fun x hx k hk => ?_, List.pairwise_cons.2 ⟨fun y hy k => ?_, List.pairwise_cons.2 ⟨fun y hy k => ?_, ?_⟩⟩⟩
  · rcases List.mem_cons.1 hx with rfl | hx
    · exact h'.holds _ (by simp)
    · rcases List.mem_cons.1 hx with rfl | hx
      · exact h'.holds _ (by simp)
      · obtain ⟨y, hy, rfl⟩ := List.mem_map.1 hx
        exact h'.holds y (by simp [hy])
  · rcases List.mem_cons.1 hx with rfl | hx
    · exact .inl (.inl hk)
    · rcases List.mem_cons.1 hx with rfl | hx
      · exact .inl (.inr hk)
      · obtain ⟨y, hy, rfl⟩ := List.mem_map.1 hx
        exact hk.elim
  · rcases List.mem_cons.1 hy with rfl | hy
    · exact a1.1 _ (by simp) k
    · obtain ⟨z, hz, rfl⟩ := List.mem_map.1 hy
      have := a1.1 z (by simp [hz]) k
      exact ⟨fun h1 h2 => this.1 h1 (h2.resolve_left id), fun _ h2 => h2⟩
  · obtain ⟨z, hz, rfl⟩ := List.mem_map.1 hy
    have := a2.1 z hz k
    exact ⟨fun h1 h2 => this.1 h1 (h2.resolve_left id), fun _ h2 => h2⟩
  · rw [List.pairwise_map]
    exact a2.2.imp fun _ k => ⟨fun h => h.elim, fun _ h => h⟩
/-- A variable of one cell that is only read from here on. -/
theorem St.got1 (h : St S w0 w L) (g : Nat) {t : TypeId} {u : Value} [k : SlotB L g t [u] F] : St S w0 w (eGot (some ⟨g, 0, none⟩) 1 1 1 [u] :: F) := by
  have hb := h.blk g (k := k)
  have h' := h.perm k.perm
  refine ⟨h'.step, fun x hx => ?_, fun x hx i hi => ?_, List.pairwise_cons.2 ⟨fun y hy i => ?_, (List.pairwise_cons.1 h'.apart).2⟩⟩
  · rcases List.mem_cons.1 hx with rfl | hx
    · exact ⟨by omega, hb.slv rfl⟩
    · exact h'.holds x (by simp [hx])
  · rcases List.mem_cons.1 hx with rfl | hx
    · obtain ⟨_, a, ha, rfl⟩ := hi
      cases ha
      exact h'.foot _ List.mem_cons_self g rfl
    · exact h'.foot x (by simp [hx]) i hi
  · have a1 := (List.pairwise_cons.1 h'.apart).1 y hy i
    refine ⟨fun h1 => ?_, fun h1 => h1.elim⟩
    obtain ⟨_, a, ha, rfl⟩ := h1
    cases ha
    exact a1.1 rfl
/-- A row cut shorter, only read from here on. -/
theorem St.cut (h : St S w0 w L) (A : Option Addr) {e : TypeId} {sz n c : Nat} {xs : List Value} [k : SlotO L A e sz n c xs F] (hsz : 0 < sz) {m : Nat} (hm : m ≤ n) : St S w0 w (eGot A m c sz (xs.take (m * sz)) :: F) := by
  have ho := (h.row A (k := k)).sl
  have h' := h.perm k.perm
  refine ⟨h'.step, fun x hx => ?_, fun x hx i hi => ?_, List.pairwise_cons.2 ⟨fun y hy i => ?_, (List.pairwise_cons.1 h'.apart).2⟩⟩
  · rcases List.mem_cons.1 hx with rfl | hx
    · exact ⟨hsz, ho.take hm (Nat.le_refl _) (Nat.le_trans hm ho.le)⟩
    · exact h'.holds x (by simp [hx])
  · rcases List.mem_cons.1 hx with rfl | hx
    · exact h'.foot _ List.mem_cons_self i hi.2
    · exact h'.foot x (by simp [hx]) i hi
  · have a1 := (List.pairwise_cons.1 h'.apart).1 y hy i
    exact ⟨fun h1 => a1.1 h1.2, fun h1 => h1.elim⟩
end

/-- The chain's first links, one behind the other. -/
def chainM (prk info : List UInt8) : Nat → List UInt8
  | 0 => []
  | k + 1 => chainM prk info k ++ linkM prk info (k + 1)
theorem chainM_length (prk info : List UInt8) : ∀ k, (chainM prk info k).length = 32 * k
  | 0 => rfl
  | k + 1 => by rw [chainM, List.length_append, chainM_length prk info k, linkM_length]; omega
/-- So many bytes of it. -/
def expandM (prk info : List UInt8) (m : Nat) : List UInt8 := (chainM prk info ((m + 31) / 32)).take m
theorem expandM_length (prk info : List UInt8) (m : Nat) : (expandM prk info m).length = m := by rw [expandM, List.length_take, chainM_length]; omega

abbrev PL (go g5 gi gp g3 k n ci c : Nat) (A Ai : Option Addr) (m : Nat) (prk info : List UInt8) (L : List Ent) : List Ent :=
  eBlk go 22 [.slice A (32 * k) c] :: eOwn 5 1 A (32 * k) c (u8s (chainM prk info k)) :: eGot (some ⟨g5, 0, none⟩) 1 1 1 [.int .i64 (m : Int)] :: eBlk gi 22 [.slice Ai n ci] :: eBlk gp 54 (u8s prk) :: eBlk g3 54 (u8s prk) :: L

attribute [local go_sem] Oper.semAt_some
set_option maxRecDepth 100000 in
set_option maxHeartbeats 1000000 in
theorem expand_code {S : Nat → Prop} {w0 w : World} {L : List Ent} {A : Option Addr} {n c m : Nat} {prk info : List UInt8} (h : St S w0 w L) [kc : Calm L] [ka : HasSl L A n c 1 (u8s info)] (hp : prk.length = 32) (hn : n ≤ 100000) (hm : m ≤ 8160) :
    Calls Try.prog 29 #[arr prk, .slice A n c, .int .i64 (m : Int)] w fun e w' => ∃ A' c', e = .returned (.tuple #[.slice A' m c', .int .i64 0]) ∧ St S w0 w' (eGot A' m c' 1 (u8s (expandM prk info m)) :: L) := by
  have hroot := h
  have h : St (fun _ => False) w w (L.map eView) := h.viewed
  have hwa : ∀ i, Ft A n i → i < w.heap.size := fun i hi => (h.sl A n c).ft_lt (by omega) hi
  have hrow : Row (u8s prk) 32 := Row.mk' (by rw [u8s_length, hp]) (u8s_one _) (by omega)
  have f1 : decide ((m : Int) < 0) = false := by simp
  have f2 : decide ((8160 : Int) < (m : Int)) = false := by simp; omega
  unfold arr
  refine callsIn_wide.1 (callsIn_of_wp_marks (F := Fence.wide) (n := 3) Try.func29 rfl trivial ?_ rfl)
  simp only [Try.ntmps29, List.size_toArray, List.length_cons, List.length_nil, Nat.reduceAdd, Nat.reduceSub, Array.replicate_succ, Array.replicate_zero, List.push_toArray, List.append_toArray, List.nil_append, List.cons_append]
  refine wpIn_wide.2 ?_
  obtain ⟨ws, hws⟩ : ∃ ws, ws = w := ⟨_, rfl⟩
  have h : St (fun _ => False) ws w (L.map eView) := by rw [hws]; exact h
  rw [← hws] at hroot hwa
  clear hws
  go_wp2_with (first
    | (refine wl_runs rfl (ex_box h 54 _ rfl (u8s prk) rfl) ?_; clear h; rintro _ w ⟨g3, rfl, h⟩)
    | (refine wl_runs rfl (ex_box1i h 3 _ rfl _ _ rfl) ?_; clear h; rintro _ w ⟨g5, rfl, h⟩; replace h := h.got1 g5)
    | (refine wl_reads rfl (ex_load1_at _ _ rfl g5 0 rfl (.int .i64 (m : Int)) ((h.sl (some ⟨g5, 0, none⟩) 1 1).cellAt (i := 0) rfl)) ?_)
    | (refine wl_runs rfl (ex_alloc h 22 rfl) ?_; clear h; rintro _ w ⟨go, rfl, h⟩)
    | (go_at_call 43; refine (links_make h).mono ?_; clear h; rintro e w ⟨gp, gi, rfl, h⟩)
    | (refine wl_reads rfl (ex_load1 h _ _ rfl _ _ rfl) ?_) | (refine wl_reads rfl (ex_load h _ _ rfl _ _ rfl) ?_) | (refine wl_runs rfl (ex_store1i h _ _ _ rfl _ _ rfl _ _ rfl) ?_; clear h; rintro _ w ⟨rfl, h⟩; try dsimp only [Act.put]) | (refine wl_runs rfl (ex_store1s h _ _ _ rfl _ _ rfl _ _ _ rfl) ?_; clear h; rintro _ w ⟨rfl, h⟩; try dsimp only [Act.put]) | (refine wl_runs rfl (ex_store1b h _ _ _ rfl _ _ rfl _ rfl) ?_; clear h; rintro _ w ⟨rfl, h⟩; try dsimp only [Act.put]) | (refine wl_runs rfl (ex_store1t h _ _ _ rfl _ _ rfl _ rfl) ?_; clear h; rintro _ w ⟨rfl, h⟩; try dsimp only [Act.put]) | (refine wl_runs rfl (ex_store1p h _ _ _ rfl _ _ rfl _ rfl) ?_; clear h; rintro _ w ⟨rfl, h⟩; try dsimp only [Act.put]) | (refine wl_runs rfl (ex_store1m h _ _ _ rfl _ _ rfl _ rfl) ?_; clear h; rintro _ w ⟨rfl, h⟩; try dsimp only [Act.put]) | (refine wl_runs rfl (ex_store h _ _ _ rfl _ _ rfl _ rfl) ?_; clear h; rintro _ w ⟨rfl, h⟩; try dsimp only [Act.put]) | (refine wl_runs rfl (ex_alloc h _ rfl) ?_; clear h; rintro _ w ⟨g, rfl, h⟩) | (refine wl_runs rfl (ex_box h _ _ rfl _ rfl) ?_; clear h; rintro _ w ⟨g, rfl, h⟩) | (refine wl_runs rfl (ex_box1i h _ _ rfl _ _ rfl) ?_; clear h; rintro _ w ⟨g, rfl, h⟩) | (refine wl_runs rfl (ex_box1s h _ _ rfl _ _ _ rfl) ?_; clear h; rintro _ w ⟨g, rfl, h⟩) | (refine wl_runs rfl (ex_box1b h _ _ rfl _ rfl) ?_; clear h; rintro _ w ⟨g, rfl, h⟩) | (refine wl_runs rfl (ex_box1t h _ _ rfl _ rfl) ?_; clear h; rintro _ w ⟨g, rfl, h⟩) | (refine wl_runs rfl (ex_box1p h _ _ rfl _ rfl) ?_; clear h; rintro _ w ⟨g, rfl, h⟩) | (refine wl_runs rfl (ex_box1m h _ _ rfl _ rfl) ?_; clear h; rintro _ w ⟨g, rfl, h⟩) | (refine wl_runs rfl (ex_slice1 h _ _ rfl _ rfl) ?_; clear h; rintro _ w ⟨g, rfl, h⟩) | (refine wl_runs rfl (ex_slice1i h _ _ rfl _ _ rfl) ?_; clear h; rintro _ w ⟨g, rfl, h⟩) | (refine wl_runs rfl (ex_slice1s h _ _ rfl _ _ _ rfl) ?_; clear h; rintro _ w ⟨g, rfl, h⟩) | (refine wl_runs rfl (ex_slice1b h _ _ rfl _ rfl) ?_; clear h; rintro _ w ⟨g, rfl, h⟩) | (refine wl_runs rfl (ex_slice1t h _ _ rfl _ rfl) ?_; clear h; rintro _ w ⟨g, rfl, h⟩) | (refine wl_runs rfl (ex_slice1p h _ _ rfl _ rfl) ?_; clear h; rintro _ w ⟨g, rfl, h⟩) | (refine wl_runs rfl (ex_slice1m h _ _ rfl _ rfl) ?_; clear h; rintro _ w ⟨g, rfl, h⟩) | (refine wl_reads rfl (ex_lit0 _ rfl) ?_))
  have h := h.nilRow 5 1
  have hwp : Sl w (some ⟨gp, 0, none⟩) 32 32 1 (u8s prk) := h.sl (some ⟨gp, 0, none⟩) 32 32
  have hwi : Sl w (some ⟨gi, 0, none⟩) 1 1 1 [.slice A n c] := (h.blk gi).slv rfl
  have hwl : Sl w A n c 1 (u8s info) := h.sl A n c
  have h0 : St (fun _ => False) ws w (eBlk go 22 [.slice none 0 0] :: eOwn 5 1 none 0 0 [] :: eGot (some ⟨g5, 0, none⟩) 1 1 1 [.int .i64 (m : Int)] :: eBlk gi 22 [.slice A n c] :: eBlk gp 54 (u8s prk) :: eBlk g3 54 (u8s prk) :: L.map eView) := h.to
  have hw0 := h.step.size
  clear h
  refine wp_range_ever_at rfl (enters_of Try.func45 (by kernel_rfl) rfl) (links_ever hwp hwi hwl hn) (fun _ => rfl) (fun x => [(19, .slice (some ⟨x, 0, none⟩) 32 32), (9, .slice (some ⟨x, 0, none⟩) 32 32)])
    (fun k W => k ≤ 255 ∧ 32 * k < m + 32 ∧ ∃ A' c', St (fun _ => False) ws W (PL go g5 gi gp g3 k n c c' A' A m prk info (L.map eView)))
    (fun cc k W => cc = .exit 0 ∧ ∃ k A' c', m ≤ 32 * k ∧ 32 * k < m + 32 ∧ St (fun _ => False) ws W (PL go g5 gi gp g3 k n c c' A' A m prk info (L.map eView))) ?hI ?hIx (fun k W h => h.1) ⟨by omega, by omega, none, 0, h0⟩ ?assign ?body ?stop
  case hI =>
    rintro k W1 W2 ⟨h1, h2, A', c', h3⟩ hL
    exact ⟨h1, h2, A', c', h3.loose hL (by omega)⟩
  case hIx =>
    rintro cc k W1 W2 ⟨h1, k', A', c', h2, h4, h3⟩ hL
    exact ⟨h1, k', A', c', h2, h4, h3.loose hL (by omega)⟩
  case assign =>
    intro l x W M hM
    rw [zip1]
    simp only [List.setIfInBounds_toArray, List.set_cons_succ, List.set_cons_zero, List.foldl_cons, List.foldl_nil] at hM ⊢
    gi_wp2
    exact hM
  case body =>
    rintro l k x W0 W1 W2 ⟨hk, hkm, A', c', h3⟩ hst ⟨hx0, hxb⟩ hL
    have hx2 := hL.blk hxb
    have h2 := (h3.quiet hst).loose hL (by omega)
    have hxs : Sl W2 (some ⟨x, 0, none⟩) 32 32 1 (u8s (linkM prk info (k + 1))) := hx2.sl_ (by rw [u8s_length, linkM_length]) (by decide)
    have h := (h2.focus2 (eBlk go 22 [.slice A' (32 * k) c']) (eOwn 5 1 A' (32 * k) c' (u8s (chainM prk info k)))).reading hxs (by omega) (fun i hi => ⟨hxs.ft_lt (by omega) hi, fun ho => by
      obtain ⟨_, a, ha, rfl⟩ := hi
      cases ha
      have h5 : x < W0.heap.size := (eStar (eBlk go 22 [.slice A' (32 * k) c']) (eOwn 5 1 A' (32 * k) c' (u8s (chainM prk info k)))).lt (w := W0) ((h3.star).holds _ List.mem_cons_self) x (.inl ho)
      omega⟩)
    simp only [List.setIfInBounds_toArray, List.set_cons_succ, List.set_cons_zero, List.foldl_cons, List.foldl_nil]
    have hS : ∀ i, (eBlk go 22 [.slice A' (32 * k) c']).own i ∨ (eOwn 5 1 A' (32 * k) c' (u8s (chainM prk info k))).own i → ws.heap.size ≤ i ∧ i < W0.heap.size := fun i hi =>
      ⟨((h3.star).foot _ List.mem_cons_self i hi).resolve_left id, (eStar (eBlk go 22 [.slice A' (32 * k) c']) (eOwn 5 1 A' (32 * k) c' (u8s (chainM prk info k)))).lt (w := W0) ((h3.star).holds _ List.mem_cons_self) i (.inl hi)⟩
    have h2s : (eStar (eBlk go 22 [.slice A' (32 * k) c']) (eOwn 5 1 A' (32 * k) c' (u8s (chainM prk info k)))).holds W2 := (h2.star).holds _ List.mem_cons_self
    by_cases hmk : m ≤ 32 * k
    · have f3 : (m : Int) ≤ 32 * (k : Int) := by omega
      gi_wp2_with (first
        | (refine wi_reads rfl (ex_load1_at _ _ rfl g5 0 rfl (.int .i64 (m : Int)) ((h.sl (some ⟨g5, 0, none⟩) 1 1).cellAt (i := 0) rfl)) ?_)
        | (refine wi_reads rfl (ex_load1 h _ _ rfl _ _ rfl) ?_) | (refine wi_reads rfl (ex_load h _ _ rfl _ _ rfl) ?_) | (refine wi_runs rfl (ex_store1i h _ _ _ rfl _ _ rfl _ _ rfl) ?_; clear h; rintro _ w ⟨rfl, h⟩; try dsimp only [Act.put]) | (refine wi_runs rfl (ex_store1s h _ _ _ rfl _ _ rfl _ _ _ rfl) ?_; clear h; rintro _ w ⟨rfl, h⟩; try dsimp only [Act.put]) | (refine wi_runs rfl (ex_store1b h _ _ _ rfl _ _ rfl _ rfl) ?_; clear h; rintro _ w ⟨rfl, h⟩; try dsimp only [Act.put]) | (refine wi_runs rfl (ex_store1t h _ _ _ rfl _ _ rfl _ rfl) ?_; clear h; rintro _ w ⟨rfl, h⟩; try dsimp only [Act.put]) | (refine wi_runs rfl (ex_store1p h _ _ _ rfl _ _ rfl _ rfl) ?_; clear h; rintro _ w ⟨rfl, h⟩; try dsimp only [Act.put]) | (refine wi_runs rfl (ex_store1m h _ _ _ rfl _ _ rfl _ rfl) ?_; clear h; rintro _ w ⟨rfl, h⟩; try dsimp only [Act.put]) | (refine wi_runs rfl (ex_store h _ _ _ rfl _ _ rfl _ rfl) ?_; clear h; rintro _ w ⟨rfl, h⟩; try dsimp only [Act.put]) | (refine wi_runs rfl (ex_alloc h _ rfl) ?_; clear h; rintro _ w ⟨g, rfl, h⟩) | (refine wi_runs rfl (ex_box h _ _ rfl _ rfl) ?_; clear h; rintro _ w ⟨g, rfl, h⟩) | (refine wi_runs rfl (ex_box1i h _ _ rfl _ _ rfl) ?_; clear h; rintro _ w ⟨g, rfl, h⟩) | (refine wi_runs rfl (ex_box1s h _ _ rfl _ _ _ rfl) ?_; clear h; rintro _ w ⟨g, rfl, h⟩) | (refine wi_runs rfl (ex_box1b h _ _ rfl _ rfl) ?_; clear h; rintro _ w ⟨g, rfl, h⟩) | (refine wi_runs rfl (ex_box1t h _ _ rfl _ rfl) ?_; clear h; rintro _ w ⟨g, rfl, h⟩) | (refine wi_runs rfl (ex_box1p h _ _ rfl _ rfl) ?_; clear h; rintro _ w ⟨g, rfl, h⟩) | (refine wi_runs rfl (ex_box1m h _ _ rfl _ rfl) ?_; clear h; rintro _ w ⟨g, rfl, h⟩) | (refine wi_runs rfl (ex_slice1 h _ _ rfl _ rfl) ?_; clear h; rintro _ w ⟨g, rfl, h⟩) | (refine wi_runs rfl (ex_slice1i h _ _ rfl _ _ rfl) ?_; clear h; rintro _ w ⟨g, rfl, h⟩) | (refine wi_runs rfl (ex_slice1s h _ _ rfl _ _ _ rfl) ?_; clear h; rintro _ w ⟨g, rfl, h⟩) | (refine wi_runs rfl (ex_slice1b h _ _ rfl _ rfl) ?_; clear h; rintro _ w ⟨g, rfl, h⟩) | (refine wi_runs rfl (ex_slice1t h _ _ rfl _ rfl) ?_; clear h; rintro _ w ⟨g, rfl, h⟩) | (refine wi_runs rfl (ex_slice1p h _ _ rfl _ rfl) ?_; clear h; rintro _ w ⟨g, rfl, h⟩) | (refine wi_runs rfl (ex_slice1m h _ _ rfl _ rfl) ?_; clear h; rintro _ w ⟨g, rfl, h⟩) | (refine wi_reads rfl (ex_lit0 _ rfl) ?_))
      exact ⟨KeepsFrom.refl _ _, rfl, k, A', c', hmk, hkm, h2⟩
    · have f3 : ¬ (m : Int) ≤ 32 * (k : Int) := by omega
      gi_wp2_with (first
        | (refine wi_reads rfl (ex_load1_at _ _ rfl g5 0 rfl (.int .i64 (m : Int)) ((h.sl (some ⟨g5, 0, none⟩) 1 1).cellAt (i := 0) rfl)) ?_)
        | (refine wi_runs rfl (ex_append h _ _ _ rfl A' rfl (some ⟨x, 0, none⟩) 32 32 rfl (h.sl (some ⟨x, 0, none⟩) 32 32) (u8s_one _) (by simp [maxLen]; omega) (by omega)) ?_; clear h; rintro _ w ⟨A2, c2, rfl, h⟩; rw [u8s_append] at h)
        | (refine wi_reads rfl (ex_load1 h _ _ rfl _ _ rfl) ?_) | (refine wi_reads rfl (ex_load h _ _ rfl _ _ rfl) ?_) | (refine wi_runs rfl (ex_store1i h _ _ _ rfl _ _ rfl _ _ rfl) ?_; clear h; rintro _ w ⟨rfl, h⟩; try dsimp only [Act.put]) | (refine wi_runs rfl (ex_store1s h _ _ _ rfl _ _ rfl _ _ _ rfl) ?_; clear h; rintro _ w ⟨rfl, h⟩; try dsimp only [Act.put]) | (refine wi_runs rfl (ex_store1b h _ _ _ rfl _ _ rfl _ rfl) ?_; clear h; rintro _ w ⟨rfl, h⟩; try dsimp only [Act.put]) | (refine wi_runs rfl (ex_store1t h _ _ _ rfl _ _ rfl _ rfl) ?_; clear h; rintro _ w ⟨rfl, h⟩; try dsimp only [Act.put]) | (refine wi_runs rfl (ex_store1p h _ _ _ rfl _ _ rfl _ rfl) ?_; clear h; rintro _ w ⟨rfl, h⟩; try dsimp only [Act.put]) | (refine wi_runs rfl (ex_store1m h _ _ _ rfl _ _ rfl _ rfl) ?_; clear h; rintro _ w ⟨rfl, h⟩; try dsimp only [Act.put]) | (refine wi_runs rfl (ex_store h _ _ _ rfl _ _ rfl _ rfl) ?_; clear h; rintro _ w ⟨rfl, h⟩; try dsimp only [Act.put]) | (refine wi_runs rfl (ex_alloc h _ rfl) ?_; clear h; rintro _ w ⟨g, rfl, h⟩) | (refine wi_runs rfl (ex_box h _ _ rfl _ rfl) ?_; clear h; rintro _ w ⟨g, rfl, h⟩) | (refine wi_runs rfl (ex_box1i h _ _ rfl _ _ rfl) ?_; clear h; rintro _ w ⟨g, rfl, h⟩) | (refine wi_runs rfl (ex_box1s h _ _ rfl _ _ _ rfl) ?_; clear h; rintro _ w ⟨g, rfl, h⟩) | (refine wi_runs rfl (ex_box1b h _ _ rfl _ rfl) ?_; clear h; rintro _ w ⟨g, rfl, h⟩) | (refine wi_runs rfl (ex_box1t h _ _ rfl _ rfl) ?_; clear h; rintro _ w ⟨g, rfl, h⟩) | (refine wi_runs rfl (ex_box1p h _ _ rfl _ rfl) ?_; clear h; rintro _ w ⟨g, rfl, h⟩) | (refine wi_runs rfl (ex_box1m h _ _ rfl _ rfl) ?_; clear h; rintro _ w ⟨g, rfl, h⟩) | (refine wi_runs rfl (ex_slice1 h _ _ rfl _ rfl) ?_; clear h; rintro _ w ⟨g, rfl, h⟩) | (refine wi_runs rfl (ex_slice1i h _ _ rfl _ _ rfl) ?_; clear h; rintro _ w ⟨g, rfl, h⟩) | (refine wi_runs rfl (ex_slice1s h _ _ rfl _ _ _ rfl) ?_; clear h; rintro _ w ⟨g, rfl, h⟩) | (refine wi_runs rfl (ex_slice1b h _ _ rfl _ rfl) ?_; clear h; rintro _ w ⟨g, rfl, h⟩) | (refine wi_runs rfl (ex_slice1t h _ _ rfl _ rfl) ?_; clear h; rintro _ w ⟨g, rfl, h⟩) | (refine wi_runs rfl (ex_slice1p h _ _ rfl _ rfl) ?_; clear h; rintro _ w ⟨g, rfl, h⟩) | (refine wi_runs rfl (ex_slice1m h _ _ rfl _ rfl) ?_; clear h; rintro _ w ⟨g, rfl, h⟩) | (refine wi_reads rfl (ex_lit0 _ rfl) ?_))
      have h7 : St _ W2 _ [eBlk go 22 [.slice A2 (32 * k + 32) c2], eOwn 5 1 A2 (32 * k + 32) c2 (u8s (chainM prk info k ++ linkM prk info (k + 1)))] := h.to
      refine ⟨h.step.keepsFrom (fun i o hi ho => Ent.cel _ rfl h2s i (.inl hi) o ho), h.step.keeps (fun i hK hi => ?_), by omega, by omega, A2, c2, ?_⟩
      · have h8 := hS i hi
        rcases hK with rfl | rfl | hK | rfl
        · rcases hi with hi | hi
          · exact h2.sep (eBlk go 22 [.slice A' (32 * k) c']) (eBlk i 54 (u8s prk)) hi rfl
          · exact h2.sep (eOwn 5 1 A' (32 * k) c' (u8s (chainM prk info k))) (eBlk i 54 (u8s prk)) hi rfl
        · rcases hi with hi | hi
          · exact h2.sep (eBlk go 22 [.slice A' (32 * k) c']) (eBlk i 22 [.slice A n c]) hi rfl
          · exact h2.sep (eOwn 5 1 A' (32 * k) c' (u8s (chainM prk info k))) (eBlk i 22 [.slice A n c]) hi rfl
        · have := hwa i hK
          omega
        · omega
      · exact h2.frame2 (e1 := eBlk go 22 [.slice A' (32 * k) c']) (e2 := eOwn 5 1 A' (32 * k) c' (u8s (chainM prk info k))) h7
  case stop =>
    rintro D cc k0 W hD ⟨rfl, k, A', c', hmk, hkm, h3⟩ hK
    have f3 : (m : Int) ≤ 32 * (k : Int) := by omega
    have f4 : m ≤ c' := by
      have := (h3.sl A' (32 * k) c').le
      omega
    have f5 : (m : Int) ≤ (c' : Int) := by omega
    have f6 : (0 : Int) ≤ (m : Int) := by omega
    have h := h3
    go_wp2_with (first
      | (refine wl_reads rfl (ex_load1_at _ _ rfl g5 0 rfl (.int .i64 (m : Int)) ((h.sl (some ⟨g5, 0, none⟩) 1 1).cellAt (i := 0) rfl)) ?_)
      | (refine wl_reads rfl (ex_load1 h _ _ rfl _ _ rfl) ?_) | (refine wl_reads rfl (ex_load h _ _ rfl _ _ rfl) ?_) | (refine wl_runs rfl (ex_store1i h _ _ _ rfl _ _ rfl _ _ rfl) ?_; clear h; rintro _ w ⟨rfl, h⟩; try dsimp only [Act.put]) | (refine wl_runs rfl (ex_store1s h _ _ _ rfl _ _ rfl _ _ _ rfl) ?_; clear h; rintro _ w ⟨rfl, h⟩; try dsimp only [Act.put]) | (refine wl_runs rfl (ex_store1b h _ _ _ rfl _ _ rfl _ rfl) ?_; clear h; rintro _ w ⟨rfl, h⟩; try dsimp only [Act.put]) | (refine wl_runs rfl (ex_store1t h _ _ _ rfl _ _ rfl _ rfl) ?_; clear h; rintro _ w ⟨rfl, h⟩; try dsimp only [Act.put]) | (refine wl_runs rfl (ex_store1p h _ _ _ rfl _ _ rfl _ rfl) ?_; clear h; rintro _ w ⟨rfl, h⟩; try dsimp only [Act.put]) | (refine wl_runs rfl (ex_store1m h _ _ _ rfl _ _ rfl _ rfl) ?_; clear h; rintro _ w ⟨rfl, h⟩; try dsimp only [Act.put]) | (refine wl_runs rfl (ex_store h _ _ _ rfl _ _ rfl _ rfl) ?_; clear h; rintro _ w ⟨rfl, h⟩; try dsimp only [Act.put]) | (refine wl_runs rfl (ex_alloc h _ rfl) ?_; clear h; rintro _ w ⟨g, rfl, h⟩) | (refine wl_runs rfl (ex_box h _ _ rfl _ rfl) ?_; clear h; rintro _ w ⟨g, rfl, h⟩) | (refine wl_runs rfl (ex_box1i h _ _ rfl _ _ rfl) ?_; clear h; rintro _ w ⟨g, rfl, h⟩) | (refine wl_runs rfl (ex_box1s h _ _ rfl _ _ _ rfl) ?_; clear h; rintro _ w ⟨g, rfl, h⟩) | (refine wl_runs rfl (ex_box1b h _ _ rfl _ rfl) ?_; clear h; rintro _ w ⟨g, rfl, h⟩) | (refine wl_runs rfl (ex_box1t h _ _ rfl _ rfl) ?_; clear h; rintro _ w ⟨g, rfl, h⟩) | (refine wl_runs rfl (ex_box1p h _ _ rfl _ rfl) ?_; clear h; rintro _ w ⟨g, rfl, h⟩) | (refine wl_runs rfl (ex_box1m h _ _ rfl _ rfl) ?_; clear h; rintro _ w ⟨g, rfl, h⟩) | (refine wl_runs rfl (ex_slice1 h _ _ rfl _ rfl) ?_; clear h; rintro _ w ⟨g, rfl, h⟩) | (refine wl_runs rfl (ex_slice1i h _ _ rfl _ _ rfl) ?_; clear h; rintro _ w ⟨g, rfl, h⟩) | (refine wl_runs rfl (ex_slice1s h _ _ rfl _ _ _ rfl) ?_; clear h; rintro _ w ⟨g, rfl, h⟩) | (refine wl_runs rfl (ex_slice1b h _ _ rfl _ rfl) ?_; clear h; rintro _ w ⟨g, rfl, h⟩) | (refine wl_runs rfl (ex_slice1t h _ _ rfl _ rfl) ?_; clear h; rintro _ w ⟨g, rfl, h⟩) | (refine wl_runs rfl (ex_slice1p h _ _ rfl _ rfl) ?_; clear h; rintro _ w ⟨g, rfl, h⟩) | (refine wl_runs rfl (ex_slice1m h _ _ rfl _ rfl) ?_; clear h; rintro _ w ⟨g, rfl, h⟩) | (refine wl_reads rfl (ex_lit0 _ rfl) ?_))
    have h7 : St (fun _ => False) ws _ _ := h3.put hK (by omega)
    have hk : k = (m + 31) / 32 := by omega
    have h8 := h7.cut A' (by omega) hmk
    rw [Nat.mul_one, u8s_take, hk, ← expandM] at h8
    have h9 : St (fun _ => False) ws _ [eGot A' m c' 1 (u8s (expandM prk info m))] := h8.to
    refine ret_mark hK rfl (results_tmp2 rfl _ _ _) ⟨A', c', rfl, hroot.frame01 h9⟩
end Go.Proofs.Ytjmjdffnakojpaa
