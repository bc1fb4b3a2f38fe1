/- Objects: their cells; where ids stand first: the program's map, the reference's search. -/
import Derived.Test.YtionnlckjjojnaaCB2
import Derived.Test.YtionnlckjjojnaaCMarkM
import Derived.Test.YtionnlckjjojnaaCTy
namespace Go.Proofs.Ytionnlckjjojnaa
open Go.RowKit Go.Maps
set_option linter.unusedVariables false
set_option linter.unusedSimpArgs false

def natI (n : Nat) : Value := .int .i64 (n : Int)
def boV (b : Bool) : Value := .bool b
theorem laidOutMk : laidOutB Try.prog = true := by kernel_rfl
instance mk_idM : MapKey Try.prog 33 idv :=
  mapkey_id (m := 6) (s := (Try.prog).types.size - 1) Try.underlying33 Try.underlying5 laidOutMk (by omega) (of_decide_eq_true (by kernel_rfl)) (by kernel_rfl) (by kernel_rfl) (by kernel_rfl) (by kernel_rfl) (by kernel_rfl)
theorem mapTy_mkM {P : Program} {t k e : TypeId} {z : Value} (h1 : P.underlying t = some (.map k e)) (h2 : (P.info? e).map (·.zero) = some (some z)) : MapTy P t k e z where
  und := h1
  zero w := by
    cases hq : P.info? e with
    | none => simp [hq] at h2
    | some i =>
      have : i.zero = some z := by simpa [hq] using h2
      simp [zeroValue, typeInfo, hq, this]
instance mt_idint : MapTy Try.prog 62 33 3 (.int .i64 0) := mapTy_mkM Try.underlying62 (by kernel_rfl)
instance mt_idbool : MapTy Try.prog 64 33 4 (.bool false) := mapTy_mkM Try.underlying64 (by kernel_rfl)
abbrev obc (p : ObAt) : List Value := c_api_Object (u8s p.id.1) (.slice p.A p.n p.c) (.int .i64 p.x)
theorem obc_length (p : ObAt) : (obc p).length = 34 := by
  have : Row (u8s p.id.1) 32 := Row.u32 p.id
  exact (inferInstance : Row (obc p) 34).len
def obOf (p : ObAt) : Ob := ⟨p.id, p.links, p.x⟩
abbrev obsM (ps : List ObAt) : List Ob := ps.map obOf
theorem ids_obs (ps : List ObAt) : idsOf (obsM ps) = ps.map (·.id) := by simp [idsOf, obsM, obOf]
theorem cells_id {w : World} {b o : Nat} {p : ObAt} (h : Cells w b o (obc p)) : Cells w b o (u8s p.id.1) := fun i u hu => h i u (by
  have hi : i < (u8s p.id.1).length := (List.getElem?_eq_some_iff.1 hu).1
  rw [obc, c_api_Object, List.getElem?_append_left hi]; exact hu)
theorem cell_links {w : World} {b o : Nat} {p : ObAt} (h : Cells w b o (obc p)) : w.cell? ⟨b, o + 32, none⟩ = some (.slice p.A p.n p.c) := h 32 _ (by
  have : Row (u8s p.id.1) 32 := Row.u32 p.id
  exact (inferInstance : Cell (obc p) 32 _).eq)
theorem cell_size {w : World} {b o : Nat} {p : ObAt} (h : Cells w b o (obc p)) : w.cell? ⟨b, o + 33, none⟩ = some (.int .i64 p.x) := h 33 _ (by
  have : Row (u8s p.id.1) 32 := Row.u32 p.id
  exact (inferInstance : Cell (obc p) 33 _).eq)

set_option maxRecDepth 100000 in
set_option maxHeartbeats 1000000 in
theorem index_code {S : Nat → Prop} {w0 w : World} {L : List Ent} {A : Option Addr} {c : Nat} {ps : List ObAt} (h : St S w0 w L) [ka : HasObs obc L A ps.length c ps] (hl : ps.length ≤ 1000000) :
    Calls Try.prog 36 #[.slice A ps.length c] w fun e w' => ∃ b m, e = .returned (.map (some b)) ∧ (∀ x, mget m x = fstIx (ps.map (·.id)) x) ∧ St S w0 w' (eMap b idv natI m :: L) := by
  go_enter Try.func36, Try.ntmps36
  go_wp2_with (first
    | (refine wl_runs rfl (ex_mmake h _ rfl idv natI) ?_; clear h; rintro _ w ⟨gm, rfl, h⟩))
  go_loopw [4] (fun iv wr => ∃ (k : Nat) (x : Int) (m : List (Id × Nat)), iv = .int .i64 x ∧ x + 1 = (k : Int) ∧ k ≤ ps.length ∧ Hid (∀ y, mget m y = ixFrom (ps.map (·.id)) k y) ∧ St S w0 wr (eMap gm idv natI m :: L)) (fun iv _ => (intOf iv + 1).toNat)
  case atStart => exact ⟨ps.length, _, [], rfl, by omega, Nat.le_refl _, Lib.hid (fun y => by rw [mget_nil]; have := ixFrom_end (ps.map (·.id)) y; rw [List.length_map] at this; exact this.symm), h⟩
  case round =>
    clear h
    obtain ⟨k, x, m, rfl, hx, hk, Hm, h⟩ := hrel
    cases k with
    | succ k =>
      obtain rfl : x = (k : Int) := by omega
      have f1 : (0 : Int) ≤ (k : Int) := by omega
      have t1 : ((k : Int)).toNat = k := by omega
      have f2 : (k : Int) < (ps.length : Int) := by omega
      obtain ⟨p, hp⟩ : ∃ p, ps[k] = p := ⟨_, rfl⟩
      obtain ⟨b, off, rfl, _⟩ := (h.obsAt obc A ps.length c).1.pos (by omega)
      have hcs : ∀ {w}, Sl w (some ⟨b, off, none⟩) ps.length c 34 (ps.flatMap obc) → Cells w b (off + k * 34) (u8s p.id.1) := fun hs => cells_id (by rw [← hp]; exact hs.elemAt obc_length (by omega) (by omega))
      have Hm2 : Hid (∀ y, mget (mset m p.id k) y = ixFrom (ps.map (·.id)) k y) := Lib.hid (fun y => by
        rw [mget_set, ixFrom_step (by simp; omega), Hm.out, ← hp]
        simp)
      clear hx hp
      have hrp : Row (u8s p.id.1) 32 := Row.u32 p.id
      go_wp2_with (first
        | (refine wl_at 18 rfl ?_; refine wl_reads rfl (ex_load_at _ _ rfl b (off + k * 34) rfl (u8s p.id.1) (by rw [u8s_length, p.id.2]) (hcs (h.obsAt obc (some ⟨b, off, none⟩) ps.length c).1)) ?_)
        | (refine wl_runs rfl (ex_mput (kv := idv) (vv := natI) h _ _ _ _ rfl gm rfl p.id rfl k rfl) ?_; clear h; rintro _ w ⟨rfl, h⟩; try dsimp only [Act.put]))
      refine ⟨⟨k, _, _, rfl, by omega, by omega, Hm2, h.to⟩, ?_⟩
      simp only [intOf]
      omega
    | zero =>
      obtain rfl : x = -1 := by omega
      go_wp2
      go_ret
      exact ⟨gm, m, rfl, fun y => by rw [Hm.out, ixFrom_zero], h⟩
end Go.Proofs.Ytionnlckjjojnaa
