/- What is known of the types of this seat; printed by wip/mk_ty.py. -/
import Derived.Test.YtjmjdffnakojpaaOps2
import Derived.Test.YtjmjdffnakojpaaProg
namespace Go.Proofs.Ytjmjdffnakojpaa
open Go.RowKit
set_option linter.unusedVariables false
set_option linter.unusedSimpArgs false

theorem cell_mid {pre suf l : List Value} {v : Value} {i : Nat} (e : l = pre ++ v :: suf) (hp : pre.length = i) : Cell l i v := ⟨by rw [e, List.getElem?_append_right (by omega), hp, Nat.sub_self]; rfl⟩
theorem put1_mid {pre suf l l' : List Value} {u v : Value} {i : Nat} (e : l = pre ++ u :: suf) (hp : pre.length = i) (e' : l' = pre ++ v :: suf) : Put1 l i v l' := ⟨by rw [e, e', List.set_append_right _ _ (by omega), hp, Nat.sub_self]; rfl, by rw [e]; simp; omega⟩
theorem part_mid {pre xs suf l : List Value} {off n : Nat} (e : l = pre ++ (xs ++ suf)) (hp : pre.length = off) (hx : xs.length = n) : Part l off n xs := ⟨by rw [e, List.drop_left' hp, List.take_left' hx], by rw [e]; simp; omega⟩
theorem putN_mid {pre xs suf l ys l' : List Value} {off n : Nat} (e : l = pre ++ (xs ++ suf)) (hp : pre.length = off) (hx : xs.length = n) (hy : ys.length = n) (e' : l' = pre ++ (ys ++ suf)) : PutN l off ys l' :=
  ⟨by rw [e, e', List.take_left' hp, ← List.append_assoc pre xs suf, List.drop_left' (by rw [List.length_append]; omega), List.append_assoc], by rw [e]; simp; omega⟩
theorem elm_mk {P : Program} {t e : TypeId} {z : Value} {sz bytes : Nat} (hu : P.underlying t = some (.slice e)) (h : (P.info? e).map (fun i => (i.zero, i.size, i.bytes)) = some (some z, sz, bytes)) (hz : z.cells.size = sz) (hp : 0 < sz) : Elm P t e sz bytes :=
  ⟨hu, by
    obtain ⟨i, hi, h1, h2, h3⟩ := info_parts h
    exact ⟨i, z, hi, h1, h2, h3, hz⟩, hp⟩

/-- The cells of a sha.Running. -/
def c_sha_Running (h_ : List Value) (some_ : Value) (n_ : Value) (made_ : Value) : List Value := (h_ ++ ([some_, n_, made_]))
instance c_sha_Running.row (h_ : List Value) (some_ : Value) (n_ : Value) (made_ : Value) [r0 : Row h_ 8] [v1 : OneV some_] [v2 : OneV n_] [v3 : OneV made_] : Row (c_sha_Running h_ some_ n_ made_) 11 := Row.mk' (by simp only [c_sha_Running, List.length_append, List.length_cons, List.length_nil, r0.len]) (by
  intro u hu
  simp only [c_sha_Running, List.mem_append, List.mem_cons, List.not_mem_nil, or_false, or_assoc] at hu
  rcases hu with hu | hu | hu | hu
  all_goals first | (exact r0.one u hu) | (subst hu; exact v1.one) | (subst hu; exact v2.one) | (subst hu; exact v3.one)) (by omega)
instance c_sha_Running.p_h (h_ : List Value) (some_ : Value) (n_ : Value) (made_ : Value) [r0 : Row h_ 8] : Part (c_sha_Running h_ some_ n_ made_) 0 8 h_ := part_mid (pre := ([] : List Value)) (suf := ([some_, n_, made_])) (by simp [c_sha_Running]) (by simp [r0.len]) r0.len
instance c_sha_Running.s_h (h_ : List Value) (some_ : Value) (n_ : Value) (made_ : Value) (new : List Value) [r0 : Row h_ 8] [rn : Row new 8] : PutN (c_sha_Running h_ some_ n_ made_) 0 new (c_sha_Running new some_ n_ made_) := putN_mid (pre := ([] : List Value)) (suf := ([some_, n_, made_])) (by simp [c_sha_Running]) (by simp [r0.len]) r0.len rn.len (by simp [c_sha_Running])
instance c_sha_Running.p_some (h_ : List Value) (some_ : Value) (n_ : Value) (made_ : Value) [r0 : Row h_ 8] : Cell (c_sha_Running h_ some_ n_ made_) 8 some_ := cell_mid (pre := (h_)) (suf := ([n_, made_])) (by simp [c_sha_Running]) (by simp [r0.len])
instance c_sha_Running.s_some (h_ : List Value) (some_ : Value) (n_ : Value) (made_ : Value) (new : Value) [r0 : Row h_ 8] : Put1 (c_sha_Running h_ some_ n_ made_) 8 new (c_sha_Running h_ new n_ made_) := put1_mid (pre := (h_)) (u := some_) (suf := ([n_, made_])) (by simp [c_sha_Running]) (by simp [r0.len]) (by simp [c_sha_Running])
instance c_sha_Running.p_n (h_ : List Value) (some_ : Value) (n_ : Value) (made_ : Value) [r0 : Row h_ 8] : Cell (c_sha_Running h_ some_ n_ made_) 9 n_ := cell_mid (pre := (h_ ++ ([some_]))) (suf := ([made_])) (by simp [c_sha_Running]) (by simp [r0.len])
instance c_sha_Running.s_n (h_ : List Value) (some_ : Value) (n_ : Value) (made_ : Value) (new : Value) [r0 : Row h_ 8] : Put1 (c_sha_Running h_ some_ n_ made_) 9 new (c_sha_Running h_ some_ new made_) := put1_mid (pre := (h_ ++ ([some_]))) (u := n_) (suf := ([made_])) (by simp [c_sha_Running]) (by simp [r0.len]) (by simp [c_sha_Running])
instance c_sha_Running.p_made (h_ : List Value) (some_ : Value) (n_ : Value) (made_ : Value) [r0 : Row h_ 8] : Cell (c_sha_Running h_ some_ n_ made_) 10 made_ := cell_mid (pre := (h_ ++ ([some_, n_]))) (suf := ([] : List Value)) (by simp [c_sha_Running]) (by simp [r0.len])
instance c_sha_Running.s_made (h_ : List Value) (some_ : Value) (n_ : Value) (made_ : Value) (new : Value) [r0 : Row h_ 8] : Put1 (c_sha_Running h_ some_ n_ made_) 10 new (c_sha_Running h_ some_ n_ new) := put1_mid (pre := (h_ ++ ([some_, n_]))) (u := made_) (suf := ([] : List Value)) (by simp [c_sha_Running]) (by simp [r0.len]) (by simp [c_sha_Running])

instance : One Try.prog 1 := ⟨⟨_, Try.underlying1, rfl⟩, by kernel_rfl⟩
instance : Siz Try.prog 1 1 := ⟨by kernel_rfl⟩
instance : Zer Try.prog 1 [.nilFunc] := ⟨.nilFunc, by kernel_rfl, rfl⟩
instance : One Try.prog 2 := ⟨⟨_, Try.underlying2, rfl⟩, by kernel_rfl⟩
instance : Siz Try.prog 2 1 := ⟨by kernel_rfl⟩
instance : Zer Try.prog 2 [.int .i64 0] := ⟨(.int .i64 0), by kernel_rfl, rfl⟩
instance : One Try.prog 3 := ⟨⟨_, Try.underlying3, rfl⟩, by kernel_rfl⟩
instance : Siz Try.prog 3 1 := ⟨by kernel_rfl⟩
instance : Zer Try.prog 3 [.int .i64 0] := ⟨(.int .i64 0), by kernel_rfl, rfl⟩
instance : One Try.prog 4 := ⟨⟨_, Try.underlying4, rfl⟩, by kernel_rfl⟩
instance : Siz Try.prog 4 1 := ⟨by kernel_rfl⟩
instance : Zer Try.prog 4 [.bool false] := ⟨(.bool false), by kernel_rfl, rfl⟩
instance : One Try.prog 5 := ⟨⟨_, Try.underlying5, rfl⟩, by kernel_rfl⟩
instance : Siz Try.prog 5 1 := ⟨by kernel_rfl⟩
instance : Zer Try.prog 5 [.int .u8 0] := ⟨(.int .u8 0), by kernel_rfl, rfl⟩
instance : One Try.prog 6 := ⟨⟨_, Try.underlying6, rfl⟩, by kernel_rfl⟩
instance : Siz Try.prog 6 1 := ⟨by kernel_rfl⟩
instance : Zer Try.prog 6 [.int .u8 0] := ⟨(.int .u8 0), by kernel_rfl, rfl⟩
instance : Siz Try.prog 7 4 := ⟨by kernel_rfl⟩
instance : Agg Try.prog 7 := ⟨_, Try.underlying7, rfl⟩
instance : Siz Try.prog 8 4 := ⟨by kernel_rfl⟩
instance : Agg Try.prog 8 := ⟨_, Try.underlying8, rfl⟩
instance : One Try.prog 9 := ⟨⟨_, Try.underlying9, rfl⟩, by kernel_rfl⟩
instance : Siz Try.prog 9 1 := ⟨by kernel_rfl⟩
instance : Zer Try.prog 9 [.string ByteArray.empty] := ⟨(.string ByteArray.empty), by kernel_rfl, rfl⟩
instance : One Try.prog 10 := ⟨⟨_, Try.underlying10, rfl⟩, by kernel_rfl⟩
instance : Siz Try.prog 10 1 := ⟨by kernel_rfl⟩
instance : Zer Try.prog 10 [.string ByteArray.empty] := ⟨(.string ByteArray.empty), by kernel_rfl, rfl⟩
instance : One Try.prog 11 := ⟨⟨_, Try.underlying11, rfl⟩, by kernel_rfl⟩
instance : Siz Try.prog 11 1 := ⟨by kernel_rfl⟩
instance : Zer Try.prog 11 [.string ByteArray.empty] := ⟨(.string ByteArray.empty), by kernel_rfl, rfl⟩
instance : One Try.prog 12 := ⟨⟨_, Try.underlying12, rfl⟩, by kernel_rfl⟩
instance : Siz Try.prog 12 1 := ⟨by kernel_rfl⟩
instance : Zer Try.prog 12 [.int .u64 0] := ⟨(.int .u64 0), by kernel_rfl, rfl⟩
instance : Siz Try.prog 13 2 := ⟨by kernel_rfl⟩
instance : Agg Try.prog 13 := ⟨_, Try.underlying13, rfl⟩
instance : Siz Try.prog 14 2 := ⟨by kernel_rfl⟩
instance : Agg Try.prog 14 := ⟨_, Try.underlying14, rfl⟩
instance : One Try.prog 15 := ⟨⟨_, Try.underlying15, rfl⟩, by kernel_rfl⟩
instance : Siz Try.prog 15 1 := ⟨by kernel_rfl⟩
instance : Zer Try.prog 15 [.pointer none] := ⟨(.pointer none), by kernel_rfl, rfl⟩
instance : One Try.prog 16 := ⟨⟨_, Try.underlying16, rfl⟩, by kernel_rfl⟩
instance : Siz Try.prog 16 1 := ⟨by kernel_rfl⟩
instance : Zer Try.prog 16 [.pointer none] := ⟨(.pointer none), by kernel_rfl, rfl⟩
instance : One Try.prog 17 := ⟨⟨_, Try.underlying17, rfl⟩, by kernel_rfl⟩
instance : Siz Try.prog 17 1 := ⟨by kernel_rfl⟩
instance : Zer Try.prog 17 [.pointer none] := ⟨(.pointer none), by kernel_rfl, rfl⟩
instance : Siz Try.prog 18 1 := ⟨by kernel_rfl⟩
instance : Agg Try.prog 18 := ⟨_, Try.underlying18, rfl⟩
instance : Siz Try.prog 19 1 := ⟨by kernel_rfl⟩
instance : Agg Try.prog 19 := ⟨_, Try.underlying19, rfl⟩
instance : One Try.prog 20 := ⟨⟨_, Try.underlying20, rfl⟩, by kernel_rfl⟩
instance : Siz Try.prog 20 1 := ⟨by kernel_rfl⟩
instance : Zer Try.prog 20 [.nilIface] := ⟨.nilIface, by kernel_rfl, rfl⟩
instance : One Try.prog 21 := ⟨⟨_, Try.underlying21, rfl⟩, by kernel_rfl⟩
instance : Siz Try.prog 21 1 := ⟨by kernel_rfl⟩
instance : Zer Try.prog 21 [.int .i32 0] := ⟨(.int .i32 0), by kernel_rfl, rfl⟩
instance : One Try.prog 22 := ⟨⟨_, Try.underlying22, rfl⟩, by kernel_rfl⟩
instance : Siz Try.prog 22 1 := ⟨by kernel_rfl⟩
instance : Zer Try.prog 22 [.slice none 0 0] := ⟨(.slice none 0 0), by kernel_rfl, rfl⟩
instance : Elm Try.prog 22 5 1 1 := elm_mk (z := (.int .u8 0)) Try.underlying22 (by kernel_rfl) (by kernel_rfl) (by decide)
instance : One Try.prog 23 := ⟨⟨_, Try.underlying23, rfl⟩, by kernel_rfl⟩
instance : Siz Try.prog 23 1 := ⟨by kernel_rfl⟩
instance : Zer Try.prog 23 [.nilFunc] := ⟨.nilFunc, by kernel_rfl, rfl⟩
instance : Siz Try.prog 24 32 := ⟨by kernel_rfl⟩
instance : Agg Try.prog 24 := ⟨_, Try.underlying24, rfl⟩
instance : Arr8 Try.prog 24 32 := ⟨⟨_, _, Try.underlying24, Try.underlying5, rfl, rfl⟩, by kernel_rfl⟩
instance : Zer Try.prog 24 (u8s (zeros 32)) := ⟨.agg (u8s (zeros 32)).toArray, by kernel_rfl, rfl⟩
instance : Blt0 Try.prog 24 (u8s (zeros 32)) := ⟨by kernel_rfl⟩
instance : Siz Try.prog 25 32 := ⟨by kernel_rfl⟩
instance : Agg Try.prog 25 := ⟨_, Try.underlying25, rfl⟩
instance : Arr8 Try.prog 25 32 := ⟨⟨_, _, Try.underlying25, Try.underlying5, rfl, rfl⟩, by kernel_rfl⟩
instance : Zer Try.prog 25 (u8s (zeros 32)) := ⟨.agg (u8s (zeros 32)).toArray, by kernel_rfl, rfl⟩
instance : Blt0 Try.prog 25 (u8s (zeros 32)) := ⟨by kernel_rfl⟩
instance : One Try.prog 26 := ⟨⟨_, Try.underlying26, rfl⟩, by kernel_rfl⟩
instance : Siz Try.prog 26 1 := ⟨by kernel_rfl⟩
instance : Zer Try.prog 26 [.nilFunc] := ⟨.nilFunc, by kernel_rfl, rfl⟩
instance : One Try.prog 27 := ⟨⟨_, Try.underlying27, rfl⟩, by kernel_rfl⟩
instance : Siz Try.prog 27 1 := ⟨by kernel_rfl⟩
instance : Zer Try.prog 27 [.nilFunc] := ⟨.nilFunc, by kernel_rfl, rfl⟩
instance : One Try.prog 28 := ⟨⟨_, Try.underlying28, rfl⟩, by kernel_rfl⟩
instance : Siz Try.prog 28 1 := ⟨by kernel_rfl⟩
instance : Zer Try.prog 28 [.slice none 0 0] := ⟨(.slice none 0 0), by kernel_rfl, rfl⟩
instance : Elm Try.prog 28 33 64 64 := elm_mk (z := .agg (u8s (zeros 64)).toArray) Try.underlying28 (by kernel_rfl) (by kernel_rfl) (by decide)
instance : One Try.prog 29 := ⟨⟨_, Try.underlying29, rfl⟩, by kernel_rfl⟩
instance : Siz Try.prog 29 1 := ⟨by kernel_rfl⟩
instance : Zer Try.prog 29 [.nilFunc] := ⟨.nilFunc, by kernel_rfl, rfl⟩
instance : One Try.prog 30 := ⟨⟨_, Try.underlying30, rfl⟩, by kernel_rfl⟩
instance : Siz Try.prog 30 1 := ⟨by kernel_rfl⟩
instance : Zer Try.prog 30 [.nilFunc] := ⟨.nilFunc, by kernel_rfl, rfl⟩
instance : One Try.prog 31 := ⟨⟨_, Try.underlying31, rfl⟩, by kernel_rfl⟩
instance : Siz Try.prog 31 1 := ⟨by kernel_rfl⟩
instance : Zer Try.prog 31 [.nilFunc] := ⟨.nilFunc, by kernel_rfl, rfl⟩
instance : One Try.prog 32 := ⟨⟨_, Try.underlying32, rfl⟩, by kernel_rfl⟩
instance : Siz Try.prog 32 1 := ⟨by kernel_rfl⟩
instance : Zer Try.prog 32 [.nilFunc] := ⟨.nilFunc, by kernel_rfl, rfl⟩
instance : Siz Try.prog 33 64 := ⟨by kernel_rfl⟩
instance : Agg Try.prog 33 := ⟨_, Try.underlying33, rfl⟩
instance : Arr8 Try.prog 33 64 := ⟨⟨_, _, Try.underlying33, Try.underlying5, rfl, rfl⟩, by kernel_rfl⟩
instance : Zer Try.prog 33 (u8s (zeros 64)) := ⟨.agg (u8s (zeros 64)).toArray, by kernel_rfl, rfl⟩
instance : Blt0 Try.prog 33 (u8s (zeros 64)) := ⟨by kernel_rfl⟩
instance : One Try.prog 34 := ⟨⟨_, Try.underlying34, rfl⟩, by kernel_rfl⟩
instance : Siz Try.prog 34 1 := ⟨by kernel_rfl⟩
instance : Zer Try.prog 34 [.nilFunc] := ⟨.nilFunc, by kernel_rfl, rfl⟩
instance : One Try.prog 35 := ⟨⟨_, Try.underlying35, rfl⟩, by kernel_rfl⟩
instance : Siz Try.prog 35 1 := ⟨by kernel_rfl⟩
instance : Zer Try.prog 35 [.int .u32 0] := ⟨(.int .u32 0), by kernel_rfl, rfl⟩
instance : Siz Try.prog 36 8 := ⟨by kernel_rfl⟩
instance : Agg Try.prog 36 := ⟨_, Try.underlying36, rfl⟩
instance : Zer Try.prog 36 (List.replicate 8 ((.int .u32 0) : Value)) := ⟨.agg (List.replicate 8 ((.int .u32 0) : Value)).toArray, by kernel_rfl, rfl⟩
instance : Blt0 Try.prog 36 (List.replicate 8 ((.int .u32 0) : Value)) := ⟨by kernel_rfl⟩
instance : Siz Try.prog 37 64 := ⟨by kernel_rfl⟩
instance : Agg Try.prog 37 := ⟨_, Try.underlying37, rfl⟩
instance : Zer Try.prog 37 (List.replicate 64 ((.int .u32 0) : Value)) := ⟨.agg (List.replicate 64 ((.int .u32 0) : Value)).toArray, by kernel_rfl, rfl⟩
instance : Blt0 Try.prog 37 (List.replicate 64 ((.int .u32 0) : Value)) := ⟨by kernel_rfl⟩
instance : One Try.prog 38 := ⟨⟨_, Try.underlying38, rfl⟩, by kernel_rfl⟩
instance : Siz Try.prog 38 1 := ⟨by kernel_rfl⟩
instance : Zer Try.prog 38 [.nilFunc] := ⟨.nilFunc, by kernel_rfl, rfl⟩
instance : One Try.prog 39 := ⟨⟨_, Try.underlying39, rfl⟩, by kernel_rfl⟩
instance : Siz Try.prog 39 1 := ⟨by kernel_rfl⟩
instance : Zer Try.prog 39 [.nilFunc] := ⟨.nilFunc, by kernel_rfl, rfl⟩
instance : One Try.prog 40 := ⟨⟨_, Try.underlying40, rfl⟩, by kernel_rfl⟩
instance : Siz Try.prog 40 1 := ⟨by kernel_rfl⟩
instance : Zer Try.prog 40 [.nilFunc] := ⟨.nilFunc, by kernel_rfl, rfl⟩
instance : One Try.prog 41 := ⟨⟨_, Try.underlying41, rfl⟩, by kernel_rfl⟩
instance : Siz Try.prog 41 1 := ⟨by kernel_rfl⟩
instance : Zer Try.prog 41 [.pointer none] := ⟨(.pointer none), by kernel_rfl, rfl⟩
instance : Siz Try.prog 42 11 := ⟨by kernel_rfl⟩
instance : Agg Try.prog 42 := ⟨_, Try.underlying42, rfl⟩
instance : Zer Try.prog 42 (c_sha_Running (List.replicate 8 ((.int .u32 0) : Value)) (.slice none 0 0) (.int .i64 0) (.bool false)) := ⟨.agg (c_sha_Running (List.replicate 8 ((.int .u32 0) : Value)) (.slice none 0 0) (.int .i64 0) (.bool false)).toArray, by kernel_rfl, rfl⟩
instance : Blt0 Try.prog 42 (c_sha_Running (List.replicate 8 ((.int .u32 0) : Value)) (.slice none 0 0) (.int .i64 0) (.bool false)) := ⟨by kernel_rfl⟩
instance : Places Try.prog 42 [(0, 8), (8, 1), (9, 1), (10, 1)] (c_sha_Running (List.replicate 8 ((.int .u32 0) : Value)) (.slice none 0 0) (.int .i64 0) (.bool false)) := ⟨fun parts => by kernel_rfl⟩
instance : Siz Try.prog 43 11 := ⟨by kernel_rfl⟩
instance : Agg Try.prog 43 := ⟨_, Try.underlying43, rfl⟩
instance : Zer Try.prog 43 (c_sha_Running (List.replicate 8 ((.int .u32 0) : Value)) (.slice none 0 0) (.int .i64 0) (.bool false)) := ⟨.agg (c_sha_Running (List.replicate 8 ((.int .u32 0) : Value)) (.slice none 0 0) (.int .i64 0) (.bool false)).toArray, by kernel_rfl, rfl⟩
instance : Blt0 Try.prog 43 (c_sha_Running (List.replicate 8 ((.int .u32 0) : Value)) (.slice none 0 0) (.int .i64 0) (.bool false)) := ⟨by kernel_rfl⟩
instance : Places Try.prog 43 [(0, 8), (8, 1), (9, 1), (10, 1)] (c_sha_Running (List.replicate 8 ((.int .u32 0) : Value)) (.slice none 0 0) (.int .i64 0) (.bool false)) := ⟨fun parts => by kernel_rfl⟩
instance : One Try.prog 44 := ⟨⟨_, Try.underlying44, rfl⟩, by kernel_rfl⟩
instance : Siz Try.prog 44 1 := ⟨by kernel_rfl⟩
instance : Zer Try.prog 44 [.nilFunc] := ⟨.nilFunc, by kernel_rfl, rfl⟩
instance : One Try.prog 45 := ⟨⟨_, Try.underlying45, rfl⟩, by kernel_rfl⟩
instance : Siz Try.prog 45 1 := ⟨by kernel_rfl⟩
instance : Zer Try.prog 45 [.nilFunc] := ⟨.nilFunc, by kernel_rfl, rfl⟩
instance : One Try.prog 46 := ⟨⟨_, Try.underlying46, rfl⟩, by kernel_rfl⟩
instance : Siz Try.prog 46 1 := ⟨by kernel_rfl⟩
instance : Zer Try.prog 46 [.slice none 0 0] := ⟨(.slice none 0 0), by kernel_rfl, rfl⟩
instance : Elm Try.prog 46 22 1 24 := elm_mk (z := (.slice none 0 0)) Try.underlying46 (by kernel_rfl) (by kernel_rfl) (by decide)
instance : One Try.prog 47 := ⟨⟨_, Try.underlying47, rfl⟩, by kernel_rfl⟩
instance : Siz Try.prog 47 1 := ⟨by kernel_rfl⟩
instance : Zer Try.prog 47 [.nilFunc] := ⟨.nilFunc, by kernel_rfl, rfl⟩
instance : One Try.prog 48 := ⟨⟨_, Try.underlying48, rfl⟩, by kernel_rfl⟩
instance : Siz Try.prog 48 1 := ⟨by kernel_rfl⟩
instance : Zer Try.prog 48 [.nilFunc] := ⟨.nilFunc, by kernel_rfl, rfl⟩
instance : One Try.prog 49 := ⟨⟨_, Try.underlying49, rfl⟩, by kernel_rfl⟩
instance : Siz Try.prog 49 1 := ⟨by kernel_rfl⟩
instance : Zer Try.prog 49 [.nilFunc] := ⟨.nilFunc, by kernel_rfl, rfl⟩
instance : One Try.prog 50 := ⟨⟨_, Try.underlying50, rfl⟩, by kernel_rfl⟩
instance : Siz Try.prog 50 1 := ⟨by kernel_rfl⟩
instance : Zer Try.prog 50 [.nilFunc] := ⟨.nilFunc, by kernel_rfl, rfl⟩
instance : One Try.prog 51 := ⟨⟨_, Try.underlying51, rfl⟩, by kernel_rfl⟩
instance : Siz Try.prog 51 1 := ⟨by kernel_rfl⟩
instance : Zer Try.prog 51 [.nilFunc] := ⟨.nilFunc, by kernel_rfl, rfl⟩
instance : One Try.prog 52 := ⟨⟨_, Try.underlying52, rfl⟩, by kernel_rfl⟩
instance : Siz Try.prog 52 1 := ⟨by kernel_rfl⟩
instance : Zer Try.prog 52 [.nilFunc] := ⟨.nilFunc, by kernel_rfl, rfl⟩
instance : One Try.prog 53 := ⟨⟨_, Try.underlying53, rfl⟩, by kernel_rfl⟩
instance : Siz Try.prog 53 1 := ⟨by kernel_rfl⟩
instance : Zer Try.prog 53 [.nilFunc] := ⟨.nilFunc, by kernel_rfl, rfl⟩
instance : Siz Try.prog 54 32 := ⟨by kernel_rfl⟩
instance : Agg Try.prog 54 := ⟨_, Try.underlying54, rfl⟩
instance : Arr8 Try.prog 54 32 := ⟨⟨_, _, Try.underlying54, Try.underlying5, rfl, rfl⟩, by kernel_rfl⟩
instance : Zer Try.prog 54 (u8s (zeros 32)) := ⟨.agg (u8s (zeros 32)).toArray, by kernel_rfl, rfl⟩
instance : Blt0 Try.prog 54 (u8s (zeros 32)) := ⟨by kernel_rfl⟩
instance : One Try.prog 55 := ⟨⟨_, Try.underlying55, rfl⟩, by kernel_rfl⟩
instance : Siz Try.prog 55 1 := ⟨by kernel_rfl⟩
instance : Zer Try.prog 55 [.int .i64 0] := ⟨(.int .i64 0), by kernel_rfl, rfl⟩
instance : One Try.prog 57 := ⟨⟨_, Try.underlying57, rfl⟩, by kernel_rfl⟩
instance : Siz Try.prog 57 1 := ⟨by kernel_rfl⟩
instance : Zer Try.prog 57 [.nilFunc] := ⟨.nilFunc, by kernel_rfl, rfl⟩
instance : One Try.prog 58 := ⟨⟨_, Try.underlying58, rfl⟩, by kernel_rfl⟩
instance : Siz Try.prog 58 1 := ⟨by kernel_rfl⟩
instance : Zer Try.prog 58 [.nilFunc] := ⟨.nilFunc, by kernel_rfl, rfl⟩
instance : One Try.prog 59 := ⟨⟨_, Try.underlying59, rfl⟩, by kernel_rfl⟩
instance : Siz Try.prog 59 1 := ⟨by kernel_rfl⟩
instance : Zer Try.prog 59 [.nilFunc] := ⟨.nilFunc, by kernel_rfl, rfl⟩
instance : One Try.prog 61 := ⟨⟨_, Try.underlying61, rfl⟩, by kernel_rfl⟩
instance : Siz Try.prog 61 1 := ⟨by kernel_rfl⟩
instance : Zer Try.prog 61 [.nilFunc] := ⟨.nilFunc, by kernel_rfl, rfl⟩
instance : One Try.prog 62 := ⟨⟨_, Try.underlying62, rfl⟩, by kernel_rfl⟩
instance : Siz Try.prog 62 1 := ⟨by kernel_rfl⟩
instance : Zer Try.prog 62 [.nilFunc] := ⟨.nilFunc, by kernel_rfl, rfl⟩
instance : One Try.prog 63 := ⟨⟨_, Try.underlying63, rfl⟩, by kernel_rfl⟩
instance : Siz Try.prog 63 1 := ⟨by kernel_rfl⟩
instance : Zer Try.prog 63 [.nilFunc] := ⟨.nilFunc, by kernel_rfl, rfl⟩
instance : One Try.prog 64 := ⟨⟨_, Try.underlying64, rfl⟩, by kernel_rfl⟩
instance : Siz Try.prog 64 1 := ⟨by kernel_rfl⟩
instance : Zer Try.prog 64 [.nilFunc] := ⟨.nilFunc, by kernel_rfl, rfl⟩
instance : One Try.prog 65 := ⟨⟨_, Try.underlying65, rfl⟩, by kernel_rfl⟩
instance : Siz Try.prog 65 1 := ⟨by kernel_rfl⟩
instance : Zer Try.prog 65 [.int .u64 0] := ⟨(.int .u64 0), by kernel_rfl, rfl⟩
instance : One Try.prog 66 := ⟨⟨_, Try.underlying66, rfl⟩, by kernel_rfl⟩
instance : Siz Try.prog 66 1 := ⟨by kernel_rfl⟩
instance : Zer Try.prog 66 [.nilFunc] := ⟨.nilFunc, by kernel_rfl, rfl⟩
instance : One Try.prog 67 := ⟨⟨_, Try.underlying67, rfl⟩, by kernel_rfl⟩
instance : Siz Try.prog 67 1 := ⟨by kernel_rfl⟩
instance : Zer Try.prog 67 [.nilFunc] := ⟨.nilFunc, by kernel_rfl, rfl⟩
instance : One Try.prog 68 := ⟨⟨_, Try.underlying68, rfl⟩, by kernel_rfl⟩
instance : Siz Try.prog 68 1 := ⟨by kernel_rfl⟩
instance : Zer Try.prog 68 [.nilFunc] := ⟨.nilFunc, by kernel_rfl, rfl⟩
instance : One Try.prog 69 := ⟨⟨_, Try.underlying69, rfl⟩, by kernel_rfl⟩
instance : Siz Try.prog 69 1 := ⟨by kernel_rfl⟩
instance : Zer Try.prog 69 [.int .u64 0] := ⟨(.int .u64 0), by kernel_rfl, rfl⟩
instance : One Try.prog 70 := ⟨⟨_, Try.underlying70, rfl⟩, by kernel_rfl⟩
instance : Siz Try.prog 70 1 := ⟨by kernel_rfl⟩
instance : Zer Try.prog 70 [.nilFunc] := ⟨.nilFunc, by kernel_rfl, rfl⟩
instance : One Try.prog 71 := ⟨⟨_, Try.underlying71, rfl⟩, by kernel_rfl⟩
instance : Siz Try.prog 71 1 := ⟨by kernel_rfl⟩
instance : Zer Try.prog 71 [.nilFunc] := ⟨.nilFunc, by kernel_rfl, rfl⟩
instance : One Try.prog 72 := ⟨⟨_, Try.underlying72, rfl⟩, by kernel_rfl⟩
instance : Siz Try.prog 72 1 := ⟨by kernel_rfl⟩
instance : Zer Try.prog 72 [.pointer none] := ⟨(.pointer none), by kernel_rfl, rfl⟩
instance : One Try.prog 73 := ⟨⟨_, Try.underlying73, rfl⟩, by kernel_rfl⟩
instance : Siz Try.prog 73 1 := ⟨by kernel_rfl⟩
instance : Zer Try.prog 73 [.nilFunc] := ⟨.nilFunc, by kernel_rfl, rfl⟩
instance : One Try.prog 74 := ⟨⟨_, Try.underlying74, rfl⟩, by kernel_rfl⟩
instance : Siz Try.prog 74 1 := ⟨by kernel_rfl⟩
instance : Zer Try.prog 74 [.slice none 0 0] := ⟨(.slice none 0 0), by kernel_rfl, rfl⟩
instance : Elm Try.prog 74 35 1 4 := elm_mk (z := (.int .u32 0)) Try.underlying74 (by kernel_rfl) (by kernel_rfl) (by decide)
instance : One Try.prog 75 := ⟨⟨_, Try.underlying75, rfl⟩, by kernel_rfl⟩
instance : Siz Try.prog 75 1 := ⟨by kernel_rfl⟩
instance : Zer Try.prog 75 [.nilFunc] := ⟨.nilFunc, by kernel_rfl, rfl⟩
instance : One Try.prog 76 := ⟨⟨_, Try.underlying76, rfl⟩, by kernel_rfl⟩
instance : Siz Try.prog 76 1 := ⟨by kernel_rfl⟩
instance : Zer Try.prog 76 [.nilFunc] := ⟨.nilFunc, by kernel_rfl, rfl⟩
instance : One Try.prog 77 := ⟨⟨_, Try.underlying77, rfl⟩, by kernel_rfl⟩
instance : Siz Try.prog 77 1 := ⟨by kernel_rfl⟩
instance : Zer Try.prog 77 [.nilFunc] := ⟨.nilFunc, by kernel_rfl, rfl⟩
instance : One Try.prog 78 := ⟨⟨_, Try.underlying78, rfl⟩, by kernel_rfl⟩
instance : Siz Try.prog 78 1 := ⟨by kernel_rfl⟩
instance : Zer Try.prog 78 [.nilFunc] := ⟨.nilFunc, by kernel_rfl, rfl⟩
instance : One Try.prog 79 := ⟨⟨_, Try.underlying79, rfl⟩, by kernel_rfl⟩
instance : Siz Try.prog 79 1 := ⟨by kernel_rfl⟩
instance : Zer Try.prog 79 [.nilFunc] := ⟨.nilFunc, by kernel_rfl, rfl⟩
instance : One Try.prog 80 := ⟨⟨_, Try.underlying80, rfl⟩, by kernel_rfl⟩
instance : Siz Try.prog 80 1 := ⟨by kernel_rfl⟩
instance : Zer Try.prog 80 [.nilFunc] := ⟨.nilFunc, by kernel_rfl, rfl⟩
instance : One Try.prog 81 := ⟨⟨_, Try.underlying81, rfl⟩, by kernel_rfl⟩
instance : Siz Try.prog 81 1 := ⟨by kernel_rfl⟩
instance : Zer Try.prog 81 [.nilFunc] := ⟨.nilFunc, by kernel_rfl, rfl⟩
instance : Siz Try.prog 82 4 := ⟨by kernel_rfl⟩
instance : Agg Try.prog 82 := ⟨_, Try.underlying82, rfl⟩
instance : Siz Try.prog 83 4 := ⟨by kernel_rfl⟩
instance : Agg Try.prog 83 := ⟨_, Try.underlying83, rfl⟩
instance : One Try.prog 87 := ⟨⟨_, Try.underlying87, rfl⟩, by kernel_rfl⟩
instance : Siz Try.prog 87 1 := ⟨by kernel_rfl⟩
instance : Zer Try.prog 87 [.nilFunc] := ⟨.nilFunc, by kernel_rfl, rfl⟩
instance : One Try.prog 88 := ⟨⟨_, Try.underlying88, rfl⟩, by kernel_rfl⟩
instance : Siz Try.prog 88 1 := ⟨by kernel_rfl⟩
instance : Zer Try.prog 88 [.int .u8 0] := ⟨(.int .u8 0), by kernel_rfl, rfl⟩
instance : One Try.prog 89 := ⟨⟨_, Try.underlying89, rfl⟩, by kernel_rfl⟩
instance : Siz Try.prog 89 1 := ⟨by kernel_rfl⟩
instance : Zer Try.prog 89 [.int .u8 0] := ⟨(.int .u8 0), by kernel_rfl, rfl⟩
instance : One Try.prog 90 := ⟨⟨_, Try.underlying90, rfl⟩, by kernel_rfl⟩
instance : Siz Try.prog 90 1 := ⟨by kernel_rfl⟩
instance : Zer Try.prog 90 [.nilFunc] := ⟨.nilFunc, by kernel_rfl, rfl⟩
instance : One Try.prog 91 := ⟨⟨_, Try.underlying91, rfl⟩, by kernel_rfl⟩
instance : Siz Try.prog 91 1 := ⟨by kernel_rfl⟩
instance : Zer Try.prog 91 [.pointer none] := ⟨(.pointer none), by kernel_rfl, rfl⟩
instance : One Try.prog 92 := ⟨⟨_, Try.underlying92, rfl⟩, by kernel_rfl⟩
instance : Siz Try.prog 92 1 := ⟨by kernel_rfl⟩
instance : Zer Try.prog 92 [.int .i32 0] := ⟨(.int .i32 0), by kernel_rfl, rfl⟩
instance : One Try.prog 93 := ⟨⟨_, Try.underlying93, rfl⟩, by kernel_rfl⟩
instance : Siz Try.prog 93 1 := ⟨by kernel_rfl⟩
instance : Zer Try.prog 93 [.int .i32 0] := ⟨(.int .i32 0), by kernel_rfl, rfl⟩
instance : Siz Try.prog 94 11 := ⟨by kernel_rfl⟩
instance : Agg Try.prog 94 := ⟨_, Try.underlying94, rfl⟩
instance : Siz Try.prog 95 11 := ⟨by kernel_rfl⟩
instance : Agg Try.prog 95 := ⟨_, Try.underlying95, rfl⟩
instance : One Try.prog 96 := ⟨⟨_, Try.underlying96, rfl⟩, by kernel_rfl⟩
instance : Siz Try.prog 96 1 := ⟨by kernel_rfl⟩
instance : Zer Try.prog 96 [.pointer none] := ⟨(.pointer none), by kernel_rfl, rfl⟩
end Go.Proofs.Ytjmjdffnakojpaa
