/- First texts on the program, laid one behind the other; no condition. -/
import Derived.Test.YtcmgjoamfjijhaaCB2
import Derived.Test.YtcmgjoamfjijhaaProg
import Derived.WalkMore
import Derived.Laws.Cover3
namespace Go.Proofs.Ytcmgjoamfjijhaa
open Go.RowKit
set_option linter.unusedVariables false
set_option linter.unusedSimpArgs false

theorem cell_mid {pre suf l : List Value} {v : Value} {i : Nat} (e : l = pre ++ v :: suf) (hp : pre.length = i) : Cell l i v := ⟨by rw [e, List.getElem?_append_right (by omega), hp, Nat.sub_self]; rfl⟩
theorem put1_mid {pre suf l l' : List Value} {u v : Value} {i : Nat} (e : l = pre ++ u :: suf) (hp : pre.length = i) (e' : l' = pre ++ v :: suf) : Put1 l i v l' := ⟨by rw [e, e', List.set_append_right _ _ (by omega), hp, Nat.sub_self]; rfl, by rw [e]; simp; omega⟩
theorem part_mid {pre xs suf l : List Value} {off n : Nat} (e : l = pre ++ (xs ++ suf)) (hp : pre.length = off) (hx : xs.length = n) : Part l off n xs := ⟨by rw [e, List.drop_left' hp, List.take_left' hx], by rw [e]; simp; omega⟩
theorem putN_mid {pre xs suf l ys l' : List Value} {off n : Nat} (e : l = pre ++ (xs ++ suf)) (hp : pre.length = off) (hx : xs.length = n) (hy : ys.length = n) (e' : l' = pre ++ (ys ++ suf)) : PutN l off ys l' :=
  ⟨by rw [e, e', List.take_left' hp, ← List.append_assoc pre xs suf, List.drop_left' (by rw [List.length_append]; omega), List.append_assoc], by rw [e]; simp; omega⟩
theorem elm_mk {P : Program} {t e : TypeId} {z : Value} {sz bytes : Nat} (hu : P.underlying t = some (.slice e)) (h : (P.info? e).map (fun i => (i.zero, i.size, i.bytes)) = some (some z, sz, bytes)) (hz : z.cells.size = sz) (hp : 0 < sz) : Elm P t e sz bytes :=
  ⟨hu, by
    obtain ⟨i, hi, h1, h2, h3⟩ := info_parts h
    exact ⟨i, z, hi, h1, h2, h3, hz⟩, hp⟩

/-- The cells of a tabulariumref07.Suite. -/
def c_tabulariumref07_Suite (Mode_ : Value) (Tape_ : Value) (rows_ : Value) (A_ : Value) (B_ : Value) (Clash_ : Value) : List Value := ([Mode_, Tape_, rows_, A_, B_, Clash_])
instance c_tabulariumref07_Suite.row (Mode_ : Value) (Tape_ : Value) (rows_ : Value) (A_ : Value) (B_ : Value) (Clash_ : Value)  [v0 : OneV Mode_] [v1 : OneV Tape_] [v2 : OneV rows_] [v3 : OneV A_] [v4 : OneV B_] [v5 : OneV Clash_] : Row (c_tabulariumref07_Suite Mode_ Tape_ rows_ A_ B_ Clash_) 6 := Row.mk' (by simp only [c_tabulariumref07_Suite, List.length_append, List.length_cons, List.length_nil]) (by
  intro u hu
  simp only [c_tabulariumref07_Suite, List.mem_append, List.mem_cons, List.not_mem_nil, or_false, or_assoc] at hu
  rcases hu with hu | hu | hu | hu | hu | hu
  all_goals first | (subst hu; exact v0.one) | (subst hu; exact v1.one) | (subst hu; exact v2.one) | (subst hu; exact v3.one) | (subst hu; exact v4.one) | (subst hu; exact v5.one)) (by omega)
instance c_tabulariumref07_Suite.p_Mode (Mode_ : Value) (Tape_ : Value) (rows_ : Value) (A_ : Value) (B_ : Value) (Clash_ : Value)  : Cell (c_tabulariumref07_Suite Mode_ Tape_ rows_ A_ B_ Clash_) 0 Mode_ := cell_mid (pre := ([] : List Value)) (suf := ([Tape_, rows_, A_, B_, Clash_])) (by simp [c_tabulariumref07_Suite]) (by simp)
instance c_tabulariumref07_Suite.s_Mode (Mode_ : Value) (Tape_ : Value) (rows_ : Value) (A_ : Value) (B_ : Value) (Clash_ : Value) (new : Value)  : Put1 (c_tabulariumref07_Suite Mode_ Tape_ rows_ A_ B_ Clash_) 0 new (c_tabulariumref07_Suite new Tape_ rows_ A_ B_ Clash_) := put1_mid (pre := ([] : List Value)) (u := Mode_) (suf := ([Tape_, rows_, A_, B_, Clash_])) (by simp [c_tabulariumref07_Suite]) (by simp) (by simp [c_tabulariumref07_Suite])
instance c_tabulariumref07_Suite.p_Tape (Mode_ : Value) (Tape_ : Value) (rows_ : Value) (A_ : Value) (B_ : Value) (Clash_ : Value)  : Cell (c_tabulariumref07_Suite Mode_ Tape_ rows_ A_ B_ Clash_) 1 Tape_ := cell_mid (pre := ([Mode_])) (suf := ([rows_, A_, B_, Clash_])) (by simp [c_tabulariumref07_Suite]) (by simp)
instance c_tabulariumref07_Suite.s_Tape (Mode_ : Value) (Tape_ : Value) (rows_ : Value) (A_ : Value) (B_ : Value) (Clash_ : Value) (new : Value)  : Put1 (c_tabulariumref07_Suite Mode_ Tape_ rows_ A_ B_ Clash_) 1 new (c_tabulariumref07_Suite Mode_ new rows_ A_ B_ Clash_) := put1_mid (pre := ([Mode_])) (u := Tape_) (suf := ([rows_, A_, B_, Clash_])) (by simp [c_tabulariumref07_Suite]) (by simp) (by simp [c_tabulariumref07_Suite])
instance c_tabulariumref07_Suite.p_rows (Mode_ : Value) (Tape_ : Value) (rows_ : Value) (A_ : Value) (B_ : Value) (Clash_ : Value)  : Cell (c_tabulariumref07_Suite Mode_ Tape_ rows_ A_ B_ Clash_) 2 rows_ := cell_mid (pre := ([Mode_, Tape_])) (suf := ([A_, B_, Clash_])) (by simp [c_tabulariumref07_Suite]) (by simp)
instance c_tabulariumref07_Suite.s_rows (Mode_ : Value) (Tape_ : Value) (rows_ : Value) (A_ : Value) (B_ : Value) (Clash_ : Value) (new : Value)  : Put1 (c_tabulariumref07_Suite Mode_ Tape_ rows_ A_ B_ Clash_) 2 new (c_tabulariumref07_Suite Mode_ Tape_ new A_ B_ Clash_) := put1_mid (pre := ([Mode_, Tape_])) (u := rows_) (suf := ([A_, B_, Clash_])) (by simp [c_tabulariumref07_Suite]) (by simp) (by simp [c_tabulariumref07_Suite])
instance c_tabulariumref07_Suite.p_A (Mode_ : Value) (Tape_ : Value) (rows_ : Value) (A_ : Value) (B_ : Value) (Clash_ : Value)  : Cell (c_tabulariumref07_Suite Mode_ Tape_ rows_ A_ B_ Clash_) 3 A_ := cell_mid (pre := ([Mode_, Tape_, rows_])) (suf := ([B_, Clash_])) (by simp [c_tabulariumref07_Suite]) (by simp)
instance c_tabulariumref07_Suite.s_A (Mode_ : Value) (Tape_ : Value) (rows_ : Value) (A_ : Value) (B_ : Value) (Clash_ : Value) (new : Value)  : Put1 (c_tabulariumref07_Suite Mode_ Tape_ rows_ A_ B_ Clash_) 3 new (c_tabulariumref07_Suite Mode_ Tape_ rows_ new B_ Clash_) := put1_mid (pre := ([Mode_, Tape_, rows_])) (u := A_) (suf := ([B_, Clash_])) (by simp [c_tabulariumref07_Suite]) (by simp) (by simp [c_tabulariumref07_Suite])
instance c_tabulariumref07_Suite.p_B (Mode_ : Value) (Tape_ : Value) (rows_ : Value) (A_ : Value) (B_ : Value) (Clash_ : Value)  : Cell (c_tabulariumref07_Suite Mode_ Tape_ rows_ A_ B_ Clash_) 4 B_ := cell_mid (pre := ([Mode_, Tape_, rows_, A_])) (suf := ([Clash_])) (by simp [c_tabulariumref07_Suite]) (by simp)
instance c_tabulariumref07_Suite.s_B (Mode_ : Value) (Tape_ : Value) (rows_ : Value) (A_ : Value) (B_ : Value) (Clash_ : Value) (new : Value)  : Put1 (c_tabulariumref07_Suite Mode_ Tape_ rows_ A_ B_ Clash_) 4 new (c_tabulariumref07_Suite Mode_ Tape_ rows_ A_ new Clash_) := put1_mid (pre := ([Mode_, Tape_, rows_, A_])) (u := B_) (suf := ([Clash_])) (by simp [c_tabulariumref07_Suite]) (by simp) (by simp [c_tabulariumref07_Suite])
instance c_tabulariumref07_Suite.p_Clash (Mode_ : Value) (Tape_ : Value) (rows_ : Value) (A_ : Value) (B_ : Value) (Clash_ : Value)  : Cell (c_tabulariumref07_Suite Mode_ Tape_ rows_ A_ B_ Clash_) 5 Clash_ := cell_mid (pre := ([Mode_, Tape_, rows_, A_, B_])) (suf := ([] : List Value)) (by simp [c_tabulariumref07_Suite]) (by simp)
instance c_tabulariumref07_Suite.s_Clash (Mode_ : Value) (Tape_ : Value) (rows_ : Value) (A_ : Value) (B_ : Value) (Clash_ : Value) (new : Value)  : Put1 (c_tabulariumref07_Suite Mode_ Tape_ rows_ A_ B_ Clash_) 5 new (c_tabulariumref07_Suite Mode_ Tape_ rows_ A_ B_ new) := put1_mid (pre := ([Mode_, Tape_, rows_, A_, B_])) (u := Clash_) (suf := ([] : List Value)) (by simp [c_tabulariumref07_Suite]) (by simp) (by simp [c_tabulariumref07_Suite])

/-- The cells of a api.Envelope. -/
def c_api_Envelope (Kind_ : Value) (Realm_ : Value) (Epoch_ : Value) (Links_ : Value) (Body_ : Value) : List Value := ([Kind_, Realm_, Epoch_, Links_, Body_])
instance c_api_Envelope.row (Kind_ : Value) (Realm_ : Value) (Epoch_ : Value) (Links_ : Value) (Body_ : Value)  [v0 : OneV Kind_] [v1 : OneV Realm_] [v2 : OneV Epoch_] [v3 : OneV Links_] [v4 : OneV Body_] : Row (c_api_Envelope Kind_ Realm_ Epoch_ Links_ Body_) 5 := Row.mk' (by simp only [c_api_Envelope, List.length_append, List.length_cons, List.length_nil]) (by
  intro u hu
  simp only [c_api_Envelope, List.mem_append, List.mem_cons, List.not_mem_nil, or_false, or_assoc] at hu
  rcases hu with hu | hu | hu | hu | hu
  all_goals first | (subst hu; exact v0.one) | (subst hu; exact v1.one) | (subst hu; exact v2.one) | (subst hu; exact v3.one) | (subst hu; exact v4.one)) (by omega)
instance c_api_Envelope.p_Kind (Kind_ : Value) (Realm_ : Value) (Epoch_ : Value) (Links_ : Value) (Body_ : Value)  : Cell (c_api_Envelope Kind_ Realm_ Epoch_ Links_ Body_) 0 Kind_ := cell_mid (pre := ([] : List Value)) (suf := ([Realm_, Epoch_, Links_, Body_])) (by simp [c_api_Envelope]) (by simp)
instance c_api_Envelope.s_Kind (Kind_ : Value) (Realm_ : Value) (Epoch_ : Value) (Links_ : Value) (Body_ : Value) (new : Value)  : Put1 (c_api_Envelope Kind_ Realm_ Epoch_ Links_ Body_) 0 new (c_api_Envelope new Realm_ Epoch_ Links_ Body_) := put1_mid (pre := ([] : List Value)) (u := Kind_) (suf := ([Realm_, Epoch_, Links_, Body_])) (by simp [c_api_Envelope]) (by simp) (by simp [c_api_Envelope])
instance c_api_Envelope.p_Realm (Kind_ : Value) (Realm_ : Value) (Epoch_ : Value) (Links_ : Value) (Body_ : Value)  : Cell (c_api_Envelope Kind_ Realm_ Epoch_ Links_ Body_) 1 Realm_ := cell_mid (pre := ([Kind_])) (suf := ([Epoch_, Links_, Body_])) (by simp [c_api_Envelope]) (by simp)
instance c_api_Envelope.s_Realm (Kind_ : Value) (Realm_ : Value) (Epoch_ : Value) (Links_ : Value) (Body_ : Value) (new : Value)  : Put1 (c_api_Envelope Kind_ Realm_ Epoch_ Links_ Body_) 1 new (c_api_Envelope Kind_ new Epoch_ Links_ Body_) := put1_mid (pre := ([Kind_])) (u := Realm_) (suf := ([Epoch_, Links_, Body_])) (by simp [c_api_Envelope]) (by simp) (by simp [c_api_Envelope])
instance c_api_Envelope.p_Epoch (Kind_ : Value) (Realm_ : Value) (Epoch_ : Value) (Links_ : Value) (Body_ : Value)  : Cell (c_api_Envelope Kind_ Realm_ Epoch_ Links_ Body_) 2 Epoch_ := cell_mid (pre := ([Kind_, Realm_])) (suf := ([Links_, Body_])) (by simp [c_api_Envelope]) (by simp)
instance c_api_Envelope.s_Epoch (Kind_ : Value) (Realm_ : Value) (Epoch_ : Value) (Links_ : Value) (Body_ : Value) (new : Value)  : Put1 (c_api_Envelope Kind_ Realm_ Epoch_ Links_ Body_) 2 new (c_api_Envelope Kind_ Realm_ new Links_ Body_) := put1_mid (pre := ([Kind_, Realm_])) (u := Epoch_) (suf := ([Links_, Body_])) (by simp [c_api_Envelope]) (by simp) (by simp [c_api_Envelope])
instance c_api_Envelope.p_Links (Kind_ : Value) (Realm_ : Value) (Epoch_ : Value) (Links_ : Value) (Body_ : Value)  : Cell (c_api_Envelope Kind_ Realm_ Epoch_ Links_ Body_) 3 Links_ := cell_mid (pre := ([Kind_, Realm_, Epoch_])) (suf := ([Body_])) (by simp [c_api_Envelope]) (by simp)
instance c_api_Envelope.s_Links (Kind_ : Value) (Realm_ : Value) (Epoch_ : Value) (Links_ : Value) (Body_ : Value) (new : Value)  : Put1 (c_api_Envelope Kind_ Realm_ Epoch_ Links_ Body_) 3 new (c_api_Envelope Kind_ Realm_ Epoch_ new Body_) := put1_mid (pre := ([Kind_, Realm_, Epoch_])) (u := Links_) (suf := ([Body_])) (by simp [c_api_Envelope]) (by simp) (by simp [c_api_Envelope])
instance c_api_Envelope.p_Body (Kind_ : Value) (Realm_ : Value) (Epoch_ : Value) (Links_ : Value) (Body_ : Value)  : Cell (c_api_Envelope Kind_ Realm_ Epoch_ Links_ Body_) 4 Body_ := cell_mid (pre := ([Kind_, Realm_, Epoch_, Links_])) (suf := ([] : List Value)) (by simp [c_api_Envelope]) (by simp)
instance c_api_Envelope.s_Body (Kind_ : Value) (Realm_ : Value) (Epoch_ : Value) (Links_ : Value) (Body_ : Value) (new : Value)  : Put1 (c_api_Envelope Kind_ Realm_ Epoch_ Links_ Body_) 4 new (c_api_Envelope Kind_ Realm_ Epoch_ Links_ new) := put1_mid (pre := ([Kind_, Realm_, Epoch_, Links_])) (u := Body_) (suf := ([] : List Value)) (by simp [c_api_Envelope]) (by simp) (by simp [c_api_Envelope])

/-- The cells of a suite.Suite. -/
def c_suite_Suite (mode_ : Value) (tape_ : Value) (answers_ : Value) (plains_ : Value) (texts_ : Value) (doubles_ : Value) (clash_ : List Value) (clashed_ : Value) (made_ : Value) : List Value := ([mode_, tape_, answers_, plains_, texts_, doubles_] ++ (clash_ ++ ([clashed_, made_])))
instance c_suite_Suite.row (mode_ : Value) (tape_ : Value) (answers_ : Value) (plains_ : Value) (texts_ : Value) (doubles_ : Value) (clash_ : List Value) (clashed_ : Value) (made_ : Value) [r6 : Row clash_ 2] [v0 : OneV mode_] [v1 : OneV tape_] [v2 : OneV answers_] [v3 : OneV plains_] [v4 : OneV texts_] [v5 : OneV doubles_] [v7 : OneV clashed_] [v8 : OneV made_] : Row (c_suite_Suite mode_ tape_ answers_ plains_ texts_ doubles_ clash_ clashed_ made_) 10 := Row.mk' (by simp only [c_suite_Suite, List.length_append, List.length_cons, List.length_nil, r6.len]) (by
  intro u hu
  simp only [c_suite_Suite, List.mem_append, List.mem_cons, List.not_mem_nil, or_false, or_assoc] at hu
  rcases hu with hu | hu | hu | hu | hu | hu | hu | hu | hu
  all_goals first | (subst hu; exact v0.one) | (subst hu; exact v1.one) | (subst hu; exact v2.one) | (subst hu; exact v3.one) | (subst hu; exact v4.one) | (subst hu; exact v5.one) | (exact r6.one u hu) | (subst hu; exact v7.one) | (subst hu; exact v8.one)) (by omega)
instance c_suite_Suite.p_mode (mode_ : Value) (tape_ : Value) (answers_ : Value) (plains_ : Value) (texts_ : Value) (doubles_ : Value) (clash_ : List Value) (clashed_ : Value) (made_ : Value) [r6 : Row clash_ 2] : Cell (c_suite_Suite mode_ tape_ answers_ plains_ texts_ doubles_ clash_ clashed_ made_) 0 mode_ := cell_mid (pre := ([] : List Value)) (suf := ([tape_, answers_, plains_, texts_, doubles_] ++ (clash_ ++ ([clashed_, made_])))) (by simp [c_suite_Suite]) (by simp [r6.len])
instance c_suite_Suite.s_mode (mode_ : Value) (tape_ : Value) (answers_ : Value) (plains_ : Value) (texts_ : Value) (doubles_ : Value) (clash_ : List Value) (clashed_ : Value) (made_ : Value) (new : Value) [r6 : Row clash_ 2] : Put1 (c_suite_Suite mode_ tape_ answers_ plains_ texts_ doubles_ clash_ clashed_ made_) 0 new (c_suite_Suite new tape_ answers_ plains_ texts_ doubles_ clash_ clashed_ made_) := put1_mid (pre := ([] : List Value)) (u := mode_) (suf := ([tape_, answers_, plains_, texts_, doubles_] ++ (clash_ ++ ([clashed_, made_])))) (by simp [c_suite_Suite]) (by simp [r6.len]) (by simp [c_suite_Suite])
instance c_suite_Suite.p_tape (mode_ : Value) (tape_ : Value) (answers_ : Value) (plains_ : Value) (texts_ : Value) (doubles_ : Value) (clash_ : List Value) (clashed_ : Value) (made_ : Value) [r6 : Row clash_ 2] : Cell (c_suite_Suite mode_ tape_ answers_ plains_ texts_ doubles_ clash_ clashed_ made_) 1 tape_ := cell_mid (pre := ([mode_])) (suf := ([answers_, plains_, texts_, doubles_] ++ (clash_ ++ ([clashed_, made_])))) (by simp [c_suite_Suite]) (by simp [r6.len])
instance c_suite_Suite.s_tape (mode_ : Value) (tape_ : Value) (answers_ : Value) (plains_ : Value) (texts_ : Value) (doubles_ : Value) (clash_ : List Value) (clashed_ : Value) (made_ : Value) (new : Value) [r6 : Row clash_ 2] : Put1 (c_suite_Suite mode_ tape_ answers_ plains_ texts_ doubles_ clash_ clashed_ made_) 1 new (c_suite_Suite mode_ new answers_ plains_ texts_ doubles_ clash_ clashed_ made_) := put1_mid (pre := ([mode_])) (u := tape_) (suf := ([answers_, plains_, texts_, doubles_] ++ (clash_ ++ ([clashed_, made_])))) (by simp [c_suite_Suite]) (by simp [r6.len]) (by simp [c_suite_Suite])
instance c_suite_Suite.p_answers (mode_ : Value) (tape_ : Value) (answers_ : Value) (plains_ : Value) (texts_ : Value) (doubles_ : Value) (clash_ : List Value) (clashed_ : Value) (made_ : Value) [r6 : Row clash_ 2] : Cell (c_suite_Suite mode_ tape_ answers_ plains_ texts_ doubles_ clash_ clashed_ made_) 2 answers_ := cell_mid (pre := ([mode_, tape_])) (suf := ([plains_, texts_, doubles_] ++ (clash_ ++ ([clashed_, made_])))) (by simp [c_suite_Suite]) (by simp [r6.len])
instance c_suite_Suite.s_answers (mode_ : Value) (tape_ : Value) (answers_ : Value) (plains_ : Value) (texts_ : Value) (doubles_ : Value) (clash_ : List Value) (clashed_ : Value) (made_ : Value) (new : Value) [r6 : Row clash_ 2] : Put1 (c_suite_Suite mode_ tape_ answers_ plains_ texts_ doubles_ clash_ clashed_ made_) 2 new (c_suite_Suite mode_ tape_ new plains_ texts_ doubles_ clash_ clashed_ made_) := put1_mid (pre := ([mode_, tape_])) (u := answers_) (suf := ([plains_, texts_, doubles_] ++ (clash_ ++ ([clashed_, made_])))) (by simp [c_suite_Suite]) (by simp [r6.len]) (by simp [c_suite_Suite])
instance c_suite_Suite.p_plains (mode_ : Value) (tape_ : Value) (answers_ : Value) (plains_ : Value) (texts_ : Value) (doubles_ : Value) (clash_ : List Value) (clashed_ : Value) (made_ : Value) [r6 : Row clash_ 2] : Cell (c_suite_Suite mode_ tape_ answers_ plains_ texts_ doubles_ clash_ clashed_ made_) 3 plains_ := cell_mid (pre := ([mode_, tape_, answers_])) (suf := ([texts_, doubles_] ++ (clash_ ++ ([clashed_, made_])))) (by simp [c_suite_Suite]) (by simp [r6.len])
instance c_suite_Suite.s_plains (mode_ : Value) (tape_ : Value) (answers_ : Value) (plains_ : Value) (texts_ : Value) (doubles_ : Value) (clash_ : List Value) (clashed_ : Value) (made_ : Value) (new : Value) [r6 : Row clash_ 2] : Put1 (c_suite_Suite mode_ tape_ answers_ plains_ texts_ doubles_ clash_ clashed_ made_) 3 new (c_suite_Suite mode_ tape_ answers_ new texts_ doubles_ clash_ clashed_ made_) := put1_mid (pre := ([mode_, tape_, answers_])) (u := plains_) (suf := ([texts_, doubles_] ++ (clash_ ++ ([clashed_, made_])))) (by simp [c_suite_Suite]) (by simp [r6.len]) (by simp [c_suite_Suite])
instance c_suite_Suite.p_texts (mode_ : Value) (tape_ : Value) (answers_ : Value) (plains_ : Value) (texts_ : Value) (doubles_ : Value) (clash_ : List Value) (clashed_ : Value) (made_ : Value) [r6 : Row clash_ 2] : Cell (c_suite_Suite mode_ tape_ answers_ plains_ texts_ doubles_ clash_ clashed_ made_) 4 texts_ := cell_mid (pre := ([mode_, tape_, answers_, plains_])) (suf := ([doubles_] ++ (clash_ ++ ([clashed_, made_])))) (by simp [c_suite_Suite]) (by simp [r6.len])
instance c_suite_Suite.s_texts (mode_ : Value) (tape_ : Value) (answers_ : Value) (plains_ : Value) (texts_ : Value) (doubles_ : Value) (clash_ : List Value) (clashed_ : Value) (made_ : Value) (new : Value) [r6 : Row clash_ 2] : Put1 (c_suite_Suite mode_ tape_ answers_ plains_ texts_ doubles_ clash_ clashed_ made_) 4 new (c_suite_Suite mode_ tape_ answers_ plains_ new doubles_ clash_ clashed_ made_) := put1_mid (pre := ([mode_, tape_, answers_, plains_])) (u := texts_) (suf := ([doubles_] ++ (clash_ ++ ([clashed_, made_])))) (by simp [c_suite_Suite]) (by simp [r6.len]) (by simp [c_suite_Suite])
instance c_suite_Suite.p_doubles (mode_ : Value) (tape_ : Value) (answers_ : Value) (plains_ : Value) (texts_ : Value) (doubles_ : Value) (clash_ : List Value) (clashed_ : Value) (made_ : Value) [r6 : Row clash_ 2] : Cell (c_suite_Suite mode_ tape_ answers_ plains_ texts_ doubles_ clash_ clashed_ made_) 5 doubles_ := cell_mid (pre := ([mode_, tape_, answers_, plains_, texts_])) (suf := (clash_ ++ ([clashed_, made_]))) (by simp [c_suite_Suite]) (by simp [r6.len])
instance c_suite_Suite.s_doubles (mode_ : Value) (tape_ : Value) (answers_ : Value) (plains_ : Value) (texts_ : Value) (doubles_ : Value) (clash_ : List Value) (clashed_ : Value) (made_ : Value) (new : Value) [r6 : Row clash_ 2] : Put1 (c_suite_Suite mode_ tape_ answers_ plains_ texts_ doubles_ clash_ clashed_ made_) 5 new (c_suite_Suite mode_ tape_ answers_ plains_ texts_ new clash_ clashed_ made_) := put1_mid (pre := ([mode_, tape_, answers_, plains_, texts_])) (u := doubles_) (suf := (clash_ ++ ([clashed_, made_]))) (by simp [c_suite_Suite]) (by simp [r6.len]) (by simp [c_suite_Suite])
instance c_suite_Suite.p_clash (mode_ : Value) (tape_ : Value) (answers_ : Value) (plains_ : Value) (texts_ : Value) (doubles_ : Value) (clash_ : List Value) (clashed_ : Value) (made_ : Value) [r6 : Row clash_ 2] : Part (c_suite_Suite mode_ tape_ answers_ plains_ texts_ doubles_ clash_ clashed_ made_) 6 2 clash_ := part_mid (pre := ([mode_, tape_, answers_, plains_, texts_, doubles_])) (suf := ([clashed_, made_])) (by simp [c_suite_Suite]) (by simp [r6.len]) r6.len
instance c_suite_Suite.s_clash (mode_ : Value) (tape_ : Value) (answers_ : Value) (plains_ : Value) (texts_ : Value) (doubles_ : Value) (clash_ : List Value) (clashed_ : Value) (made_ : Value) (new : List Value) [r6 : Row clash_ 2] [rn : Row new 2] : PutN (c_suite_Suite mode_ tape_ answers_ plains_ texts_ doubles_ clash_ clashed_ made_) 6 new (c_suite_Suite mode_ tape_ answers_ plains_ texts_ doubles_ new clashed_ made_) := putN_mid (pre := ([mode_, tape_, answers_, plains_, texts_, doubles_])) (suf := ([clashed_, made_])) (by simp [c_suite_Suite]) (by simp [r6.len]) r6.len rn.len (by simp [c_suite_Suite])
instance c_suite_Suite.p_clashed (mode_ : Value) (tape_ : Value) (answers_ : Value) (plains_ : Value) (texts_ : Value) (doubles_ : Value) (clash_ : List Value) (clashed_ : Value) (made_ : Value) [r6 : Row clash_ 2] : Cell (c_suite_Suite mode_ tape_ answers_ plains_ texts_ doubles_ clash_ clashed_ made_) 8 clashed_ := cell_mid (pre := ([mode_, tape_, answers_, plains_, texts_, doubles_] ++ (clash_))) (suf := ([made_])) (by simp [c_suite_Suite]) (by simp [r6.len])
instance c_suite_Suite.s_clashed (mode_ : Value) (tape_ : Value) (answers_ : Value) (plains_ : Value) (texts_ : Value) (doubles_ : Value) (clash_ : List Value) (clashed_ : Value) (made_ : Value) (new : Value) [r6 : Row clash_ 2] : Put1 (c_suite_Suite mode_ tape_ answers_ plains_ texts_ doubles_ clash_ clashed_ made_) 8 new (c_suite_Suite mode_ tape_ answers_ plains_ texts_ doubles_ clash_ new made_) := put1_mid (pre := ([mode_, tape_, answers_, plains_, texts_, doubles_] ++ (clash_))) (u := clashed_) (suf := ([made_])) (by simp [c_suite_Suite]) (by simp [r6.len]) (by simp [c_suite_Suite])
instance c_suite_Suite.p_made (mode_ : Value) (tape_ : Value) (answers_ : Value) (plains_ : Value) (texts_ : Value) (doubles_ : Value) (clash_ : List Value) (clashed_ : Value) (made_ : Value) [r6 : Row clash_ 2] : Cell (c_suite_Suite mode_ tape_ answers_ plains_ texts_ doubles_ clash_ clashed_ made_) 9 made_ := cell_mid (pre := ([mode_, tape_, answers_, plains_, texts_, doubles_] ++ (clash_ ++ ([clashed_])))) (suf := ([] : List Value)) (by simp [c_suite_Suite]) (by simp [r6.len])
instance c_suite_Suite.s_made (mode_ : Value) (tape_ : Value) (answers_ : Value) (plains_ : Value) (texts_ : Value) (doubles_ : Value) (clash_ : List Value) (clashed_ : Value) (made_ : Value) (new : Value) [r6 : Row clash_ 2] : Put1 (c_suite_Suite mode_ tape_ answers_ plains_ texts_ doubles_ clash_ clashed_ made_) 9 new (c_suite_Suite mode_ tape_ answers_ plains_ texts_ doubles_ clash_ clashed_ new) := put1_mid (pre := ([mode_, tape_, answers_, plains_, texts_, doubles_] ++ (clash_ ++ ([clashed_])))) (u := made_) (suf := ([] : List Value)) (by simp [c_suite_Suite]) (by simp [r6.len]) (by simp [c_suite_Suite])

/-- The cells of a tape.Tape. -/
def c_tape_Tape (b_ : Value) : List Value := ([b_])
instance c_tape_Tape.row (b_ : Value)  [v0 : OneV b_] : Row (c_tape_Tape b_) 1 := Row.mk' (by simp only [c_tape_Tape, List.length_append, List.length_cons, List.length_nil]) (by
  intro u hu
  simp only [c_tape_Tape, List.mem_append, List.mem_cons, List.not_mem_nil, or_false] at hu
  first | (subst hu; exact v0.one)) (by omega)
instance c_tape_Tape.p_b (b_ : Value)  : Cell (c_tape_Tape b_) 0 b_ := cell_mid (pre := ([] : List Value)) (suf := ([] : List Value)) (by simp [c_tape_Tape]) (by simp)
instance c_tape_Tape.s_b (b_ : Value) (new : Value)  : Put1 (c_tape_Tape b_) 0 new (c_tape_Tape new) := put1_mid (pre := ([] : List Value)) (u := b_) (suf := ([] : List Value)) (by simp [c_tape_Tape]) (by simp) (by simp [c_tape_Tape])

/-- The cells of a suite.cipher. -/
def c_suite_cipher (n_ : Value) (e_ : Value) (m_ : Value) : List Value := ([n_, e_, m_])
instance c_suite_cipher.row (n_ : Value) (e_ : Value) (m_ : Value)  [v0 : OneV n_] [v1 : OneV e_] [v2 : OneV m_] : Row (c_suite_cipher n_ e_ m_) 3 := Row.mk' (by simp only [c_suite_cipher, List.length_append, List.length_cons, List.length_nil]) (by
  intro u hu
  simp only [c_suite_cipher, List.mem_append, List.mem_cons, List.not_mem_nil, or_false, or_assoc] at hu
  rcases hu with hu | hu | hu
  all_goals first | (subst hu; exact v0.one) | (subst hu; exact v1.one) | (subst hu; exact v2.one)) (by omega)
instance c_suite_cipher.p_n (n_ : Value) (e_ : Value) (m_ : Value)  : Cell (c_suite_cipher n_ e_ m_) 0 n_ := cell_mid (pre := ([] : List Value)) (suf := ([e_, m_])) (by simp [c_suite_cipher]) (by simp)
instance c_suite_cipher.s_n (n_ : Value) (e_ : Value) (m_ : Value) (new : Value)  : Put1 (c_suite_cipher n_ e_ m_) 0 new (c_suite_cipher new e_ m_) := put1_mid (pre := ([] : List Value)) (u := n_) (suf := ([e_, m_])) (by simp [c_suite_cipher]) (by simp) (by simp [c_suite_cipher])
instance c_suite_cipher.p_e (n_ : Value) (e_ : Value) (m_ : Value)  : Cell (c_suite_cipher n_ e_ m_) 1 e_ := cell_mid (pre := ([n_])) (suf := ([m_])) (by simp [c_suite_cipher]) (by simp)
instance c_suite_cipher.s_e (n_ : Value) (e_ : Value) (m_ : Value) (new : Value)  : Put1 (c_suite_cipher n_ e_ m_) 1 new (c_suite_cipher n_ new m_) := put1_mid (pre := ([n_])) (u := e_) (suf := ([m_])) (by simp [c_suite_cipher]) (by simp) (by simp [c_suite_cipher])
instance c_suite_cipher.p_m (n_ : Value) (e_ : Value) (m_ : Value)  : Cell (c_suite_cipher n_ e_ m_) 2 m_ := cell_mid (pre := ([n_, e_])) (suf := ([] : List Value)) (by simp [c_suite_cipher]) (by simp)
instance c_suite_cipher.s_m (n_ : Value) (e_ : Value) (m_ : Value) (new : Value)  : Put1 (c_suite_cipher n_ e_ m_) 2 new (c_suite_cipher n_ e_ new) := put1_mid (pre := ([n_, e_])) (u := m_) (suf := ([] : List Value)) (by simp [c_suite_cipher]) (by simp) (by simp [c_suite_cipher])

/-- The cells of a suite.ask. -/
def c_suite_ask (kind_ : Value) (key_ : List Value) (label_ : Value) (in_ : Value) : List Value := ([kind_] ++ (key_ ++ ([label_, in_])))
instance c_suite_ask.row (kind_ : Value) (key_ : List Value) (label_ : Value) (in_ : Value) [r1 : Row key_ 32] [v0 : OneV kind_] [v2 : OneV label_] [v3 : OneV in_] : Row (c_suite_ask kind_ key_ label_ in_) 35 := Row.mk' (by simp only [c_suite_ask, List.length_append, List.length_cons, List.length_nil, r1.len]) (by
  intro u hu
  simp only [c_suite_ask, List.mem_append, List.mem_cons, List.not_mem_nil, or_false, or_assoc] at hu
  rcases hu with hu | hu | hu | hu
  all_goals first | (subst hu; exact v0.one) | (exact r1.one u hu) | (subst hu; exact v2.one) | (subst hu; exact v3.one)) (by omega)
instance c_suite_ask.p_kind (kind_ : Value) (key_ : List Value) (label_ : Value) (in_ : Value) [r1 : Row key_ 32] : Cell (c_suite_ask kind_ key_ label_ in_) 0 kind_ := cell_mid (pre := ([] : List Value)) (suf := (key_ ++ ([label_, in_]))) (by simp [c_suite_ask]) (by simp [r1.len])
instance c_suite_ask.s_kind (kind_ : Value) (key_ : List Value) (label_ : Value) (in_ : Value) (new : Value) [r1 : Row key_ 32] : Put1 (c_suite_ask kind_ key_ label_ in_) 0 new (c_suite_ask new key_ label_ in_) := put1_mid (pre := ([] : List Value)) (u := kind_) (suf := (key_ ++ ([label_, in_]))) (by simp [c_suite_ask]) (by simp [r1.len]) (by simp [c_suite_ask])
instance c_suite_ask.p_key (kind_ : Value) (key_ : List Value) (label_ : Value) (in_ : Value) [r1 : Row key_ 32] : Part (c_suite_ask kind_ key_ label_ in_) 1 32 key_ := part_mid (pre := ([kind_])) (suf := ([label_, in_])) (by simp [c_suite_ask]) (by simp [r1.len]) r1.len
instance c_suite_ask.s_key (kind_ : Value) (key_ : List Value) (label_ : Value) (in_ : Value) (new : List Value) [r1 : Row key_ 32] [rn : Row new 32] : PutN (c_suite_ask kind_ key_ label_ in_) 1 new (c_suite_ask kind_ new label_ in_) := putN_mid (pre := ([kind_])) (suf := ([label_, in_])) (by simp [c_suite_ask]) (by simp [r1.len]) r1.len rn.len (by simp [c_suite_ask])
instance c_suite_ask.p_label (kind_ : Value) (key_ : List Value) (label_ : Value) (in_ : Value) [r1 : Row key_ 32] : Cell (c_suite_ask kind_ key_ label_ in_) 33 label_ := cell_mid (pre := ([kind_] ++ (key_))) (suf := ([in_])) (by simp [c_suite_ask]) (by simp [r1.len])
instance c_suite_ask.s_label (kind_ : Value) (key_ : List Value) (label_ : Value) (in_ : Value) (new : Value) [r1 : Row key_ 32] : Put1 (c_suite_ask kind_ key_ label_ in_) 33 new (c_suite_ask kind_ key_ new in_) := put1_mid (pre := ([kind_] ++ (key_))) (u := label_) (suf := ([in_])) (by simp [c_suite_ask]) (by simp [r1.len]) (by simp [c_suite_ask])
instance c_suite_ask.p_in (kind_ : Value) (key_ : List Value) (label_ : Value) (in_ : Value) [r1 : Row key_ 32] : Cell (c_suite_ask kind_ key_ label_ in_) 34 in_ := cell_mid (pre := ([kind_] ++ (key_ ++ ([label_])))) (suf := ([] : List Value)) (by simp [c_suite_ask]) (by simp [r1.len])
instance c_suite_ask.s_in (kind_ : Value) (key_ : List Value) (label_ : Value) (in_ : Value) (new : Value) [r1 : Row key_ 32] : Put1 (c_suite_ask kind_ key_ label_ in_) 34 new (c_suite_ask kind_ key_ label_ new) := put1_mid (pre := ([kind_] ++ (key_ ++ ([label_])))) (u := in_) (suf := ([] : List Value)) (by simp [c_suite_ask]) (by simp [r1.len]) (by simp [c_suite_ask])

/-- The cells of a suite.given. -/
def c_suite_given (key_ : List Value) (label_ : Value) (out_ : Value) : List Value := (key_ ++ ([label_, out_]))
instance c_suite_given.row (key_ : List Value) (label_ : Value) (out_ : Value) [r0 : Row key_ 32] [v1 : OneV label_] [v2 : OneV out_] : Row (c_suite_given key_ label_ out_) 34 := Row.mk' (by simp only [c_suite_given, List.length_append, List.length_cons, List.length_nil, r0.len]) (by
  intro u hu
  simp only [c_suite_given, List.mem_append, List.mem_cons, List.not_mem_nil, or_false, or_assoc] at hu
  rcases hu with hu | hu | hu
  all_goals first | (exact r0.one u hu) | (subst hu; exact v1.one) | (subst hu; exact v2.one)) (by omega)
instance c_suite_given.p_key (key_ : List Value) (label_ : Value) (out_ : Value) [r0 : Row key_ 32] : Part (c_suite_given key_ label_ out_) 0 32 key_ := part_mid (pre := ([] : List Value)) (suf := ([label_, out_])) (by simp [c_suite_given]) (by simp [r0.len]) r0.len
instance c_suite_given.s_key (key_ : List Value) (label_ : Value) (out_ : Value) (new : List Value) [r0 : Row key_ 32] [rn : Row new 32] : PutN (c_suite_given key_ label_ out_) 0 new (c_suite_given new label_ out_) := putN_mid (pre := ([] : List Value)) (suf := ([label_, out_])) (by simp [c_suite_given]) (by simp [r0.len]) r0.len rn.len (by simp [c_suite_given])
instance c_suite_given.p_label (key_ : List Value) (label_ : Value) (out_ : Value) [r0 : Row key_ 32] : Cell (c_suite_given key_ label_ out_) 32 label_ := cell_mid (pre := (key_)) (suf := ([out_])) (by simp [c_suite_given]) (by simp [r0.len])
instance c_suite_given.s_label (key_ : List Value) (label_ : Value) (out_ : Value) (new : Value) [r0 : Row key_ 32] : Put1 (c_suite_given key_ label_ out_) 32 new (c_suite_given key_ new out_) := put1_mid (pre := (key_)) (u := label_) (suf := ([out_])) (by simp [c_suite_given]) (by simp [r0.len]) (by simp [c_suite_given])
instance c_suite_given.p_out (key_ : List Value) (label_ : Value) (out_ : Value) [r0 : Row key_ 32] : Cell (c_suite_given key_ label_ out_) 33 out_ := cell_mid (pre := (key_ ++ ([label_]))) (suf := ([] : List Value)) (by simp [c_suite_given]) (by simp [r0.len])
instance c_suite_given.s_out (key_ : List Value) (label_ : Value) (out_ : Value) (new : Value) [r0 : Row key_ 32] : Put1 (c_suite_given key_ label_ out_) 33 new (c_suite_given key_ label_ new) := put1_mid (pre := (key_ ++ ([label_]))) (u := out_) (suf := ([] : List Value)) (by simp [c_suite_given]) (by simp [r0.len]) (by simp [c_suite_given])

/-- The cells of a tabulariumref07.row. -/
def c_tabulariumref07_row (kind_ : Value) (k_ : List Value) (label_ : Value) (in_ : Value) (out_ : Value) : List Value := ([kind_] ++ (k_ ++ ([label_, in_, out_])))
instance c_tabulariumref07_row.row (kind_ : Value) (k_ : List Value) (label_ : Value) (in_ : Value) (out_ : Value) [r1 : Row k_ 32] [v0 : OneV kind_] [v2 : OneV label_] [v3 : OneV in_] [v4 : OneV out_] : Row (c_tabulariumref07_row kind_ k_ label_ in_ out_) 36 := Row.mk' (by simp only [c_tabulariumref07_row, List.length_append, List.length_cons, List.length_nil, r1.len]) (by
  intro u hu
  simp only [c_tabulariumref07_row, List.mem_append, List.mem_cons, List.not_mem_nil, or_false, or_assoc] at hu
  rcases hu with hu | hu | hu | hu | hu
  all_goals first | (subst hu; exact v0.one) | (exact r1.one u hu) | (subst hu; exact v2.one) | (subst hu; exact v3.one) | (subst hu; exact v4.one)) (by omega)
instance c_tabulariumref07_row.p_kind (kind_ : Value) (k_ : List Value) (label_ : Value) (in_ : Value) (out_ : Value) [r1 : Row k_ 32] : Cell (c_tabulariumref07_row kind_ k_ label_ in_ out_) 0 kind_ := cell_mid (pre := ([] : List Value)) (suf := (k_ ++ ([label_, in_, out_]))) (by simp [c_tabulariumref07_row]) (by simp [r1.len])
instance c_tabulariumref07_row.s_kind (kind_ : Value) (k_ : List Value) (label_ : Value) (in_ : Value) (out_ : Value) (new : Value) [r1 : Row k_ 32] : Put1 (c_tabulariumref07_row kind_ k_ label_ in_ out_) 0 new (c_tabulariumref07_row new k_ label_ in_ out_) := put1_mid (pre := ([] : List Value)) (u := kind_) (suf := (k_ ++ ([label_, in_, out_]))) (by simp [c_tabulariumref07_row]) (by simp [r1.len]) (by simp [c_tabulariumref07_row])
instance c_tabulariumref07_row.p_k (kind_ : Value) (k_ : List Value) (label_ : Value) (in_ : Value) (out_ : Value) [r1 : Row k_ 32] : Part (c_tabulariumref07_row kind_ k_ label_ in_ out_) 1 32 k_ := part_mid (pre := ([kind_])) (suf := ([label_, in_, out_])) (by simp [c_tabulariumref07_row]) (by simp [r1.len]) r1.len
instance c_tabulariumref07_row.s_k (kind_ : Value) (k_ : List Value) (label_ : Value) (in_ : Value) (out_ : Value) (new : List Value) [r1 : Row k_ 32] [rn : Row new 32] : PutN (c_tabulariumref07_row kind_ k_ label_ in_ out_) 1 new (c_tabulariumref07_row kind_ new label_ in_ out_) := putN_mid (pre := ([kind_])) (suf := ([label_, in_, out_])) (by simp [c_tabulariumref07_row]) (by simp [r1.len]) r1.len rn.len (by simp [c_tabulariumref07_row])
instance c_tabulariumref07_row.p_label (kind_ : Value) (k_ : List Value) (label_ : Value) (in_ : Value) (out_ : Value) [r1 : Row k_ 32] : Cell (c_tabulariumref07_row kind_ k_ label_ in_ out_) 33 label_ := cell_mid (pre := ([kind_] ++ (k_))) (suf := ([in_, out_])) (by simp [c_tabulariumref07_row]) (by simp [r1.len])
instance c_tabulariumref07_row.s_label (kind_ : Value) (k_ : List Value) (label_ : Value) (in_ : Value) (out_ : Value) (new : Value) [r1 : Row k_ 32] : Put1 (c_tabulariumref07_row kind_ k_ label_ in_ out_) 33 new (c_tabulariumref07_row kind_ k_ new in_ out_) := put1_mid (pre := ([kind_] ++ (k_))) (u := label_) (suf := ([in_, out_])) (by simp [c_tabulariumref07_row]) (by simp [r1.len]) (by simp [c_tabulariumref07_row])
instance c_tabulariumref07_row.p_in (kind_ : Value) (k_ : List Value) (label_ : Value) (in_ : Value) (out_ : Value) [r1 : Row k_ 32] : Cell (c_tabulariumref07_row kind_ k_ label_ in_ out_) 34 in_ := cell_mid (pre := ([kind_] ++ (k_ ++ ([label_])))) (suf := ([out_])) (by simp [c_tabulariumref07_row]) (by simp [r1.len])
instance c_tabulariumref07_row.s_in (kind_ : Value) (k_ : List Value) (label_ : Value) (in_ : Value) (out_ : Value) (new : Value) [r1 : Row k_ 32] : Put1 (c_tabulariumref07_row kind_ k_ label_ in_ out_) 34 new (c_tabulariumref07_row kind_ k_ label_ new out_) := put1_mid (pre := ([kind_] ++ (k_ ++ ([label_])))) (u := in_) (suf := ([out_])) (by simp [c_tabulariumref07_row]) (by simp [r1.len]) (by simp [c_tabulariumref07_row])
instance c_tabulariumref07_row.p_out (kind_ : Value) (k_ : List Value) (label_ : Value) (in_ : Value) (out_ : Value) [r1 : Row k_ 32] : Cell (c_tabulariumref07_row kind_ k_ label_ in_ out_) 35 out_ := cell_mid (pre := ([kind_] ++ (k_ ++ ([label_, in_])))) (suf := ([] : List Value)) (by simp [c_tabulariumref07_row]) (by simp [r1.len])
instance c_tabulariumref07_row.s_out (kind_ : Value) (k_ : List Value) (label_ : Value) (in_ : Value) (out_ : Value) (new : Value) [r1 : Row k_ 32] : Put1 (c_tabulariumref07_row kind_ k_ label_ in_ out_) 35 new (c_tabulariumref07_row kind_ k_ label_ in_ new) := put1_mid (pre := ([kind_] ++ (k_ ++ ([label_, in_])))) (u := out_) (suf := ([] : List Value)) (by simp [c_tabulariumref07_row]) (by simp [r1.len]) (by simp [c_tabulariumref07_row])

/-- The cells of a sha.Running. -/
def c_sha_Running (h_ : List Value) (some_ : Value) (n_ : Value) (made_ : Value) : List Value := (h_ ++ ([some_, n_, made_]))
instance c_sha_Running.row (h_ : List Value) (some_ : Value) (n_ : Value) (made_ : Value) [r0 : Row h_ 8] [v1 : OneV some_] [v2 : OneV n_] [v3 : OneV made_] : Row (c_sha_Running h_ some_ n_ made_) 11 := Row.mk' (by simp only [c_sha_Running, List.length_append, List.length_cons, List.length_nil, r0.len]) (by
  intro u hu
  simp only [c_sha_Running, List.mem_append, List.mem_cons, List.not_mem_nil, or_false, or_assoc] at hu
  rcases hu with hu | hu | hu | hu
  all_goals first | (exact r0.one u hu) | (subst hu; exact v1.one) | (subst hu; exact v2.one) | (subst hu; exact v3.one)) (by omega)
instance c_sha_Running.p_h (h_ : List Value) (some_ : Value) (n_ : Value) (made_ : Value) [r0 : Row h_ 8] : Part (c_sha_Running h_ some_ n_ made_) 0 8 h_ := part_mid (pre := ([] : List Value)) (suf := ([some_, n_, made_])) (by simp [c_sha_Running]) (by simp [r0.len]) r0.len
instance c_sha_Running.s_h (h_ : List Value) (some_ : Value) (n_ : Value) (made_ : Value) (new : List Value) [r0 : Row h_ 8] [rn : Row new 8] : PutN (c_sha_Running h_ some_ n_ made_) 0 new (c_sha_Running new some_ n_ made_) := putN_mid (pre := ([] : List Value)) (suf := ([some_, n_, made_])) (by simp [c_sha_Running]) (by simp [r0.len]) r0.len rn.len (by simp [c_sha_Running])
instance c_sha_Running.p_some (h_ : List Value) (some_ : Value) (n_ : Value) (made_ : Value) [r0 : Row h_ 8] : Cell (c_sha_Running h_ some_ n_ made_) 8 some_ := cell_mid (pre := (h_)) (suf := ([n_, made_])) (by simp [c_sha_Running]) (by simp [r0.len])
instance c_sha_Running.s_some (h_ : List Value) (some_ : Value) (n_ : Value) (made_ : Value) (new : Value) [r0 : Row h_ 8] : Put1 (c_sha_Running h_ some_ n_ made_) 8 new (c_sha_Running h_ new n_ made_) := put1_mid (pre := (h_)) (u := some_) (suf := ([n_, made_])) (by simp [c_sha_Running]) (by simp [r0.len]) (by simp [c_sha_Running])
instance c_sha_Running.p_n (h_ : List Value) (some_ : Value) (n_ : Value) (made_ : Value) [r0 : Row h_ 8] : Cell (c_sha_Running h_ some_ n_ made_) 9 n_ := cell_mid (pre := (h_ ++ ([some_]))) (suf := ([made_])) (by simp [c_sha_Running]) (by simp [r0.len])
instance c_sha_Running.s_n (h_ : List Value) (some_ : Value) (n_ : Value) (made_ : Value) (new : Value) [r0 : Row h_ 8] : Put1 (c_sha_Running h_ some_ n_ made_) 9 new (c_sha_Running h_ some_ new made_) := put1_mid (pre := (h_ ++ ([some_]))) (u := n_) (suf := ([made_])) (by simp [c_sha_Running]) (by simp [r0.len]) (by simp [c_sha_Running])
instance c_sha_Running.p_made (h_ : List Value) (some_ : Value) (n_ : Value) (made_ : Value) [r0 : Row h_ 8] : Cell (c_sha_Running h_ some_ n_ made_) 10 made_ := cell_mid (pre := (h_ ++ ([some_, n_]))) (suf := ([] : List Value)) (by simp [c_sha_Running]) (by simp [r0.len])
instance c_sha_Running.s_made (h_ : List Value) (some_ : Value) (n_ : Value) (made_ : Value) (new : Value) [r0 : Row h_ 8] : Put1 (c_sha_Running h_ some_ n_ made_) 10 new (c_sha_Running h_ some_ n_ new) := put1_mid (pre := (h_ ++ ([some_, n_]))) (u := made_) (suf := ([] : List Value)) (by simp [c_sha_Running]) (by simp [r0.len]) (by simp [c_sha_Running])

/-- The cells of a codec.Writer. -/
def c_codec_Writer (b_ : Value) : List Value := ([b_])
instance c_codec_Writer.row (b_ : Value)  [v0 : OneV b_] : Row (c_codec_Writer b_) 1 := Row.mk' (by simp only [c_codec_Writer, List.length_append, List.length_cons, List.length_nil]) (by
  intro u hu
  simp only [c_codec_Writer, List.mem_append, List.mem_cons, List.not_mem_nil, or_false] at hu
  first | (subst hu; exact v0.one)) (by omega)
instance c_codec_Writer.p_b (b_ : Value)  : Cell (c_codec_Writer b_) 0 b_ := cell_mid (pre := ([] : List Value)) (suf := ([] : List Value)) (by simp [c_codec_Writer]) (by simp)
instance c_codec_Writer.s_b (b_ : Value) (new : Value)  : Put1 (c_codec_Writer b_) 0 new (c_codec_Writer new) := put1_mid (pre := ([] : List Value)) (u := b_) (suf := ([] : List Value)) (by simp [c_codec_Writer]) (by simp) (by simp [c_codec_Writer])

instance : One Try.prog 1 := ⟨⟨_, Try.underlying1, rfl⟩, by kernel_rfl⟩
instance : Siz Try.prog 1 1 := ⟨by kernel_rfl⟩
set_option maxRecDepth 100000 in
instance : Zer Try.prog 1 [.nilFunc] := ⟨.nilFunc, by kernel_rfl, rfl⟩
instance : One Try.prog 2 := ⟨⟨_, Try.underlying2, rfl⟩, by kernel_rfl⟩
instance : Siz Try.prog 2 1 := ⟨by kernel_rfl⟩
set_option maxRecDepth 100000 in
instance : Zer Try.prog 2 [.int .i64 0] := ⟨(.int .i64 0), by kernel_rfl, rfl⟩
instance : One Try.prog 3 := ⟨⟨_, Try.underlying3, rfl⟩, by kernel_rfl⟩
instance : Siz Try.prog 3 1 := ⟨by kernel_rfl⟩
set_option maxRecDepth 100000 in
instance : Zer Try.prog 3 [.int .i64 0] := ⟨(.int .i64 0), by kernel_rfl, rfl⟩
instance : One Try.prog 4 := ⟨⟨_, Try.underlying4, rfl⟩, by kernel_rfl⟩
instance : Siz Try.prog 4 1 := ⟨by kernel_rfl⟩
set_option maxRecDepth 100000 in
instance : Zer Try.prog 4 [.bool false] := ⟨(.bool false), by kernel_rfl, rfl⟩
instance : One Try.prog 5 := ⟨⟨_, Try.underlying5, rfl⟩, by kernel_rfl⟩
instance : Siz Try.prog 5 1 := ⟨by kernel_rfl⟩
set_option maxRecDepth 100000 in
instance : Zer Try.prog 5 [.int .u8 0] := ⟨(.int .u8 0), by kernel_rfl, rfl⟩
instance : One Try.prog 6 := ⟨⟨_, Try.underlying6, rfl⟩, by kernel_rfl⟩
instance : Siz Try.prog 6 1 := ⟨by kernel_rfl⟩
set_option maxRecDepth 100000 in
instance : Zer Try.prog 6 [.int .u8 0] := ⟨(.int .u8 0), by kernel_rfl, rfl⟩
instance : Siz Try.prog 7 4 := ⟨by kernel_rfl⟩
instance : Agg Try.prog 7 := ⟨_, Try.underlying7, rfl⟩
instance : Siz Try.prog 8 4 := ⟨by kernel_rfl⟩
instance : Agg Try.prog 8 := ⟨_, Try.underlying8, rfl⟩
instance : One Try.prog 9 := ⟨⟨_, Try.underlying9, rfl⟩, by kernel_rfl⟩
instance : Siz Try.prog 9 1 := ⟨by kernel_rfl⟩
set_option maxRecDepth 100000 in
instance : Zer Try.prog 9 [.string ByteArray.empty] := ⟨(.string ByteArray.empty), by kernel_rfl, rfl⟩
instance : One Try.prog 10 := ⟨⟨_, Try.underlying10, rfl⟩, by kernel_rfl⟩
instance : Siz Try.prog 10 1 := ⟨by kernel_rfl⟩
set_option maxRecDepth 100000 in
instance : Zer Try.prog 10 [.string ByteArray.empty] := ⟨(.string ByteArray.empty), by kernel_rfl, rfl⟩
instance : One Try.prog 11 := ⟨⟨_, Try.underlying11, rfl⟩, by kernel_rfl⟩
instance : Siz Try.prog 11 1 := ⟨by kernel_rfl⟩
set_option maxRecDepth 100000 in
instance : Zer Try.prog 11 [.string ByteArray.empty] := ⟨(.string ByteArray.empty), by kernel_rfl, rfl⟩
instance : One Try.prog 12 := ⟨⟨_, Try.underlying12, rfl⟩, by kernel_rfl⟩
instance : Siz Try.prog 12 1 := ⟨by kernel_rfl⟩
set_option maxRecDepth 100000 in
instance : Zer Try.prog 12 [.int .u64 0] := ⟨(.int .u64 0), by kernel_rfl, rfl⟩
instance : Siz Try.prog 13 2 := ⟨by kernel_rfl⟩
instance : Agg Try.prog 13 := ⟨_, Try.underlying13, rfl⟩
instance : Siz Try.prog 14 2 := ⟨by kernel_rfl⟩
instance : Agg Try.prog 14 := ⟨_, Try.underlying14, rfl⟩
instance : One Try.prog 15 := ⟨⟨_, Try.underlying15, rfl⟩, by kernel_rfl⟩
instance : Siz Try.prog 15 1 := ⟨by kernel_rfl⟩
set_option maxRecDepth 100000 in
instance : Zer Try.prog 15 [.pointer none] := ⟨(.pointer none), by kernel_rfl, rfl⟩
instance : One Try.prog 16 := ⟨⟨_, Try.underlying16, rfl⟩, by kernel_rfl⟩
instance : Siz Try.prog 16 1 := ⟨by kernel_rfl⟩
set_option maxRecDepth 100000 in
instance : Zer Try.prog 16 [.pointer none] := ⟨(.pointer none), by kernel_rfl, rfl⟩
instance : One Try.prog 17 := ⟨⟨_, Try.underlying17, rfl⟩, by kernel_rfl⟩
instance : Siz Try.prog 17 1 := ⟨by kernel_rfl⟩
set_option maxRecDepth 100000 in
instance : Zer Try.prog 17 [.pointer none] := ⟨(.pointer none), by kernel_rfl, rfl⟩
instance : Siz Try.prog 18 1 := ⟨by kernel_rfl⟩
instance : Agg Try.prog 18 := ⟨_, Try.underlying18, rfl⟩
instance : Siz Try.prog 19 1 := ⟨by kernel_rfl⟩
instance : Agg Try.prog 19 := ⟨_, Try.underlying19, rfl⟩
instance : One Try.prog 20 := ⟨⟨_, Try.underlying20, rfl⟩, by kernel_rfl⟩
instance : Siz Try.prog 20 1 := ⟨by kernel_rfl⟩
set_option maxRecDepth 100000 in
instance : Zer Try.prog 20 [.nilIface] := ⟨.nilIface, by kernel_rfl, rfl⟩
instance : One Try.prog 21 := ⟨⟨_, Try.underlying21, rfl⟩, by kernel_rfl⟩
instance : Siz Try.prog 21 1 := ⟨by kernel_rfl⟩
set_option maxRecDepth 100000 in
instance : Zer Try.prog 21 [.int .i32 0] := ⟨(.int .i32 0), by kernel_rfl, rfl⟩
instance : One Try.prog 22 := ⟨⟨_, Try.underlying22, rfl⟩, by kernel_rfl⟩
instance : Siz Try.prog 22 1 := ⟨by kernel_rfl⟩
set_option maxRecDepth 100000 in
instance : Zer Try.prog 22 [.nilFunc] := ⟨.nilFunc, by kernel_rfl, rfl⟩
instance : One Try.prog 23 := ⟨⟨_, Try.underlying23, rfl⟩, by kernel_rfl⟩
instance : Siz Try.prog 23 1 := ⟨by kernel_rfl⟩
set_option maxRecDepth 100000 in
instance : Zer Try.prog 23 [.pointer none] := ⟨(.pointer none), by kernel_rfl, rfl⟩
instance : One Try.prog 24 := ⟨⟨_, Try.underlying24, rfl⟩, by kernel_rfl⟩
instance : Siz Try.prog 24 1 := ⟨by kernel_rfl⟩
set_option maxRecDepth 100000 in
instance : Zer Try.prog 24 [.nilFunc] := ⟨.nilFunc, by kernel_rfl, rfl⟩
instance : One Try.prog 25 := ⟨⟨_, Try.underlying25, rfl⟩, by kernel_rfl⟩
instance : Siz Try.prog 25 1 := ⟨by kernel_rfl⟩
set_option maxRecDepth 100000 in
instance : Zer Try.prog 25 [.nilFunc] := ⟨.nilFunc, by kernel_rfl, rfl⟩
instance : One Try.prog 26 := ⟨⟨_, Try.underlying26, rfl⟩, by kernel_rfl⟩
instance : Siz Try.prog 26 1 := ⟨by kernel_rfl⟩
set_option maxRecDepth 100000 in
instance : Zer Try.prog 26 [.nilFunc] := ⟨.nilFunc, by kernel_rfl, rfl⟩
instance : One Try.prog 27 := ⟨⟨_, Try.underlying27, rfl⟩, by kernel_rfl⟩
instance : Siz Try.prog 27 1 := ⟨by kernel_rfl⟩
set_option maxRecDepth 100000 in
instance : Zer Try.prog 27 [.slice none 0 0] := ⟨(.slice none 0 0), by kernel_rfl, rfl⟩
instance : Elm Try.prog 27 5 1 1 := elm_mk (z := (.int .u8 0)) Try.underlying27 (by kernel_rfl) (by kernel_rfl) (by decide)
instance : Siz Try.prog 28 32 := ⟨by kernel_rfl⟩
instance : Agg Try.prog 28 := ⟨_, Try.underlying28, rfl⟩
set_option maxRecDepth 100000 in
instance : Arr8 Try.prog 28 32 := ⟨⟨_, _, Try.underlying28, Try.underlying5, rfl, rfl⟩, by kernel_rfl⟩
set_option maxRecDepth 100000 in
instance : Zer Try.prog 28 (u8s (zeros 32)) := ⟨.agg (u8s (zeros 32)).toArray, by kernel_rfl, rfl⟩
set_option maxRecDepth 100000 in
instance : Blt0 Try.prog 28 (u8s (zeros 32)) := ⟨by kernel_rfl⟩
instance : Siz Try.prog 29 32 := ⟨by kernel_rfl⟩
instance : Agg Try.prog 29 := ⟨_, Try.underlying29, rfl⟩
set_option maxRecDepth 100000 in
instance : Arr8 Try.prog 29 32 := ⟨⟨_, _, Try.underlying29, Try.underlying5, rfl, rfl⟩, by kernel_rfl⟩
set_option maxRecDepth 100000 in
instance : Zer Try.prog 29 (u8s (zeros 32)) := ⟨.agg (u8s (zeros 32)).toArray, by kernel_rfl, rfl⟩
set_option maxRecDepth 100000 in
instance : Blt0 Try.prog 29 (u8s (zeros 32)) := ⟨by kernel_rfl⟩
instance : One Try.prog 30 := ⟨⟨_, Try.underlying30, rfl⟩, by kernel_rfl⟩
instance : Siz Try.prog 30 1 := ⟨by kernel_rfl⟩
set_option maxRecDepth 100000 in
instance : Zer Try.prog 30 [.slice none 0 0] := ⟨(.slice none 0 0), by kernel_rfl, rfl⟩
instance : Elm Try.prog 30 27 1 24 := elm_mk (z := (.slice none 0 0)) Try.underlying30 (by kernel_rfl) (by kernel_rfl) (by decide)
instance : One Try.prog 31 := ⟨⟨_, Try.underlying31, rfl⟩, by kernel_rfl⟩
instance : Siz Try.prog 31 1 := ⟨by kernel_rfl⟩
set_option maxRecDepth 100000 in
instance : Zer Try.prog 31 [.pointer none] := ⟨(.pointer none), by kernel_rfl, rfl⟩
instance : One Try.prog 32 := ⟨⟨_, Try.underlying32, rfl⟩, by kernel_rfl⟩
instance : Siz Try.prog 32 1 := ⟨by kernel_rfl⟩
set_option maxRecDepth 100000 in
instance : Zer Try.prog 32 [.nilFunc] := ⟨.nilFunc, by kernel_rfl, rfl⟩
instance : One Try.prog 33 := ⟨⟨_, Try.underlying33, rfl⟩, by kernel_rfl⟩
instance : Siz Try.prog 33 1 := ⟨by kernel_rfl⟩
set_option maxRecDepth 100000 in
instance : Zer Try.prog 33 [.int .i64 0] := ⟨(.int .i64 0), by kernel_rfl, rfl⟩
instance : One Try.prog 35 := ⟨⟨_, Try.underlying35, rfl⟩, by kernel_rfl⟩
instance : Siz Try.prog 35 1 := ⟨by kernel_rfl⟩
set_option maxRecDepth 100000 in
instance : Zer Try.prog 35 [.nilFunc] := ⟨.nilFunc, by kernel_rfl, rfl⟩
instance : One Try.prog 36 := ⟨⟨_, Try.underlying36, rfl⟩, by kernel_rfl⟩
instance : Siz Try.prog 36 1 := ⟨by kernel_rfl⟩
set_option maxRecDepth 100000 in
instance : Zer Try.prog 36 [.nilFunc] := ⟨.nilFunc, by kernel_rfl, rfl⟩
instance : One Try.prog 37 := ⟨⟨_, Try.underlying37, rfl⟩, by kernel_rfl⟩
instance : Siz Try.prog 37 1 := ⟨by kernel_rfl⟩
set_option maxRecDepth 100000 in
instance : Zer Try.prog 37 [.pointer none] := ⟨(.pointer none), by kernel_rfl, rfl⟩
instance : One Try.prog 38 := ⟨⟨_, Try.underlying38, rfl⟩, by kernel_rfl⟩
instance : Siz Try.prog 38 1 := ⟨by kernel_rfl⟩
set_option maxRecDepth 100000 in
instance : Zer Try.prog 38 [.slice none 0 0] := ⟨(.slice none 0 0), by kernel_rfl, rfl⟩
instance : Elm Try.prog 38 92 36 112 := elm_mk (z := .agg (c_tabulariumref07_row (.int .i64 0) (u8s (zeros 32)) (.slice none 0 0) (.slice none 0 0) (.slice none 0 0)).toArray) Try.underlying38 (by kernel_rfl) (by kernel_rfl) (by decide)
instance : Siz Try.prog 39 6 := ⟨by kernel_rfl⟩
instance : Agg Try.prog 39 := ⟨_, Try.underlying39, rfl⟩
set_option maxRecDepth 100000 in
instance : Zer Try.prog 39 (c_tabulariumref07_Suite (.int .i64 0) (.slice none 0 0) (.slice none 0 0) (.slice none 0 0) (.slice none 0 0) (.bool false)) := ⟨.agg (c_tabulariumref07_Suite (.int .i64 0) (.slice none 0 0) (.slice none 0 0) (.slice none 0 0) (.slice none 0 0) (.bool false)).toArray, by kernel_rfl, rfl⟩
set_option maxRecDepth 100000 in
instance : Blt0 Try.prog 39 (c_tabulariumref07_Suite (.int .i64 0) (.slice none 0 0) (.slice none 0 0) (.slice none 0 0) (.slice none 0 0) (.bool false)) := ⟨by kernel_rfl⟩
set_option maxRecDepth 100000 in
instance : Places Try.prog 39 [(0, 1), (1, 1), (2, 1), (3, 1), (4, 1), (5, 1)] (c_tabulariumref07_Suite (.int .i64 0) (.slice none 0 0) (.slice none 0 0) (.slice none 0 0) (.slice none 0 0) (.bool false)) := ⟨fun parts => by kernel_rfl⟩
instance : Siz Try.prog 40 6 := ⟨by kernel_rfl⟩
instance : Agg Try.prog 40 := ⟨_, Try.underlying40, rfl⟩
set_option maxRecDepth 100000 in
instance : Zer Try.prog 40 (c_tabulariumref07_Suite (.int .i64 0) (.slice none 0 0) (.slice none 0 0) (.slice none 0 0) (.slice none 0 0) (.bool false)) := ⟨.agg (c_tabulariumref07_Suite (.int .i64 0) (.slice none 0 0) (.slice none 0 0) (.slice none 0 0) (.slice none 0 0) (.bool false)).toArray, by kernel_rfl, rfl⟩
set_option maxRecDepth 100000 in
instance : Blt0 Try.prog 40 (c_tabulariumref07_Suite (.int .i64 0) (.slice none 0 0) (.slice none 0 0) (.slice none 0 0) (.slice none 0 0) (.bool false)) := ⟨by kernel_rfl⟩
set_option maxRecDepth 100000 in
instance : Places Try.prog 40 [(0, 1), (1, 1), (2, 1), (3, 1), (4, 1), (5, 1)] (c_tabulariumref07_Suite (.int .i64 0) (.slice none 0 0) (.slice none 0 0) (.slice none 0 0) (.slice none 0 0) (.bool false)) := ⟨fun parts => by kernel_rfl⟩
instance : One Try.prog 42 := ⟨⟨_, Try.underlying42, rfl⟩, by kernel_rfl⟩
instance : Siz Try.prog 42 1 := ⟨by kernel_rfl⟩
set_option maxRecDepth 100000 in
instance : Zer Try.prog 42 [.nilFunc] := ⟨.nilFunc, by kernel_rfl, rfl⟩
instance : One Try.prog 43 := ⟨⟨_, Try.underlying43, rfl⟩, by kernel_rfl⟩
instance : Siz Try.prog 43 1 := ⟨by kernel_rfl⟩
set_option maxRecDepth 100000 in
instance : Zer Try.prog 43 [.nilFunc] := ⟨.nilFunc, by kernel_rfl, rfl⟩
instance : One Try.prog 44 := ⟨⟨_, Try.underlying44, rfl⟩, by kernel_rfl⟩
instance : Siz Try.prog 44 1 := ⟨by kernel_rfl⟩
set_option maxRecDepth 100000 in
instance : Zer Try.prog 44 [.int .u32 0] := ⟨(.int .u32 0), by kernel_rfl, rfl⟩
instance : One Try.prog 45 := ⟨⟨_, Try.underlying45, rfl⟩, by kernel_rfl⟩
instance : Siz Try.prog 45 1 := ⟨by kernel_rfl⟩
set_option maxRecDepth 100000 in
instance : Zer Try.prog 45 [.nilFunc] := ⟨.nilFunc, by kernel_rfl, rfl⟩
instance : One Try.prog 46 := ⟨⟨_, Try.underlying46, rfl⟩, by kernel_rfl⟩
instance : Siz Try.prog 46 1 := ⟨by kernel_rfl⟩
set_option maxRecDepth 100000 in
instance : Zer Try.prog 46 [.nilFunc] := ⟨.nilFunc, by kernel_rfl, rfl⟩
instance : One Try.prog 48 := ⟨⟨_, Try.underlying48, rfl⟩, by kernel_rfl⟩
instance : Siz Try.prog 48 1 := ⟨by kernel_rfl⟩
set_option maxRecDepth 100000 in
instance : Zer Try.prog 48 [.nilFunc] := ⟨.nilFunc, by kernel_rfl, rfl⟩
instance : Siz Try.prog 49 32 := ⟨by kernel_rfl⟩
instance : Agg Try.prog 49 := ⟨_, Try.underlying49, rfl⟩
set_option maxRecDepth 100000 in
instance : Arr8 Try.prog 49 32 := ⟨⟨_, _, Try.underlying49, Try.underlying5, rfl, rfl⟩, by kernel_rfl⟩
set_option maxRecDepth 100000 in
instance : Zer Try.prog 49 (u8s (zeros 32)) := ⟨.agg (u8s (zeros 32)).toArray, by kernel_rfl, rfl⟩
set_option maxRecDepth 100000 in
instance : Blt0 Try.prog 49 (u8s (zeros 32)) := ⟨by kernel_rfl⟩
instance : One Try.prog 51 := ⟨⟨_, Try.underlying51, rfl⟩, by kernel_rfl⟩
instance : Siz Try.prog 51 1 := ⟨by kernel_rfl⟩
set_option maxRecDepth 100000 in
instance : Zer Try.prog 51 [.nilFunc] := ⟨.nilFunc, by kernel_rfl, rfl⟩
instance : One Try.prog 52 := ⟨⟨_, Try.underlying52, rfl⟩, by kernel_rfl⟩
instance : Siz Try.prog 52 1 := ⟨by kernel_rfl⟩
set_option maxRecDepth 100000 in
instance : Zer Try.prog 52 [.nilFunc] := ⟨.nilFunc, by kernel_rfl, rfl⟩
instance : One Try.prog 53 := ⟨⟨_, Try.underlying53, rfl⟩, by kernel_rfl⟩
instance : Siz Try.prog 53 1 := ⟨by kernel_rfl⟩
set_option maxRecDepth 100000 in
instance : Zer Try.prog 53 [.nilFunc] := ⟨.nilFunc, by kernel_rfl, rfl⟩
instance : One Try.prog 54 := ⟨⟨_, Try.underlying54, rfl⟩, by kernel_rfl⟩
instance : Siz Try.prog 54 1 := ⟨by kernel_rfl⟩
set_option maxRecDepth 100000 in
instance : Zer Try.prog 54 [.nilFunc] := ⟨.nilFunc, by kernel_rfl, rfl⟩
instance : One Try.prog 55 := ⟨⟨_, Try.underlying55, rfl⟩, by kernel_rfl⟩
instance : Siz Try.prog 55 1 := ⟨by kernel_rfl⟩
set_option maxRecDepth 100000 in
instance : Zer Try.prog 55 [.nilFunc] := ⟨.nilFunc, by kernel_rfl, rfl⟩
instance : One Try.prog 56 := ⟨⟨_, Try.underlying56, rfl⟩, by kernel_rfl⟩
instance : Siz Try.prog 56 1 := ⟨by kernel_rfl⟩
set_option maxRecDepth 100000 in
instance : Zer Try.prog 56 [.nilFunc] := ⟨.nilFunc, by kernel_rfl, rfl⟩
instance : One Try.prog 58 := ⟨⟨_, Try.underlying58, rfl⟩, by kernel_rfl⟩
instance : Siz Try.prog 58 1 := ⟨by kernel_rfl⟩
set_option maxRecDepth 100000 in
instance : Zer Try.prog 58 [.nilFunc] := ⟨.nilFunc, by kernel_rfl, rfl⟩
instance : One Try.prog 59 := ⟨⟨_, Try.underlying59, rfl⟩, by kernel_rfl⟩
instance : Siz Try.prog 59 1 := ⟨by kernel_rfl⟩
set_option maxRecDepth 100000 in
instance : Zer Try.prog 59 [.nilFunc] := ⟨.nilFunc, by kernel_rfl, rfl⟩
instance : One Try.prog 60 := ⟨⟨_, Try.underlying60, rfl⟩, by kernel_rfl⟩
instance : Siz Try.prog 60 1 := ⟨by kernel_rfl⟩
set_option maxRecDepth 100000 in
instance : Zer Try.prog 60 [.slice none 0 0] := ⟨(.slice none 0 0), by kernel_rfl, rfl⟩
instance : Elm Try.prog 60 49 32 32 := elm_mk (z := .agg (u8s (zeros 32)).toArray) Try.underlying60 (by kernel_rfl) (by kernel_rfl) (by decide)
instance : Siz Try.prog 61 5 := ⟨by kernel_rfl⟩
instance : Agg Try.prog 61 := ⟨_, Try.underlying61, rfl⟩
set_option maxRecDepth 100000 in
instance : Zer Try.prog 61 (c_api_Envelope (.int .i64 0) (.int .u32 0) (.int .u32 0) (.slice none 0 0) (.slice none 0 0)) := ⟨.agg (c_api_Envelope (.int .i64 0) (.int .u32 0) (.int .u32 0) (.slice none 0 0) (.slice none 0 0)).toArray, by kernel_rfl, rfl⟩
set_option maxRecDepth 100000 in
instance : Blt0 Try.prog 61 (c_api_Envelope (.int .i64 0) (.int .u32 0) (.int .u32 0) (.slice none 0 0) (.slice none 0 0)) := ⟨by kernel_rfl⟩
set_option maxRecDepth 100000 in
instance : Places Try.prog 61 [(0, 1), (1, 1), (2, 1), (3, 1), (4, 1)] (c_api_Envelope (.int .i64 0) (.int .u32 0) (.int .u32 0) (.slice none 0 0) (.slice none 0 0)) := ⟨fun parts => by kernel_rfl⟩
instance : Siz Try.prog 62 5 := ⟨by kernel_rfl⟩
instance : Agg Try.prog 62 := ⟨_, Try.underlying62, rfl⟩
set_option maxRecDepth 100000 in
instance : Zer Try.prog 62 (c_api_Envelope (.int .i64 0) (.int .u32 0) (.int .u32 0) (.slice none 0 0) (.slice none 0 0)) := ⟨.agg (c_api_Envelope (.int .i64 0) (.int .u32 0) (.int .u32 0) (.slice none 0 0) (.slice none 0 0)).toArray, by kernel_rfl, rfl⟩
set_option maxRecDepth 100000 in
instance : Blt0 Try.prog 62 (c_api_Envelope (.int .i64 0) (.int .u32 0) (.int .u32 0) (.slice none 0 0) (.slice none 0 0)) := ⟨by kernel_rfl⟩
set_option maxRecDepth 100000 in
instance : Places Try.prog 62 [(0, 1), (1, 1), (2, 1), (3, 1), (4, 1)] (c_api_Envelope (.int .i64 0) (.int .u32 0) (.int .u32 0) (.slice none 0 0) (.slice none 0 0)) := ⟨fun parts => by kernel_rfl⟩
instance : One Try.prog 63 := ⟨⟨_, Try.underlying63, rfl⟩, by kernel_rfl⟩
instance : Siz Try.prog 63 1 := ⟨by kernel_rfl⟩
set_option maxRecDepth 100000 in
instance : Zer Try.prog 63 [.nilFunc] := ⟨.nilFunc, by kernel_rfl, rfl⟩
instance : One Try.prog 65 := ⟨⟨_, Try.underlying65, rfl⟩, by kernel_rfl⟩
instance : Siz Try.prog 65 1 := ⟨by kernel_rfl⟩
set_option maxRecDepth 100000 in
instance : Zer Try.prog 65 [.nilFunc] := ⟨.nilFunc, by kernel_rfl, rfl⟩
instance : One Try.prog 67 := ⟨⟨_, Try.underlying67, rfl⟩, by kernel_rfl⟩
instance : Siz Try.prog 67 1 := ⟨by kernel_rfl⟩
set_option maxRecDepth 100000 in
instance : Zer Try.prog 67 [.nilFunc] := ⟨.nilFunc, by kernel_rfl, rfl⟩
instance : One Try.prog 68 := ⟨⟨_, Try.underlying68, rfl⟩, by kernel_rfl⟩
instance : Siz Try.prog 68 1 := ⟨by kernel_rfl⟩
set_option maxRecDepth 100000 in
instance : Zer Try.prog 68 [.nilFunc] := ⟨.nilFunc, by kernel_rfl, rfl⟩
instance : One Try.prog 69 := ⟨⟨_, Try.underlying69, rfl⟩, by kernel_rfl⟩
instance : Siz Try.prog 69 1 := ⟨by kernel_rfl⟩
set_option maxRecDepth 100000 in
instance : Zer Try.prog 69 [.map none] := ⟨(.map none), by kernel_rfl, rfl⟩
instance : One Try.prog 70 := ⟨⟨_, Try.underlying70, rfl⟩, by kernel_rfl⟩
instance : Siz Try.prog 70 1 := ⟨by kernel_rfl⟩
set_option maxRecDepth 100000 in
instance : Zer Try.prog 70 [.map none] := ⟨(.map none), by kernel_rfl, rfl⟩
instance : One Try.prog 71 := ⟨⟨_, Try.underlying71, rfl⟩, by kernel_rfl⟩
instance : Siz Try.prog 71 1 := ⟨by kernel_rfl⟩
set_option maxRecDepth 100000 in
instance : Zer Try.prog 71 [.map none] := ⟨(.map none), by kernel_rfl, rfl⟩
instance : One Try.prog 72 := ⟨⟨_, Try.underlying72, rfl⟩, by kernel_rfl⟩
instance : Siz Try.prog 72 1 := ⟨by kernel_rfl⟩
set_option maxRecDepth 100000 in
instance : Zer Try.prog 72 [.map none] := ⟨(.map none), by kernel_rfl, rfl⟩
instance : Siz Try.prog 73 2 := ⟨by kernel_rfl⟩
instance : Agg Try.prog 73 := ⟨_, Try.underlying73, rfl⟩
set_option maxRecDepth 100000 in
instance : Zer Try.prog 73 (List.replicate 2 ((.slice none 0 0) : Value)) := ⟨.agg (List.replicate 2 ((.slice none 0 0) : Value)).toArray, by kernel_rfl, rfl⟩
set_option maxRecDepth 100000 in
instance : Blt0 Try.prog 73 (List.replicate 2 ((.slice none 0 0) : Value)) := ⟨by kernel_rfl⟩
instance : Siz Try.prog 74 10 := ⟨by kernel_rfl⟩
instance : Agg Try.prog 74 := ⟨_, Try.underlying74, rfl⟩
set_option maxRecDepth 100000 in
instance : Zer Try.prog 74 (c_suite_Suite (.int .i64 0) (.pointer none) (.map none) (.map none) (.map none) (.map none) (List.replicate 2 ((.slice none 0 0) : Value)) (.bool false) (.bool false)) := ⟨.agg (c_suite_Suite (.int .i64 0) (.pointer none) (.map none) (.map none) (.map none) (.map none) (List.replicate 2 ((.slice none 0 0) : Value)) (.bool false) (.bool false)).toArray, by kernel_rfl, rfl⟩
set_option maxRecDepth 100000 in
instance : Blt0 Try.prog 74 (c_suite_Suite (.int .i64 0) (.pointer none) (.map none) (.map none) (.map none) (.map none) (List.replicate 2 ((.slice none 0 0) : Value)) (.bool false) (.bool false)) := ⟨by kernel_rfl⟩
set_option maxRecDepth 100000 in
instance : Places Try.prog 74 [(0, 1), (1, 1), (2, 1), (3, 1), (4, 1), (5, 1), (6, 2), (8, 1), (9, 1)] (c_suite_Suite (.int .i64 0) (.pointer none) (.map none) (.map none) (.map none) (.map none) (List.replicate 2 ((.slice none 0 0) : Value)) (.bool false) (.bool false)) := ⟨fun parts => by kernel_rfl⟩
instance : Siz Try.prog 75 10 := ⟨by kernel_rfl⟩
instance : Agg Try.prog 75 := ⟨_, Try.underlying75, rfl⟩
set_option maxRecDepth 100000 in
instance : Zer Try.prog 75 (c_suite_Suite (.int .i64 0) (.pointer none) (.map none) (.map none) (.map none) (.map none) (List.replicate 2 ((.slice none 0 0) : Value)) (.bool false) (.bool false)) := ⟨.agg (c_suite_Suite (.int .i64 0) (.pointer none) (.map none) (.map none) (.map none) (.map none) (List.replicate 2 ((.slice none 0 0) : Value)) (.bool false) (.bool false)).toArray, by kernel_rfl, rfl⟩
set_option maxRecDepth 100000 in
instance : Blt0 Try.prog 75 (c_suite_Suite (.int .i64 0) (.pointer none) (.map none) (.map none) (.map none) (.map none) (List.replicate 2 ((.slice none 0 0) : Value)) (.bool false) (.bool false)) := ⟨by kernel_rfl⟩
set_option maxRecDepth 100000 in
instance : Places Try.prog 75 [(0, 1), (1, 1), (2, 1), (3, 1), (4, 1), (5, 1), (6, 2), (8, 1), (9, 1)] (c_suite_Suite (.int .i64 0) (.pointer none) (.map none) (.map none) (.map none) (.map none) (List.replicate 2 ((.slice none 0 0) : Value)) (.bool false) (.bool false)) := ⟨fun parts => by kernel_rfl⟩
instance : Siz Try.prog 76 1 := ⟨by kernel_rfl⟩
instance : Agg Try.prog 76 := ⟨_, Try.underlying76, rfl⟩
set_option maxRecDepth 100000 in
instance : Zer Try.prog 76 (c_tape_Tape (.slice none 0 0)) := ⟨.agg (c_tape_Tape (.slice none 0 0)).toArray, by kernel_rfl, rfl⟩
set_option maxRecDepth 100000 in
instance : Blt0 Try.prog 76 (c_tape_Tape (.slice none 0 0)) := ⟨by kernel_rfl⟩
set_option maxRecDepth 100000 in
instance : Places Try.prog 76 [(0, 1)] (c_tape_Tape (.slice none 0 0)) := ⟨fun parts => by kernel_rfl⟩
instance : Siz Try.prog 77 1 := ⟨by kernel_rfl⟩
instance : Agg Try.prog 77 := ⟨_, Try.underlying77, rfl⟩
set_option maxRecDepth 100000 in
instance : Zer Try.prog 77 (c_tape_Tape (.slice none 0 0)) := ⟨.agg (c_tape_Tape (.slice none 0 0)).toArray, by kernel_rfl, rfl⟩
set_option maxRecDepth 100000 in
instance : Blt0 Try.prog 77 (c_tape_Tape (.slice none 0 0)) := ⟨by kernel_rfl⟩
set_option maxRecDepth 100000 in
instance : Places Try.prog 77 [(0, 1)] (c_tape_Tape (.slice none 0 0)) := ⟨fun parts => by kernel_rfl⟩
instance : One Try.prog 78 := ⟨⟨_, Try.underlying78, rfl⟩, by kernel_rfl⟩
instance : Siz Try.prog 78 1 := ⟨by kernel_rfl⟩
set_option maxRecDepth 100000 in
instance : Zer Try.prog 78 [.nilFunc] := ⟨.nilFunc, by kernel_rfl, rfl⟩
instance : Siz Try.prog 79 3 := ⟨by kernel_rfl⟩
instance : Agg Try.prog 79 := ⟨_, Try.underlying79, rfl⟩
set_option maxRecDepth 100000 in
instance : Zer Try.prog 79 (c_suite_cipher (.slice none 0 0) (.slice none 0 0) (.slice none 0 0)) := ⟨.agg (c_suite_cipher (.slice none 0 0) (.slice none 0 0) (.slice none 0 0)).toArray, by kernel_rfl, rfl⟩
set_option maxRecDepth 100000 in
instance : Blt0 Try.prog 79 (c_suite_cipher (.slice none 0 0) (.slice none 0 0) (.slice none 0 0)) := ⟨by kernel_rfl⟩
set_option maxRecDepth 100000 in
instance : Places Try.prog 79 [(0, 1), (1, 1), (2, 1)] (c_suite_cipher (.slice none 0 0) (.slice none 0 0) (.slice none 0 0)) := ⟨fun parts => by kernel_rfl⟩
instance : Siz Try.prog 80 3 := ⟨by kernel_rfl⟩
instance : Agg Try.prog 80 := ⟨_, Try.underlying80, rfl⟩
set_option maxRecDepth 100000 in
instance : Zer Try.prog 80 (c_suite_cipher (.slice none 0 0) (.slice none 0 0) (.slice none 0 0)) := ⟨.agg (c_suite_cipher (.slice none 0 0) (.slice none 0 0) (.slice none 0 0)).toArray, by kernel_rfl, rfl⟩
set_option maxRecDepth 100000 in
instance : Blt0 Try.prog 80 (c_suite_cipher (.slice none 0 0) (.slice none 0 0) (.slice none 0 0)) := ⟨by kernel_rfl⟩
set_option maxRecDepth 100000 in
instance : Places Try.prog 80 [(0, 1), (1, 1), (2, 1)] (c_suite_cipher (.slice none 0 0) (.slice none 0 0) (.slice none 0 0)) := ⟨fun parts => by kernel_rfl⟩
instance : One Try.prog 81 := ⟨⟨_, Try.underlying81, rfl⟩, by kernel_rfl⟩
instance : Siz Try.prog 81 1 := ⟨by kernel_rfl⟩
set_option maxRecDepth 100000 in
instance : Zer Try.prog 81 [.nilFunc] := ⟨.nilFunc, by kernel_rfl, rfl⟩
instance : One Try.prog 82 := ⟨⟨_, Try.underlying82, rfl⟩, by kernel_rfl⟩
instance : Siz Try.prog 82 1 := ⟨by kernel_rfl⟩
set_option maxRecDepth 100000 in
instance : Zer Try.prog 82 [.nilFunc] := ⟨.nilFunc, by kernel_rfl, rfl⟩
instance : One Try.prog 83 := ⟨⟨_, Try.underlying83, rfl⟩, by kernel_rfl⟩
instance : Siz Try.prog 83 1 := ⟨by kernel_rfl⟩
set_option maxRecDepth 100000 in
instance : Zer Try.prog 83 [.nilFunc] := ⟨.nilFunc, by kernel_rfl, rfl⟩
instance : Siz Try.prog 84 35 := ⟨by kernel_rfl⟩
instance : Agg Try.prog 84 := ⟨_, Try.underlying84, rfl⟩
set_option maxRecDepth 100000 in
instance : Zer Try.prog 84 (c_suite_ask (.int .i64 0) (u8s (zeros 32)) (.string ByteArray.empty) (.string ByteArray.empty)) := ⟨.agg (c_suite_ask (.int .i64 0) (u8s (zeros 32)) (.string ByteArray.empty) (.string ByteArray.empty)).toArray, by kernel_rfl, rfl⟩
set_option maxRecDepth 100000 in
instance : Blt0 Try.prog 84 (c_suite_ask (.int .i64 0) (u8s (zeros 32)) (.string ByteArray.empty) (.string ByteArray.empty)) := ⟨by kernel_rfl⟩
set_option maxRecDepth 100000 in
instance : Places Try.prog 84 [(0, 1), (1, 32), (33, 1), (34, 1)] (c_suite_ask (.int .i64 0) (u8s (zeros 32)) (.string ByteArray.empty) (.string ByteArray.empty)) := ⟨fun parts => by kernel_rfl⟩
instance : Siz Try.prog 85 35 := ⟨by kernel_rfl⟩
instance : Agg Try.prog 85 := ⟨_, Try.underlying85, rfl⟩
set_option maxRecDepth 100000 in
instance : Zer Try.prog 85 (c_suite_ask (.int .i64 0) (u8s (zeros 32)) (.string ByteArray.empty) (.string ByteArray.empty)) := ⟨.agg (c_suite_ask (.int .i64 0) (u8s (zeros 32)) (.string ByteArray.empty) (.string ByteArray.empty)).toArray, by kernel_rfl, rfl⟩
set_option maxRecDepth 100000 in
instance : Blt0 Try.prog 85 (c_suite_ask (.int .i64 0) (u8s (zeros 32)) (.string ByteArray.empty) (.string ByteArray.empty)) := ⟨by kernel_rfl⟩
set_option maxRecDepth 100000 in
instance : Places Try.prog 85 [(0, 1), (1, 32), (33, 1), (34, 1)] (c_suite_ask (.int .i64 0) (u8s (zeros 32)) (.string ByteArray.empty) (.string ByteArray.empty)) := ⟨fun parts => by kernel_rfl⟩
instance : Siz Try.prog 87 34 := ⟨by kernel_rfl⟩
instance : Agg Try.prog 87 := ⟨_, Try.underlying87, rfl⟩
set_option maxRecDepth 100000 in
instance : Zer Try.prog 87 (c_suite_given (u8s (zeros 32)) (.string ByteArray.empty) (.string ByteArray.empty)) := ⟨.agg (c_suite_given (u8s (zeros 32)) (.string ByteArray.empty) (.string ByteArray.empty)).toArray, by kernel_rfl, rfl⟩
set_option maxRecDepth 100000 in
instance : Blt0 Try.prog 87 (c_suite_given (u8s (zeros 32)) (.string ByteArray.empty) (.string ByteArray.empty)) := ⟨by kernel_rfl⟩
set_option maxRecDepth 100000 in
instance : Places Try.prog 87 [(0, 32), (32, 1), (33, 1)] (c_suite_given (u8s (zeros 32)) (.string ByteArray.empty) (.string ByteArray.empty)) := ⟨fun parts => by kernel_rfl⟩
instance : Siz Try.prog 88 34 := ⟨by kernel_rfl⟩
instance : Agg Try.prog 88 := ⟨_, Try.underlying88, rfl⟩
set_option maxRecDepth 100000 in
instance : Zer Try.prog 88 (c_suite_given (u8s (zeros 32)) (.string ByteArray.empty) (.string ByteArray.empty)) := ⟨.agg (c_suite_given (u8s (zeros 32)) (.string ByteArray.empty) (.string ByteArray.empty)).toArray, by kernel_rfl, rfl⟩
set_option maxRecDepth 100000 in
instance : Blt0 Try.prog 88 (c_suite_given (u8s (zeros 32)) (.string ByteArray.empty) (.string ByteArray.empty)) := ⟨by kernel_rfl⟩
set_option maxRecDepth 100000 in
instance : Places Try.prog 88 [(0, 32), (32, 1), (33, 1)] (c_suite_given (u8s (zeros 32)) (.string ByteArray.empty) (.string ByteArray.empty)) := ⟨fun parts => by kernel_rfl⟩
instance : One Try.prog 90 := ⟨⟨_, Try.underlying90, rfl⟩, by kernel_rfl⟩
instance : Siz Try.prog 90 1 := ⟨by kernel_rfl⟩
set_option maxRecDepth 100000 in
instance : Zer Try.prog 90 [.nilFunc] := ⟨.nilFunc, by kernel_rfl, rfl⟩
instance : Siz Try.prog 91 36 := ⟨by kernel_rfl⟩
instance : Agg Try.prog 91 := ⟨_, Try.underlying91, rfl⟩
set_option maxRecDepth 100000 in
instance : Zer Try.prog 91 (c_tabulariumref07_row (.int .i64 0) (u8s (zeros 32)) (.slice none 0 0) (.slice none 0 0) (.slice none 0 0)) := ⟨.agg (c_tabulariumref07_row (.int .i64 0) (u8s (zeros 32)) (.slice none 0 0) (.slice none 0 0) (.slice none 0 0)).toArray, by kernel_rfl, rfl⟩
set_option maxRecDepth 100000 in
instance : Blt0 Try.prog 91 (c_tabulariumref07_row (.int .i64 0) (u8s (zeros 32)) (.slice none 0 0) (.slice none 0 0) (.slice none 0 0)) := ⟨by kernel_rfl⟩
set_option maxRecDepth 100000 in
instance : Places Try.prog 91 [(0, 1), (1, 32), (33, 1), (34, 1), (35, 1)] (c_tabulariumref07_row (.int .i64 0) (u8s (zeros 32)) (.slice none 0 0) (.slice none 0 0) (.slice none 0 0)) := ⟨fun parts => by kernel_rfl⟩
instance : Siz Try.prog 92 36 := ⟨by kernel_rfl⟩
instance : Agg Try.prog 92 := ⟨_, Try.underlying92, rfl⟩
set_option maxRecDepth 100000 in
instance : Zer Try.prog 92 (c_tabulariumref07_row (.int .i64 0) (u8s (zeros 32)) (.slice none 0 0) (.slice none 0 0) (.slice none 0 0)) := ⟨.agg (c_tabulariumref07_row (.int .i64 0) (u8s (zeros 32)) (.slice none 0 0) (.slice none 0 0) (.slice none 0 0)).toArray, by kernel_rfl, rfl⟩
set_option maxRecDepth 100000 in
instance : Blt0 Try.prog 92 (c_tabulariumref07_row (.int .i64 0) (u8s (zeros 32)) (.slice none 0 0) (.slice none 0 0) (.slice none 0 0)) := ⟨by kernel_rfl⟩
set_option maxRecDepth 100000 in
instance : Places Try.prog 92 [(0, 1), (1, 32), (33, 1), (34, 1), (35, 1)] (c_tabulariumref07_row (.int .i64 0) (u8s (zeros 32)) (.slice none 0 0) (.slice none 0 0) (.slice none 0 0)) := ⟨fun parts => by kernel_rfl⟩
instance : One Try.prog 93 := ⟨⟨_, Try.underlying93, rfl⟩, by kernel_rfl⟩
instance : Siz Try.prog 93 1 := ⟨by kernel_rfl⟩
set_option maxRecDepth 100000 in
instance : Zer Try.prog 93 [.nilFunc] := ⟨.nilFunc, by kernel_rfl, rfl⟩
instance : One Try.prog 94 := ⟨⟨_, Try.underlying94, rfl⟩, by kernel_rfl⟩
instance : Siz Try.prog 94 1 := ⟨by kernel_rfl⟩
set_option maxRecDepth 100000 in
instance : Zer Try.prog 94 [.nilFunc] := ⟨.nilFunc, by kernel_rfl, rfl⟩
instance : Siz Try.prog 95 12 := ⟨by kernel_rfl⟩
instance : Agg Try.prog 95 := ⟨_, Try.underlying95, rfl⟩
set_option maxRecDepth 100000 in
instance : Arr8 Try.prog 95 12 := ⟨⟨_, _, Try.underlying95, Try.underlying5, rfl, rfl⟩, by kernel_rfl⟩
set_option maxRecDepth 100000 in
instance : Zer Try.prog 95 (u8s (zeros 12)) := ⟨.agg (u8s (zeros 12)).toArray, by kernel_rfl, rfl⟩
set_option maxRecDepth 100000 in
instance : Blt0 Try.prog 95 (u8s (zeros 12)) := ⟨by kernel_rfl⟩
instance : One Try.prog 96 := ⟨⟨_, Try.underlying96, rfl⟩, by kernel_rfl⟩
instance : Siz Try.prog 96 1 := ⟨by kernel_rfl⟩
set_option maxRecDepth 100000 in
instance : Zer Try.prog 96 [.nilFunc] := ⟨.nilFunc, by kernel_rfl, rfl⟩
instance : One Try.prog 97 := ⟨⟨_, Try.underlying97, rfl⟩, by kernel_rfl⟩
instance : Siz Try.prog 97 1 := ⟨by kernel_rfl⟩
set_option maxRecDepth 100000 in
instance : Zer Try.prog 97 [.nilFunc] := ⟨.nilFunc, by kernel_rfl, rfl⟩
instance : One Try.prog 98 := ⟨⟨_, Try.underlying98, rfl⟩, by kernel_rfl⟩
instance : Siz Try.prog 98 1 := ⟨by kernel_rfl⟩
set_option maxRecDepth 100000 in
instance : Zer Try.prog 98 [.int .u64 0] := ⟨(.int .u64 0), by kernel_rfl, rfl⟩
instance : One Try.prog 99 := ⟨⟨_, Try.underlying99, rfl⟩, by kernel_rfl⟩
instance : Siz Try.prog 99 1 := ⟨by kernel_rfl⟩
set_option maxRecDepth 100000 in
instance : Zer Try.prog 99 [.nilFunc] := ⟨.nilFunc, by kernel_rfl, rfl⟩
instance : One Try.prog 100 := ⟨⟨_, Try.underlying100, rfl⟩, by kernel_rfl⟩
instance : Siz Try.prog 100 1 := ⟨by kernel_rfl⟩
set_option maxRecDepth 100000 in
instance : Zer Try.prog 100 [.nilFunc] := ⟨.nilFunc, by kernel_rfl, rfl⟩
instance : One Try.prog 101 := ⟨⟨_, Try.underlying101, rfl⟩, by kernel_rfl⟩
instance : Siz Try.prog 101 1 := ⟨by kernel_rfl⟩
set_option maxRecDepth 100000 in
instance : Zer Try.prog 101 [.slice none 0 0] := ⟨(.slice none 0 0), by kernel_rfl, rfl⟩
instance : Elm Try.prog 101 9 1 16 := elm_mk (z := (.string ByteArray.empty)) Try.underlying101 (by kernel_rfl) (by kernel_rfl) (by decide)
instance : One Try.prog 103 := ⟨⟨_, Try.underlying103, rfl⟩, by kernel_rfl⟩
instance : Siz Try.prog 103 1 := ⟨by kernel_rfl⟩
set_option maxRecDepth 100000 in
instance : Zer Try.prog 103 [.nilFunc] := ⟨.nilFunc, by kernel_rfl, rfl⟩
instance : One Try.prog 105 := ⟨⟨_, Try.underlying105, rfl⟩, by kernel_rfl⟩
instance : Siz Try.prog 105 1 := ⟨by kernel_rfl⟩
set_option maxRecDepth 100000 in
instance : Zer Try.prog 105 [.nilFunc] := ⟨.nilFunc, by kernel_rfl, rfl⟩
instance : One Try.prog 106 := ⟨⟨_, Try.underlying106, rfl⟩, by kernel_rfl⟩
instance : Siz Try.prog 106 1 := ⟨by kernel_rfl⟩
set_option maxRecDepth 100000 in
instance : Zer Try.prog 106 [.nilFunc] := ⟨.nilFunc, by kernel_rfl, rfl⟩
instance : One Try.prog 107 := ⟨⟨_, Try.underlying107, rfl⟩, by kernel_rfl⟩
instance : Siz Try.prog 107 1 := ⟨by kernel_rfl⟩
set_option maxRecDepth 100000 in
instance : Zer Try.prog 107 [.nilFunc] := ⟨.nilFunc, by kernel_rfl, rfl⟩
instance : One Try.prog 108 := ⟨⟨_, Try.underlying108, rfl⟩, by kernel_rfl⟩
instance : Siz Try.prog 108 1 := ⟨by kernel_rfl⟩
set_option maxRecDepth 100000 in
instance : Zer Try.prog 108 [.nilFunc] := ⟨.nilFunc, by kernel_rfl, rfl⟩
instance : One Try.prog 109 := ⟨⟨_, Try.underlying109, rfl⟩, by kernel_rfl⟩
instance : Siz Try.prog 109 1 := ⟨by kernel_rfl⟩
set_option maxRecDepth 100000 in
instance : Zer Try.prog 109 [.nilFunc] := ⟨.nilFunc, by kernel_rfl, rfl⟩
instance : One Try.prog 110 := ⟨⟨_, Try.underlying110, rfl⟩, by kernel_rfl⟩
instance : Siz Try.prog 110 1 := ⟨by kernel_rfl⟩
set_option maxRecDepth 100000 in
instance : Zer Try.prog 110 [.nilFunc] := ⟨.nilFunc, by kernel_rfl, rfl⟩
instance : One Try.prog 111 := ⟨⟨_, Try.underlying111, rfl⟩, by kernel_rfl⟩
instance : Siz Try.prog 111 1 := ⟨by kernel_rfl⟩
set_option maxRecDepth 100000 in
instance : Zer Try.prog 111 [.nilFunc] := ⟨.nilFunc, by kernel_rfl, rfl⟩
instance : One Try.prog 112 := ⟨⟨_, Try.underlying112, rfl⟩, by kernel_rfl⟩
instance : Siz Try.prog 112 1 := ⟨by kernel_rfl⟩
set_option maxRecDepth 100000 in
instance : Zer Try.prog 112 [.nilFunc] := ⟨.nilFunc, by kernel_rfl, rfl⟩
instance : One Try.prog 113 := ⟨⟨_, Try.underlying113, rfl⟩, by kernel_rfl⟩
instance : Siz Try.prog 113 1 := ⟨by kernel_rfl⟩
set_option maxRecDepth 100000 in
instance : Zer Try.prog 113 [.nilFunc] := ⟨.nilFunc, by kernel_rfl, rfl⟩
instance : One Try.prog 114 := ⟨⟨_, Try.underlying114, rfl⟩, by kernel_rfl⟩
instance : Siz Try.prog 114 1 := ⟨by kernel_rfl⟩
set_option maxRecDepth 100000 in
instance : Zer Try.prog 114 [.nilFunc] := ⟨.nilFunc, by kernel_rfl, rfl⟩
instance : One Try.prog 115 := ⟨⟨_, Try.underlying115, rfl⟩, by kernel_rfl⟩
instance : Siz Try.prog 115 1 := ⟨by kernel_rfl⟩
set_option maxRecDepth 100000 in
instance : Zer Try.prog 115 [.nilFunc] := ⟨.nilFunc, by kernel_rfl, rfl⟩
instance : One Try.prog 116 := ⟨⟨_, Try.underlying116, rfl⟩, by kernel_rfl⟩
instance : Siz Try.prog 116 1 := ⟨by kernel_rfl⟩
set_option maxRecDepth 100000 in
instance : Zer Try.prog 116 [.slice none 0 0] := ⟨(.slice none 0 0), by kernel_rfl, rfl⟩
instance : Elm Try.prog 116 44 1 4 := elm_mk (z := (.int .u32 0)) Try.underlying116 (by kernel_rfl) (by kernel_rfl) (by decide)
instance : One Try.prog 117 := ⟨⟨_, Try.underlying117, rfl⟩, by kernel_rfl⟩
instance : Siz Try.prog 117 1 := ⟨by kernel_rfl⟩
set_option maxRecDepth 100000 in
instance : Zer Try.prog 117 [.nilFunc] := ⟨.nilFunc, by kernel_rfl, rfl⟩
instance : One Try.prog 118 := ⟨⟨_, Try.underlying118, rfl⟩, by kernel_rfl⟩
instance : Siz Try.prog 118 1 := ⟨by kernel_rfl⟩
set_option maxRecDepth 100000 in
instance : Zer Try.prog 118 [.int .u64 0] := ⟨(.int .u64 0), by kernel_rfl, rfl⟩
instance : One Try.prog 119 := ⟨⟨_, Try.underlying119, rfl⟩, by kernel_rfl⟩
instance : Siz Try.prog 119 1 := ⟨by kernel_rfl⟩
set_option maxRecDepth 100000 in
instance : Zer Try.prog 119 [.nilFunc] := ⟨.nilFunc, by kernel_rfl, rfl⟩
instance : Siz Try.prog 120 64 := ⟨by kernel_rfl⟩
instance : Agg Try.prog 120 := ⟨_, Try.underlying120, rfl⟩
set_option maxRecDepth 100000 in
instance : Arr8 Try.prog 120 64 := ⟨⟨_, _, Try.underlying120, Try.underlying5, rfl, rfl⟩, by kernel_rfl⟩
set_option maxRecDepth 100000 in
instance : Zer Try.prog 120 (u8s (zeros 64)) := ⟨.agg (u8s (zeros 64)).toArray, by kernel_rfl, rfl⟩
set_option maxRecDepth 100000 in
instance : Blt0 Try.prog 120 (u8s (zeros 64)) := ⟨by kernel_rfl⟩
instance : One Try.prog 121 := ⟨⟨_, Try.underlying121, rfl⟩, by kernel_rfl⟩
instance : Siz Try.prog 121 1 := ⟨by kernel_rfl⟩
set_option maxRecDepth 100000 in
instance : Zer Try.prog 121 [.nilFunc] := ⟨.nilFunc, by kernel_rfl, rfl⟩
instance : One Try.prog 122 := ⟨⟨_, Try.underlying122, rfl⟩, by kernel_rfl⟩
instance : Siz Try.prog 122 1 := ⟨by kernel_rfl⟩
set_option maxRecDepth 100000 in
instance : Zer Try.prog 122 [.nilFunc] := ⟨.nilFunc, by kernel_rfl, rfl⟩
instance : One Try.prog 123 := ⟨⟨_, Try.underlying123, rfl⟩, by kernel_rfl⟩
instance : Siz Try.prog 123 1 := ⟨by kernel_rfl⟩
set_option maxRecDepth 100000 in
instance : Zer Try.prog 123 [.nilFunc] := ⟨.nilFunc, by kernel_rfl, rfl⟩
instance : One Try.prog 124 := ⟨⟨_, Try.underlying124, rfl⟩, by kernel_rfl⟩
instance : Siz Try.prog 124 1 := ⟨by kernel_rfl⟩
set_option maxRecDepth 100000 in
instance : Zer Try.prog 124 [.nilFunc] := ⟨.nilFunc, by kernel_rfl, rfl⟩
instance : One Try.prog 125 := ⟨⟨_, Try.underlying125, rfl⟩, by kernel_rfl⟩
instance : Siz Try.prog 125 1 := ⟨by kernel_rfl⟩
set_option maxRecDepth 100000 in
instance : Zer Try.prog 125 [.nilFunc] := ⟨.nilFunc, by kernel_rfl, rfl⟩
instance : One Try.prog 126 := ⟨⟨_, Try.underlying126, rfl⟩, by kernel_rfl⟩
instance : Siz Try.prog 126 1 := ⟨by kernel_rfl⟩
set_option maxRecDepth 100000 in
instance : Zer Try.prog 126 [.pointer none] := ⟨(.pointer none), by kernel_rfl, rfl⟩
instance : One Try.prog 127 := ⟨⟨_, Try.underlying127, rfl⟩, by kernel_rfl⟩
instance : Siz Try.prog 127 1 := ⟨by kernel_rfl⟩
set_option maxRecDepth 100000 in
instance : Zer Try.prog 127 [.nilFunc] := ⟨.nilFunc, by kernel_rfl, rfl⟩
instance : One Try.prog 128 := ⟨⟨_, Try.underlying128, rfl⟩, by kernel_rfl⟩
instance : Siz Try.prog 128 1 := ⟨by kernel_rfl⟩
set_option maxRecDepth 100000 in
instance : Zer Try.prog 128 [.nilFunc] := ⟨.nilFunc, by kernel_rfl, rfl⟩
instance : One Try.prog 129 := ⟨⟨_, Try.underlying129, rfl⟩, by kernel_rfl⟩
instance : Siz Try.prog 129 1 := ⟨by kernel_rfl⟩
set_option maxRecDepth 100000 in
instance : Zer Try.prog 129 [.nilFunc] := ⟨.nilFunc, by kernel_rfl, rfl⟩
instance : One Try.prog 130 := ⟨⟨_, Try.underlying130, rfl⟩, by kernel_rfl⟩
instance : Siz Try.prog 130 1 := ⟨by kernel_rfl⟩
set_option maxRecDepth 100000 in
instance : Zer Try.prog 130 [.nilFunc] := ⟨.nilFunc, by kernel_rfl, rfl⟩
instance : Siz Try.prog 131 8 := ⟨by kernel_rfl⟩
instance : Agg Try.prog 131 := ⟨_, Try.underlying131, rfl⟩
set_option maxRecDepth 100000 in
instance : Zer Try.prog 131 (List.replicate 8 ((.int .u32 0) : Value)) := ⟨.agg (List.replicate 8 ((.int .u32 0) : Value)).toArray, by kernel_rfl, rfl⟩
set_option maxRecDepth 100000 in
instance : Blt0 Try.prog 131 (List.replicate 8 ((.int .u32 0) : Value)) := ⟨by kernel_rfl⟩
instance : One Try.prog 132 := ⟨⟨_, Try.underlying132, rfl⟩, by kernel_rfl⟩
instance : Siz Try.prog 132 1 := ⟨by kernel_rfl⟩
set_option maxRecDepth 100000 in
instance : Zer Try.prog 132 [.nilFunc] := ⟨.nilFunc, by kernel_rfl, rfl⟩
instance : One Try.prog 133 := ⟨⟨_, Try.underlying133, rfl⟩, by kernel_rfl⟩
instance : Siz Try.prog 133 1 := ⟨by kernel_rfl⟩
set_option maxRecDepth 100000 in
instance : Zer Try.prog 133 [.nilFunc] := ⟨.nilFunc, by kernel_rfl, rfl⟩
instance : One Try.prog 134 := ⟨⟨_, Try.underlying134, rfl⟩, by kernel_rfl⟩
instance : Siz Try.prog 134 1 := ⟨by kernel_rfl⟩
set_option maxRecDepth 100000 in
instance : Zer Try.prog 134 [.nilFunc] := ⟨.nilFunc, by kernel_rfl, rfl⟩
instance : One Try.prog 135 := ⟨⟨_, Try.underlying135, rfl⟩, by kernel_rfl⟩
instance : Siz Try.prog 135 1 := ⟨by kernel_rfl⟩
set_option maxRecDepth 100000 in
instance : Zer Try.prog 135 [.nilFunc] := ⟨.nilFunc, by kernel_rfl, rfl⟩
instance : One Try.prog 136 := ⟨⟨_, Try.underlying136, rfl⟩, by kernel_rfl⟩
instance : Siz Try.prog 136 1 := ⟨by kernel_rfl⟩
set_option maxRecDepth 100000 in
instance : Zer Try.prog 136 [.nilFunc] := ⟨.nilFunc, by kernel_rfl, rfl⟩
instance : One Try.prog 137 := ⟨⟨_, Try.underlying137, rfl⟩, by kernel_rfl⟩
instance : Siz Try.prog 137 1 := ⟨by kernel_rfl⟩
set_option maxRecDepth 100000 in
instance : Zer Try.prog 137 [.nilFunc] := ⟨.nilFunc, by kernel_rfl, rfl⟩
instance : One Try.prog 138 := ⟨⟨_, Try.underlying138, rfl⟩, by kernel_rfl⟩
instance : Siz Try.prog 138 1 := ⟨by kernel_rfl⟩
set_option maxRecDepth 100000 in
instance : Zer Try.prog 138 [.nilFunc] := ⟨.nilFunc, by kernel_rfl, rfl⟩
instance : One Try.prog 139 := ⟨⟨_, Try.underlying139, rfl⟩, by kernel_rfl⟩
instance : Siz Try.prog 139 1 := ⟨by kernel_rfl⟩
set_option maxRecDepth 100000 in
instance : Zer Try.prog 139 [.nilFunc] := ⟨.nilFunc, by kernel_rfl, rfl⟩
instance : One Try.prog 140 := ⟨⟨_, Try.underlying140, rfl⟩, by kernel_rfl⟩
instance : Siz Try.prog 140 1 := ⟨by kernel_rfl⟩
set_option maxRecDepth 100000 in
instance : Zer Try.prog 140 [.nilFunc] := ⟨.nilFunc, by kernel_rfl, rfl⟩
instance : One Try.prog 141 := ⟨⟨_, Try.underlying141, rfl⟩, by kernel_rfl⟩
instance : Siz Try.prog 141 1 := ⟨by kernel_rfl⟩
set_option maxRecDepth 100000 in
instance : Zer Try.prog 141 [.nilFunc] := ⟨.nilFunc, by kernel_rfl, rfl⟩
instance : One Try.prog 142 := ⟨⟨_, Try.underlying142, rfl⟩, by kernel_rfl⟩
instance : Siz Try.prog 142 1 := ⟨by kernel_rfl⟩
set_option maxRecDepth 100000 in
instance : Zer Try.prog 142 [.nilFunc] := ⟨.nilFunc, by kernel_rfl, rfl⟩
instance : One Try.prog 143 := ⟨⟨_, Try.underlying143, rfl⟩, by kernel_rfl⟩
instance : Siz Try.prog 143 1 := ⟨by kernel_rfl⟩
set_option maxRecDepth 100000 in
instance : Zer Try.prog 143 [.pointer none] := ⟨(.pointer none), by kernel_rfl, rfl⟩
instance : One Try.prog 144 := ⟨⟨_, Try.underlying144, rfl⟩, by kernel_rfl⟩
instance : Siz Try.prog 144 1 := ⟨by kernel_rfl⟩
set_option maxRecDepth 100000 in
instance : Zer Try.prog 144 [.nilFunc] := ⟨.nilFunc, by kernel_rfl, rfl⟩
instance : One Try.prog 145 := ⟨⟨_, Try.underlying145, rfl⟩, by kernel_rfl⟩
instance : Siz Try.prog 145 1 := ⟨by kernel_rfl⟩
set_option maxRecDepth 100000 in
instance : Zer Try.prog 145 [.nilFunc] := ⟨.nilFunc, by kernel_rfl, rfl⟩
instance : One Try.prog 146 := ⟨⟨_, Try.underlying146, rfl⟩, by kernel_rfl⟩
instance : Siz Try.prog 146 1 := ⟨by kernel_rfl⟩
set_option maxRecDepth 100000 in
instance : Zer Try.prog 146 [.nilFunc] := ⟨.nilFunc, by kernel_rfl, rfl⟩
instance : One Try.prog 147 := ⟨⟨_, Try.underlying147, rfl⟩, by kernel_rfl⟩
instance : Siz Try.prog 147 1 := ⟨by kernel_rfl⟩
set_option maxRecDepth 100000 in
instance : Zer Try.prog 147 [.nilFunc] := ⟨.nilFunc, by kernel_rfl, rfl⟩
instance : One Try.prog 148 := ⟨⟨_, Try.underlying148, rfl⟩, by kernel_rfl⟩
instance : Siz Try.prog 148 1 := ⟨by kernel_rfl⟩
set_option maxRecDepth 100000 in
instance : Zer Try.prog 148 [.nilFunc] := ⟨.nilFunc, by kernel_rfl, rfl⟩
instance : One Try.prog 149 := ⟨⟨_, Try.underlying149, rfl⟩, by kernel_rfl⟩
instance : Siz Try.prog 149 1 := ⟨by kernel_rfl⟩
set_option maxRecDepth 100000 in
instance : Zer Try.prog 149 [.nilFunc] := ⟨.nilFunc, by kernel_rfl, rfl⟩
instance : One Try.prog 150 := ⟨⟨_, Try.underlying150, rfl⟩, by kernel_rfl⟩
instance : Siz Try.prog 150 1 := ⟨by kernel_rfl⟩
set_option maxRecDepth 100000 in
instance : Zer Try.prog 150 [.nilFunc] := ⟨.nilFunc, by kernel_rfl, rfl⟩
instance : One Try.prog 151 := ⟨⟨_, Try.underlying151, rfl⟩, by kernel_rfl⟩
instance : Siz Try.prog 151 1 := ⟨by kernel_rfl⟩
set_option maxRecDepth 100000 in
instance : Zer Try.prog 151 [.nilFunc] := ⟨.nilFunc, by kernel_rfl, rfl⟩
instance : One Try.prog 152 := ⟨⟨_, Try.underlying152, rfl⟩, by kernel_rfl⟩
instance : Siz Try.prog 152 1 := ⟨by kernel_rfl⟩
set_option maxRecDepth 100000 in
instance : Zer Try.prog 152 [.nilFunc] := ⟨.nilFunc, by kernel_rfl, rfl⟩
instance : One Try.prog 153 := ⟨⟨_, Try.underlying153, rfl⟩, by kernel_rfl⟩
instance : Siz Try.prog 153 1 := ⟨by kernel_rfl⟩
set_option maxRecDepth 100000 in
instance : Zer Try.prog 153 [.nilFunc] := ⟨.nilFunc, by kernel_rfl, rfl⟩
instance : Siz Try.prog 154 16 := ⟨by kernel_rfl⟩
instance : Agg Try.prog 154 := ⟨_, Try.underlying154, rfl⟩
set_option maxRecDepth 100000 in
instance : Zer Try.prog 154 (List.replicate 16 ((.int .u32 0) : Value)) := ⟨.agg (List.replicate 16 ((.int .u32 0) : Value)).toArray, by kernel_rfl, rfl⟩
set_option maxRecDepth 100000 in
instance : Blt0 Try.prog 154 (List.replicate 16 ((.int .u32 0) : Value)) := ⟨by kernel_rfl⟩
instance : One Try.prog 156 := ⟨⟨_, Try.underlying156, rfl⟩, by kernel_rfl⟩
instance : Siz Try.prog 156 1 := ⟨by kernel_rfl⟩
set_option maxRecDepth 100000 in
instance : Zer Try.prog 156 [.nilFunc] := ⟨.nilFunc, by kernel_rfl, rfl⟩
instance : Siz Try.prog 157 11 := ⟨by kernel_rfl⟩
instance : Agg Try.prog 157 := ⟨_, Try.underlying157, rfl⟩
set_option maxRecDepth 100000 in
instance : Zer Try.prog 157 (c_sha_Running (List.replicate 8 ((.int .u32 0) : Value)) (.slice none 0 0) (.int .i64 0) (.bool false)) := ⟨.agg (c_sha_Running (List.replicate 8 ((.int .u32 0) : Value)) (.slice none 0 0) (.int .i64 0) (.bool false)).toArray, by kernel_rfl, rfl⟩
set_option maxRecDepth 100000 in
instance : Blt0 Try.prog 157 (c_sha_Running (List.replicate 8 ((.int .u32 0) : Value)) (.slice none 0 0) (.int .i64 0) (.bool false)) := ⟨by kernel_rfl⟩
set_option maxRecDepth 100000 in
instance : Places Try.prog 157 [(0, 8), (8, 1), (9, 1), (10, 1)] (c_sha_Running (List.replicate 8 ((.int .u32 0) : Value)) (.slice none 0 0) (.int .i64 0) (.bool false)) := ⟨fun parts => by kernel_rfl⟩
instance : Siz Try.prog 158 11 := ⟨by kernel_rfl⟩
instance : Agg Try.prog 158 := ⟨_, Try.underlying158, rfl⟩
set_option maxRecDepth 100000 in
instance : Zer Try.prog 158 (c_sha_Running (List.replicate 8 ((.int .u32 0) : Value)) (.slice none 0 0) (.int .i64 0) (.bool false)) := ⟨.agg (c_sha_Running (List.replicate 8 ((.int .u32 0) : Value)) (.slice none 0 0) (.int .i64 0) (.bool false)).toArray, by kernel_rfl, rfl⟩
set_option maxRecDepth 100000 in
instance : Blt0 Try.prog 158 (c_sha_Running (List.replicate 8 ((.int .u32 0) : Value)) (.slice none 0 0) (.int .i64 0) (.bool false)) := ⟨by kernel_rfl⟩
set_option maxRecDepth 100000 in
instance : Places Try.prog 158 [(0, 8), (8, 1), (9, 1), (10, 1)] (c_sha_Running (List.replicate 8 ((.int .u32 0) : Value)) (.slice none 0 0) (.int .i64 0) (.bool false)) := ⟨fun parts => by kernel_rfl⟩
instance : One Try.prog 159 := ⟨⟨_, Try.underlying159, rfl⟩, by kernel_rfl⟩
instance : Siz Try.prog 159 1 := ⟨by kernel_rfl⟩
set_option maxRecDepth 100000 in
instance : Zer Try.prog 159 [.nilFunc] := ⟨.nilFunc, by kernel_rfl, rfl⟩
instance : One Try.prog 160 := ⟨⟨_, Try.underlying160, rfl⟩, by kernel_rfl⟩
instance : Siz Try.prog 160 1 := ⟨by kernel_rfl⟩
set_option maxRecDepth 100000 in
instance : Zer Try.prog 160 [.nilFunc] := ⟨.nilFunc, by kernel_rfl, rfl⟩
instance : Siz Try.prog 161 64 := ⟨by kernel_rfl⟩
instance : Agg Try.prog 161 := ⟨_, Try.underlying161, rfl⟩
set_option maxRecDepth 100000 in
instance : Zer Try.prog 161 (List.replicate 64 ((.int .u32 0) : Value)) := ⟨.agg (List.replicate 64 ((.int .u32 0) : Value)).toArray, by kernel_rfl, rfl⟩
set_option maxRecDepth 100000 in
instance : Blt0 Try.prog 161 (List.replicate 64 ((.int .u32 0) : Value)) := ⟨by kernel_rfl⟩
instance : One Try.prog 162 := ⟨⟨_, Try.underlying162, rfl⟩, by kernel_rfl⟩
instance : Siz Try.prog 162 1 := ⟨by kernel_rfl⟩
set_option maxRecDepth 100000 in
instance : Zer Try.prog 162 [.nilFunc] := ⟨.nilFunc, by kernel_rfl, rfl⟩
instance : One Try.prog 163 := ⟨⟨_, Try.underlying163, rfl⟩, by kernel_rfl⟩
instance : Siz Try.prog 163 1 := ⟨by kernel_rfl⟩
set_option maxRecDepth 100000 in
instance : Zer Try.prog 163 [.pointer none] := ⟨(.pointer none), by kernel_rfl, rfl⟩
instance : One Try.prog 164 := ⟨⟨_, Try.underlying164, rfl⟩, by kernel_rfl⟩
instance : Siz Try.prog 164 1 := ⟨by kernel_rfl⟩
set_option maxRecDepth 100000 in
instance : Zer Try.prog 164 [.nilFunc] := ⟨.nilFunc, by kernel_rfl, rfl⟩
instance : One Try.prog 165 := ⟨⟨_, Try.underlying165, rfl⟩, by kernel_rfl⟩
instance : Siz Try.prog 165 1 := ⟨by kernel_rfl⟩
set_option maxRecDepth 100000 in
instance : Zer Try.prog 165 [.nilFunc] := ⟨.nilFunc, by kernel_rfl, rfl⟩
instance : One Try.prog 166 := ⟨⟨_, Try.underlying166, rfl⟩, by kernel_rfl⟩
instance : Siz Try.prog 166 1 := ⟨by kernel_rfl⟩
set_option maxRecDepth 100000 in
instance : Zer Try.prog 166 [.nilFunc] := ⟨.nilFunc, by kernel_rfl, rfl⟩
instance : One Try.prog 167 := ⟨⟨_, Try.underlying167, rfl⟩, by kernel_rfl⟩
instance : Siz Try.prog 167 1 := ⟨by kernel_rfl⟩
set_option maxRecDepth 100000 in
instance : Zer Try.prog 167 [.nilFunc] := ⟨.nilFunc, by kernel_rfl, rfl⟩
instance : One Try.prog 168 := ⟨⟨_, Try.underlying168, rfl⟩, by kernel_rfl⟩
instance : Siz Try.prog 168 1 := ⟨by kernel_rfl⟩
set_option maxRecDepth 100000 in
instance : Zer Try.prog 168 [.nilFunc] := ⟨.nilFunc, by kernel_rfl, rfl⟩
instance : One Try.prog 169 := ⟨⟨_, Try.underlying169, rfl⟩, by kernel_rfl⟩
instance : Siz Try.prog 169 1 := ⟨by kernel_rfl⟩
set_option maxRecDepth 100000 in
instance : Zer Try.prog 169 [.nilFunc] := ⟨.nilFunc, by kernel_rfl, rfl⟩
instance : One Try.prog 170 := ⟨⟨_, Try.underlying170, rfl⟩, by kernel_rfl⟩
instance : Siz Try.prog 170 1 := ⟨by kernel_rfl⟩
set_option maxRecDepth 100000 in
instance : Zer Try.prog 170 [.nilFunc] := ⟨.nilFunc, by kernel_rfl, rfl⟩
instance : Siz Try.prog 171 1 := ⟨by kernel_rfl⟩
instance : Agg Try.prog 171 := ⟨_, Try.underlying171, rfl⟩
set_option maxRecDepth 100000 in
instance : Zer Try.prog 171 (c_codec_Writer (.slice none 0 0)) := ⟨.agg (c_codec_Writer (.slice none 0 0)).toArray, by kernel_rfl, rfl⟩
set_option maxRecDepth 100000 in
instance : Blt0 Try.prog 171 (c_codec_Writer (.slice none 0 0)) := ⟨by kernel_rfl⟩
set_option maxRecDepth 100000 in
instance : Places Try.prog 171 [(0, 1)] (c_codec_Writer (.slice none 0 0)) := ⟨fun parts => by kernel_rfl⟩
instance : Siz Try.prog 172 1 := ⟨by kernel_rfl⟩
instance : Agg Try.prog 172 := ⟨_, Try.underlying172, rfl⟩
set_option maxRecDepth 100000 in
instance : Zer Try.prog 172 (c_codec_Writer (.slice none 0 0)) := ⟨.agg (c_codec_Writer (.slice none 0 0)).toArray, by kernel_rfl, rfl⟩
set_option maxRecDepth 100000 in
instance : Blt0 Try.prog 172 (c_codec_Writer (.slice none 0 0)) := ⟨by kernel_rfl⟩
set_option maxRecDepth 100000 in
instance : Places Try.prog 172 [(0, 1)] (c_codec_Writer (.slice none 0 0)) := ⟨fun parts => by kernel_rfl⟩
instance : One Try.prog 173 := ⟨⟨_, Try.underlying173, rfl⟩, by kernel_rfl⟩
instance : Siz Try.prog 173 1 := ⟨by kernel_rfl⟩
set_option maxRecDepth 100000 in
instance : Zer Try.prog 173 [.nilFunc] := ⟨.nilFunc, by kernel_rfl, rfl⟩
instance : One Try.prog 174 := ⟨⟨_, Try.underlying174, rfl⟩, by kernel_rfl⟩
instance : Siz Try.prog 174 1 := ⟨by kernel_rfl⟩
set_option maxRecDepth 100000 in
instance : Zer Try.prog 174 [.nilFunc] := ⟨.nilFunc, by kernel_rfl, rfl⟩
instance : One Try.prog 175 := ⟨⟨_, Try.underlying175, rfl⟩, by kernel_rfl⟩
instance : Siz Try.prog 175 1 := ⟨by kernel_rfl⟩
set_option maxRecDepth 100000 in
instance : Zer Try.prog 175 [.nilFunc] := ⟨.nilFunc, by kernel_rfl, rfl⟩
instance : One Try.prog 176 := ⟨⟨_, Try.underlying176, rfl⟩, by kernel_rfl⟩
instance : Siz Try.prog 176 1 := ⟨by kernel_rfl⟩
set_option maxRecDepth 100000 in
instance : Zer Try.prog 176 [.nilFunc] := ⟨.nilFunc, by kernel_rfl, rfl⟩
instance : One Try.prog 177 := ⟨⟨_, Try.underlying177, rfl⟩, by kernel_rfl⟩
instance : Siz Try.prog 177 1 := ⟨by kernel_rfl⟩
set_option maxRecDepth 100000 in
instance : Zer Try.prog 177 [.slice none 0 0] := ⟨(.slice none 0 0), by kernel_rfl, rfl⟩
instance : Elm Try.prog 177 120 64 64 := elm_mk (z := .agg (u8s (zeros 64)).toArray) Try.underlying177 (by kernel_rfl) (by kernel_rfl) (by decide)
instance : One Try.prog 178 := ⟨⟨_, Try.underlying178, rfl⟩, by kernel_rfl⟩
instance : Siz Try.prog 178 1 := ⟨by kernel_rfl⟩
set_option maxRecDepth 100000 in
instance : Zer Try.prog 178 [.nilFunc] := ⟨.nilFunc, by kernel_rfl, rfl⟩
instance : One Try.prog 179 := ⟨⟨_, Try.underlying179, rfl⟩, by kernel_rfl⟩
instance : Siz Try.prog 179 1 := ⟨by kernel_rfl⟩
set_option maxRecDepth 100000 in
instance : Zer Try.prog 179 [.nilFunc] := ⟨.nilFunc, by kernel_rfl, rfl⟩
instance : One Try.prog 180 := ⟨⟨_, Try.underlying180, rfl⟩, by kernel_rfl⟩
instance : Siz Try.prog 180 1 := ⟨by kernel_rfl⟩
set_option maxRecDepth 100000 in
instance : Zer Try.prog 180 [.nilFunc] := ⟨.nilFunc, by kernel_rfl, rfl⟩
instance : One Try.prog 181 := ⟨⟨_, Try.underlying181, rfl⟩, by kernel_rfl⟩
instance : Siz Try.prog 181 1 := ⟨by kernel_rfl⟩
set_option maxRecDepth 100000 in
instance : Zer Try.prog 181 [.nilFunc] := ⟨.nilFunc, by kernel_rfl, rfl⟩
instance : One Try.prog 182 := ⟨⟨_, Try.underlying182, rfl⟩, by kernel_rfl⟩
instance : Siz Try.prog 182 1 := ⟨by kernel_rfl⟩
set_option maxRecDepth 100000 in
instance : Zer Try.prog 182 [.nilFunc] := ⟨.nilFunc, by kernel_rfl, rfl⟩
instance : One Try.prog 183 := ⟨⟨_, Try.underlying183, rfl⟩, by kernel_rfl⟩
instance : Siz Try.prog 183 1 := ⟨by kernel_rfl⟩
set_option maxRecDepth 100000 in
instance : Zer Try.prog 183 [.slice none 0 0] := ⟨(.slice none 0 0), by kernel_rfl, rfl⟩
instance : Elm Try.prog 183 118 1 8 := elm_mk (z := (.int .u64 0)) Try.underlying183 (by kernel_rfl) (by kernel_rfl) (by decide)
instance : One Try.prog 184 := ⟨⟨_, Try.underlying184, rfl⟩, by kernel_rfl⟩
instance : Siz Try.prog 184 1 := ⟨by kernel_rfl⟩
set_option maxRecDepth 100000 in
instance : Zer Try.prog 184 [.nilFunc] := ⟨.nilFunc, by kernel_rfl, rfl⟩
instance : Siz Try.prog 185 16 := ⟨by kernel_rfl⟩
instance : Agg Try.prog 185 := ⟨_, Try.underlying185, rfl⟩
set_option maxRecDepth 100000 in
instance : Zer Try.prog 185 (List.replicate 16 ((.int .u32 0) : Value)) := ⟨.agg (List.replicate 16 ((.int .u32 0) : Value)).toArray, by kernel_rfl, rfl⟩
set_option maxRecDepth 100000 in
instance : Blt0 Try.prog 185 (List.replicate 16 ((.int .u32 0) : Value)) := ⟨by kernel_rfl⟩
instance : One Try.prog 186 := ⟨⟨_, Try.underlying186, rfl⟩, by kernel_rfl⟩
instance : Siz Try.prog 186 1 := ⟨by kernel_rfl⟩
set_option maxRecDepth 100000 in
instance : Zer Try.prog 186 [.nilFunc] := ⟨.nilFunc, by kernel_rfl, rfl⟩
instance : One Try.prog 187 := ⟨⟨_, Try.underlying187, rfl⟩, by kernel_rfl⟩
instance : Siz Try.prog 187 1 := ⟨by kernel_rfl⟩
set_option maxRecDepth 100000 in
instance : Zer Try.prog 187 [.nilFunc] := ⟨.nilFunc, by kernel_rfl, rfl⟩
instance : One Try.prog 188 := ⟨⟨_, Try.underlying188, rfl⟩, by kernel_rfl⟩
instance : Siz Try.prog 188 1 := ⟨by kernel_rfl⟩
set_option maxRecDepth 100000 in
instance : Zer Try.prog 188 [.pointer none] := ⟨(.pointer none), by kernel_rfl, rfl⟩
instance : Siz Try.prog 189 2 := ⟨by kernel_rfl⟩
instance : Agg Try.prog 189 := ⟨_, Try.underlying189, rfl⟩
set_option maxRecDepth 100000 in
instance : Zer Try.prog 189 (List.replicate 2 ((.int .i64 0) : Value)) := ⟨.agg (List.replicate 2 ((.int .i64 0) : Value)).toArray, by kernel_rfl, rfl⟩
set_option maxRecDepth 100000 in
instance : Blt0 Try.prog 189 (List.replicate 2 ((.int .i64 0) : Value)) := ⟨by kernel_rfl⟩
instance : Siz Try.prog 190 4 := ⟨by kernel_rfl⟩
instance : Agg Try.prog 190 := ⟨_, Try.underlying190, rfl⟩
instance : One Try.prog 191 := ⟨⟨_, Try.underlying191, rfl⟩, by kernel_rfl⟩
instance : Siz Try.prog 191 1 := ⟨by kernel_rfl⟩
set_option maxRecDepth 100000 in
instance : Zer Try.prog 191 [.nilFunc] := ⟨.nilFunc, by kernel_rfl, rfl⟩
instance : Siz Try.prog 192 4 := ⟨by kernel_rfl⟩
instance : Agg Try.prog 192 := ⟨_, Try.underlying192, rfl⟩
instance : Siz Try.prog 193 4 := ⟨by kernel_rfl⟩
instance : Agg Try.prog 193 := ⟨_, Try.underlying193, rfl⟩
instance : One Try.prog 197 := ⟨⟨_, Try.underlying197, rfl⟩, by kernel_rfl⟩
instance : Siz Try.prog 197 1 := ⟨by kernel_rfl⟩
set_option maxRecDepth 100000 in
instance : Zer Try.prog 197 [.int .u8 0] := ⟨(.int .u8 0), by kernel_rfl, rfl⟩
instance : One Try.prog 198 := ⟨⟨_, Try.underlying198, rfl⟩, by kernel_rfl⟩
instance : Siz Try.prog 198 1 := ⟨by kernel_rfl⟩
set_option maxRecDepth 100000 in
instance : Zer Try.prog 198 [.int .u8 0] := ⟨(.int .u8 0), by kernel_rfl, rfl⟩
instance : One Try.prog 199 := ⟨⟨_, Try.underlying199, rfl⟩, by kernel_rfl⟩
instance : Siz Try.prog 199 1 := ⟨by kernel_rfl⟩
set_option maxRecDepth 100000 in
instance : Zer Try.prog 199 [.nilFunc] := ⟨.nilFunc, by kernel_rfl, rfl⟩
instance : One Try.prog 200 := ⟨⟨_, Try.underlying200, rfl⟩, by kernel_rfl⟩
instance : Siz Try.prog 200 1 := ⟨by kernel_rfl⟩
set_option maxRecDepth 100000 in
instance : Zer Try.prog 200 [.pointer none] := ⟨(.pointer none), by kernel_rfl, rfl⟩
instance : One Try.prog 201 := ⟨⟨_, Try.underlying201, rfl⟩, by kernel_rfl⟩
instance : Siz Try.prog 201 1 := ⟨by kernel_rfl⟩
set_option maxRecDepth 100000 in
instance : Zer Try.prog 201 [.int .i32 0] := ⟨(.int .i32 0), by kernel_rfl, rfl⟩
instance : One Try.prog 202 := ⟨⟨_, Try.underlying202, rfl⟩, by kernel_rfl⟩
instance : Siz Try.prog 202 1 := ⟨by kernel_rfl⟩
set_option maxRecDepth 100000 in
instance : Zer Try.prog 202 [.int .i32 0] := ⟨(.int .i32 0), by kernel_rfl, rfl⟩
instance : Siz Try.prog 203 11 := ⟨by kernel_rfl⟩
instance : Agg Try.prog 203 := ⟨_, Try.underlying203, rfl⟩
instance : Siz Try.prog 204 11 := ⟨by kernel_rfl⟩
instance : Agg Try.prog 204 := ⟨_, Try.underlying204, rfl⟩
instance : One Try.prog 205 := ⟨⟨_, Try.underlying205, rfl⟩, by kernel_rfl⟩
instance : Siz Try.prog 205 1 := ⟨by kernel_rfl⟩
set_option maxRecDepth 100000 in
instance : Zer Try.prog 205 [.nilFunc] := ⟨.nilFunc, by kernel_rfl, rfl⟩
instance : One Try.prog 206 := ⟨⟨_, Try.underlying206, rfl⟩, by kernel_rfl⟩
instance : Siz Try.prog 206 1 := ⟨by kernel_rfl⟩
set_option maxRecDepth 100000 in
instance : Zer Try.prog 206 [.pointer none] := ⟨(.pointer none), by kernel_rfl, rfl⟩
end Go.Proofs.Ytcmgjoamfjijhaa
namespace Go.Proofs.Ytcmgjoamfjijhaa
open Go.RowKit
set_option linter.unusedVariables false
set_option linter.unusedSimpArgs false

/-- A fact as a part. -/
def eFact (p : Prop) : Ent where
  own _ := False
  rd _ := False
  holds _ := p
  isC := true
  lt _ k hk := by rcases hk with hk | hk <;> exact hk.elim
  keep h _ _ := h
  cel _ _ _ k hk := by rcases hk with hk | hk <;> exact hk.elim
/-- A tape: what is left of it; nil is one of nothing. -/
def eTp (tp : Option Nat) (A : Option Addr) (n c : Nat) (b : List UInt8) : Ent := match tp with
  | some g => eStar (eBlk g 77 [.slice A n c]) (eSl A n c 1 (u8s b))
  | none => eFact (b = [])
def tpv (tp : Option Nat) : Value := .pointer (tp.map fun g => ⟨g, 0, none⟩)
class SlotTp (L : List Ent) (tp : Option Nat) (A : outParam (Option Addr)) (n c : outParam Nat) (b : outParam (List UInt8)) (F : outParam (List Ent)) : Prop where
  perm : L.Perm (eTp tp A n c b :: F)
instance (priority := high) SlotTp.hit (tp : Option Nat) (A : Option Addr) (n c : Nat) (b : List UInt8) (L : List Ent) : SlotTp (eTp tp A n c b :: L) tp A n c b L := ⟨.refl _⟩
instance SlotTp.miss (x : Ent) (tp : Option Nat) (A : Option Addr) (n c : Nat) (b : List UInt8) (L F : List Ent) [h : SlotTp L tp A n c b F] : SlotTp (x :: L) tp A n c b (x :: F) := ⟨(h.perm.cons x).trans (.swap _ _ _)⟩
def takeM (n : Nat) (b : List UInt8) : List UInt8 × List UInt8 := if n ≤ b.length then (b.take n, b.drop n) else ([], b)
def takeE (n : Nat) (b : List UInt8) : Nat := if n ≤ b.length then 0 else 60
theorem takeM_yes {n : Nat} {b : List UInt8} (h : n ≤ b.length) : takeM n b = (b.take n, b.drop n) := if_pos h
theorem takeM_no {n : Nat} {b : List UInt8} (h : ¬ n ≤ b.length) : takeM n b = ([], b) := if_neg h
theorem takeE_yes {n : Nat} {b : List UInt8} (h : n ≤ b.length) : takeE n b = 0 := if_pos h
theorem takeE_no {n : Nat} {b : List UInt8} (h : ¬ n ≤ b.length) : takeE n b = 60 := if_neg h

section
variable {S : Nat → Prop} {w0 w : World} {L F : List Ent} {A : Option Addr} {n c : Nat} {b : List UInt8}
theorem St.tpOpen (h : St S w0 w L) (g : Nat) {A : Option Addr} {n c : Nat} {b : List UInt8} [k : SlotTp L (some g) A n c b F] : St S w0 w (eBlk g 77 [.slice A n c] :: eSl A n c 1 (u8s b) :: F) := (h.perm k.perm).unstar
theorem St.tpShut {g : Nat} (h : St S w0 w (eBlk g 77 [.slice A n c] :: eSl A n c 1 (u8s b) :: F)) : St S w0 w (eTp (some g) A n c b :: F) := h.star
theorem St.tpNil (h : St S w0 w L) [k : SlotTp L none A n c b F] : b = [] := (h.perm k.perm).holds _ List.mem_cons_self
/-- A slice that is read, narrowed. -/
theorem St.dropSl {sz : Nat} {xs : List Value} (h : St S w0 w L) [k : Slot L (eSl A n c sz xs) F] {i : Nat} (hi : i ≤ n) : St S w0 w (eSl (if c = i then A else A.map (·.add (i * sz))) (n - i) (c - i) sz (xs.drop (i * sz)) :: F) :=
  (h.perm k.perm).resay _ (let hh := (h.perm k.perm).holds _ List.mem_cons_self; ⟨hh.1, hh.2.drop hi⟩) (fun _ => Iff.rfl) (fun i hi => ft_cut hi)
end

theorem tape_new {S : Nat → Prop} {w0 w : World} {L : List Ent} {A : Option Addr} {n c : Nat} {b : List UInt8} (h : St S w0 w L) [ka : HasSl L A n c 1 (u8s b)] (hn : n ≤ 1000000000) :
    Calls Try.prog 15 #[.slice A n c] w fun e w' => ∃ g A' c', e = .returned (tpv (some g)) ∧ St S w0 w' (eTp (some g) A' n c' b :: L) := by
  go_enter Try.func15, Try.ntmps15
  go_wp2_with (first
    | (refine wl_runs rfl (ex_append_nil h _ _ _ rfl rfl A n c rfl (h.sl A n c) (u8s_one _) (by simp [maxLen]; omega) (by omega)) ?_; clear h; rintro _ w ⟨A2, c2, rfl, h⟩)
    | (refine wl_reads rfl (ex_lit _ _ rfl [(0, .slice A2 n c2)] rfl) ?_)
    | (refine wl_runs rfl (ex_box h 77 _ rfl (c_tape_Tape (.slice A2 n c2)) rfl) ?_; clear h; rintro _ w ⟨g, rfl, h⟩)
    | (refine wl_reads rfl (ex_loadv h _ _ rfl _ _ rfl) ?_) | (refine wl_runs rfl (ex_store1i h _ _ _ rfl _ _ rfl _ _ rfl) ?_; clear h; rintro _ w ⟨rfl, h⟩; try dsimp only [Act.put]) | (refine wl_runs rfl (ex_store1s h _ _ _ rfl _ _ rfl _ _ _ rfl) ?_; clear h; rintro _ w ⟨rfl, h⟩; try dsimp only [Act.put]) | (refine wl_runs rfl (ex_store1b h _ _ _ rfl _ _ rfl _ rfl) ?_; clear h; rintro _ w ⟨rfl, h⟩; try dsimp only [Act.put]) | (refine wl_runs rfl (ex_store1t h _ _ _ rfl _ _ rfl _ rfl) ?_; clear h; rintro _ w ⟨rfl, h⟩; try dsimp only [Act.put]) | (refine wl_runs rfl (ex_store1p h _ _ _ rfl _ _ rfl _ rfl) ?_; clear h; rintro _ w ⟨rfl, h⟩; try dsimp only [Act.put]) | (refine wl_runs rfl (ex_store1m h _ _ _ rfl _ _ rfl _ rfl) ?_; clear h; rintro _ w ⟨rfl, h⟩; try dsimp only [Act.put]) | (refine wl_runs rfl (ex_store h _ _ _ rfl _ _ rfl _ rfl) ?_; clear h; rintro _ w ⟨rfl, h⟩; try dsimp only [Act.put]) | (refine wl_runs rfl (ex_alloc h _ rfl) ?_; clear h; rintro _ w ⟨g, rfl, h⟩) | (refine wl_runs rfl (ex_box h _ _ rfl _ rfl) ?_; clear h; rintro _ w ⟨g, rfl, h⟩) | (refine wl_runs rfl (ex_box1i h _ _ rfl _ _ rfl) ?_; clear h; rintro _ w ⟨g, rfl, h⟩) | (refine wl_runs rfl (ex_box1s h _ _ rfl _ _ _ rfl) ?_; clear h; rintro _ w ⟨g, rfl, h⟩) | (refine wl_runs rfl (ex_box1b h _ _ rfl _ rfl) ?_; clear h; rintro _ w ⟨g, rfl, h⟩) | (refine wl_runs rfl (ex_box1t h _ _ rfl _ rfl) ?_; clear h; rintro _ w ⟨g, rfl, h⟩) | (refine wl_runs rfl (ex_box1p h _ _ rfl _ rfl) ?_; clear h; rintro _ w ⟨g, rfl, h⟩) | (refine wl_runs rfl (ex_box1m h _ _ rfl _ rfl) ?_; clear h; rintro _ w ⟨g, rfl, h⟩) | (refine wl_runs rfl (ex_slice1 h _ _ rfl _ rfl) ?_; clear h; rintro _ w ⟨g, rfl, h⟩) | (refine wl_runs rfl (ex_slice1i h _ _ rfl _ _ rfl) ?_; clear h; rintro _ w ⟨g, rfl, h⟩) | (refine wl_runs rfl (ex_slice1s h _ _ rfl _ _ _ rfl) ?_; clear h; rintro _ w ⟨g, rfl, h⟩) | (refine wl_runs rfl (ex_slice1b h _ _ rfl _ rfl) ?_; clear h; rintro _ w ⟨g, rfl, h⟩) | (refine wl_runs rfl (ex_slice1t h _ _ rfl _ rfl) ?_; clear h; rintro _ w ⟨g, rfl, h⟩) | (refine wl_runs rfl (ex_slice1p h _ _ rfl _ rfl) ?_; clear h; rintro _ w ⟨g, rfl, h⟩) | (refine wl_runs rfl (ex_slice1m h _ _ rfl _ rfl) ?_; clear h; rintro _ w ⟨g, rfl, h⟩) | (refine wl_reads rfl (ex_lit0 _ rfl) ?_))
  go_ret
  have h2 : St S w0 w (eBlk g 77 [.slice A2 n c2] :: eOwn 5 1 A2 n c2 (u8s b) :: L) := h
  exact ⟨g, A2, c2, rfl, ((h2.release A2 (by omega)).to).tpShut⟩
theorem tape_left {S : Nat → Prop} {w0 w : World} {L F : List Ent} {tp : Option Nat} {A : Option Addr} {n c : Nat} {b : List UInt8} (h : St S w0 w L) [k : SlotTp L tp A n c b F] :
    Calls Try.prog 90 #[tpv tp] w fun e w' => e = .returned (.int .i64 (b.length : Int)) ∧ w' = w := by
  cases tp with
  | none =>
    have hb := h.tpNil
    subst hb
    unfold tpv
    simp only [Option.map_none]
    go_enter Try.func90, Try.ntmps90
    go_wp2
    go_ret
    exact ⟨rfl, rfl⟩
  | some g =>
    have h := h.tpOpen g
    have hn := (h.sl A n c).n_eq
    unfold tpv
    simp only [Option.map_some]
    rw [← hn]
    clear hn
    go_enter Try.func90, Try.ntmps90
    go_wp2_with (first | (refine wl_reads rfl (ex_loadv h _ _ rfl _ _ rfl) ?_) | (refine wl_runs rfl (ex_store1i h _ _ _ rfl _ _ rfl _ _ rfl) ?_; clear h; rintro _ w ⟨rfl, h⟩; try dsimp only [Act.put]) | (refine wl_runs rfl (ex_store1s h _ _ _ rfl _ _ rfl _ _ _ rfl) ?_; clear h; rintro _ w ⟨rfl, h⟩; try dsimp only [Act.put]) | (refine wl_runs rfl (ex_store1b h _ _ _ rfl _ _ rfl _ rfl) ?_; clear h; rintro _ w ⟨rfl, h⟩; try dsimp only [Act.put]) | (refine wl_runs rfl (ex_store1t h _ _ _ rfl _ _ rfl _ rfl) ?_; clear h; rintro _ w ⟨rfl, h⟩; try dsimp only [Act.put]) | (refine wl_runs rfl (ex_store1p h _ _ _ rfl _ _ rfl _ rfl) ?_; clear h; rintro _ w ⟨rfl, h⟩; try dsimp only [Act.put]) | (refine wl_runs rfl (ex_store1m h _ _ _ rfl _ _ rfl _ rfl) ?_; clear h; rintro _ w ⟨rfl, h⟩; try dsimp only [Act.put]) | (refine wl_runs rfl (ex_store h _ _ _ rfl _ _ rfl _ rfl) ?_; clear h; rintro _ w ⟨rfl, h⟩; try dsimp only [Act.put]) | (refine wl_runs rfl (ex_alloc h _ rfl) ?_; clear h; rintro _ w ⟨g, rfl, h⟩) | (refine wl_runs rfl (ex_box h _ _ rfl _ rfl) ?_; clear h; rintro _ w ⟨g, rfl, h⟩) | (refine wl_runs rfl (ex_box1i h _ _ rfl _ _ rfl) ?_; clear h; rintro _ w ⟨g, rfl, h⟩) | (refine wl_runs rfl (ex_box1s h _ _ rfl _ _ _ rfl) ?_; clear h; rintro _ w ⟨g, rfl, h⟩) | (refine wl_runs rfl (ex_box1b h _ _ rfl _ rfl) ?_; clear h; rintro _ w ⟨g, rfl, h⟩) | (refine wl_runs rfl (ex_box1t h _ _ rfl _ rfl) ?_; clear h; rintro _ w ⟨g, rfl, h⟩) | (refine wl_runs rfl (ex_box1p h _ _ rfl _ rfl) ?_; clear h; rintro _ w ⟨g, rfl, h⟩) | (refine wl_runs rfl (ex_box1m h _ _ rfl _ rfl) ?_; clear h; rintro _ w ⟨g, rfl, h⟩) | (refine wl_runs rfl (ex_slice1 h _ _ rfl _ rfl) ?_; clear h; rintro _ w ⟨g, rfl, h⟩) | (refine wl_runs rfl (ex_slice1i h _ _ rfl _ _ rfl) ?_; clear h; rintro _ w ⟨g, rfl, h⟩) | (refine wl_runs rfl (ex_slice1s h _ _ rfl _ _ _ rfl) ?_; clear h; rintro _ w ⟨g, rfl, h⟩) | (refine wl_runs rfl (ex_slice1b h _ _ rfl _ rfl) ?_; clear h; rintro _ w ⟨g, rfl, h⟩) | (refine wl_runs rfl (ex_slice1t h _ _ rfl _ rfl) ?_; clear h; rintro _ w ⟨g, rfl, h⟩) | (refine wl_runs rfl (ex_slice1p h _ _ rfl _ rfl) ?_; clear h; rintro _ w ⟨g, rfl, h⟩) | (refine wl_runs rfl (ex_slice1m h _ _ rfl _ rfl) ?_; clear h; rintro _ w ⟨g, rfl, h⟩) | (refine wl_reads rfl (ex_lit0 _ rfl) ?_))
    go_ret
    exact ⟨rfl, rfl⟩
set_option maxRecDepth 100000 in
theorem tape_take {S : Nat → Prop} {w0 w : World} {L F : List Ent} {tp : Option Nat} {A : Option Addr} {n c : Nat} {b : List UInt8} (h : St S w0 w L) [k : SlotTp L tp A n c b F] (m : Nat) (hm : m ≤ 1000000000) :
    Calls Try.prog 57 #[tpv tp, .int .i64 (m : Int)] w fun e w' => ∃ A1 c1, e = .returned (.tuple #[.slice A1 (takeM m b).1.length c1, .int .i64 (takeE m b : Int)]) ∧ ∃ A2 n2 c2, St S w0 w' (eOwn 5 1 A1 (takeM m b).1.length c1 (u8s (takeM m b).1) :: eTp tp A2 n2 c2 (takeM m b).2 :: F) := by
  have hL := @tape_left S w0 w L F tp A n c b h k
  by_cases hle : m ≤ b.length
  · rw [takeM_yes hle, takeE_yes hle]
    have hlen : (b.take m).length = m := by rw [List.length_take]; omega
    simp only [hlen]
    have f1 : ¬ (b.length : Int) < (m : Int) := by omega
    by_cases h0 : m = 0
    · subst h0
      have f2 : (((0 : Nat) : Int) == 0) = true := rfl
      go_enter Try.func57, Try.ntmps57
      go_wp2_with (first
        | (go_at_call 90; refine hL.mono ?_; rintro e w' ⟨rfl, rfl⟩)
        | (refine wl_reads rfl (ex_loadv h _ _ rfl _ _ rfl) ?_) | (refine wl_runs rfl (ex_store1i h _ _ _ rfl _ _ rfl _ _ rfl) ?_; clear h; rintro _ w ⟨rfl, h⟩; try dsimp only [Act.put]) | (refine wl_runs rfl (ex_store1s h _ _ _ rfl _ _ rfl _ _ _ rfl) ?_; clear h; rintro _ w ⟨rfl, h⟩; try dsimp only [Act.put]) | (refine wl_runs rfl (ex_store1b h _ _ _ rfl _ _ rfl _ rfl) ?_; clear h; rintro _ w ⟨rfl, h⟩; try dsimp only [Act.put]) | (refine wl_runs rfl (ex_store1t h _ _ _ rfl _ _ rfl _ rfl) ?_; clear h; rintro _ w ⟨rfl, h⟩; try dsimp only [Act.put]) | (refine wl_runs rfl (ex_store1p h _ _ _ rfl _ _ rfl _ rfl) ?_; clear h; rintro _ w ⟨rfl, h⟩; try dsimp only [Act.put]) | (refine wl_runs rfl (ex_store1m h _ _ _ rfl _ _ rfl _ rfl) ?_; clear h; rintro _ w ⟨rfl, h⟩; try dsimp only [Act.put]) | (refine wl_runs rfl (ex_store h _ _ _ rfl _ _ rfl _ rfl) ?_; clear h; rintro _ w ⟨rfl, h⟩; try dsimp only [Act.put]) | (refine wl_runs rfl (ex_alloc h _ rfl) ?_; clear h; rintro _ w ⟨g, rfl, h⟩) | (refine wl_runs rfl (ex_box h _ _ rfl _ rfl) ?_; clear h; rintro _ w ⟨g, rfl, h⟩) | (refine wl_runs rfl (ex_box1i h _ _ rfl _ _ rfl) ?_; clear h; rintro _ w ⟨g, rfl, h⟩) | (refine wl_runs rfl (ex_box1s h _ _ rfl _ _ _ rfl) ?_; clear h; rintro _ w ⟨g, rfl, h⟩) | (refine wl_runs rfl (ex_box1b h _ _ rfl _ rfl) ?_; clear h; rintro _ w ⟨g, rfl, h⟩) | (refine wl_runs rfl (ex_box1t h _ _ rfl _ rfl) ?_; clear h; rintro _ w ⟨g, rfl, h⟩) | (refine wl_runs rfl (ex_box1p h _ _ rfl _ rfl) ?_; clear h; rintro _ w ⟨g, rfl, h⟩) | (refine wl_runs rfl (ex_box1m h _ _ rfl _ rfl) ?_; clear h; rintro _ w ⟨g, rfl, h⟩) | (refine wl_runs rfl (ex_slice1 h _ _ rfl _ rfl) ?_; clear h; rintro _ w ⟨g, rfl, h⟩) | (refine wl_runs rfl (ex_slice1i h _ _ rfl _ _ rfl) ?_; clear h; rintro _ w ⟨g, rfl, h⟩) | (refine wl_runs rfl (ex_slice1s h _ _ rfl _ _ _ rfl) ?_; clear h; rintro _ w ⟨g, rfl, h⟩) | (refine wl_runs rfl (ex_slice1b h _ _ rfl _ rfl) ?_; clear h; rintro _ w ⟨g, rfl, h⟩) | (refine wl_runs rfl (ex_slice1t h _ _ rfl _ rfl) ?_; clear h; rintro _ w ⟨g, rfl, h⟩) | (refine wl_runs rfl (ex_slice1p h _ _ rfl _ rfl) ?_; clear h; rintro _ w ⟨g, rfl, h⟩) | (refine wl_runs rfl (ex_slice1m h _ _ rfl _ rfl) ?_; clear h; rintro _ w ⟨g, rfl, h⟩) | (refine wl_reads rfl (ex_lit0 _ rfl) ?_))
      go_ret2
      exact ⟨none, 0, rfl, A, n, c, (h.perm k.perm).nilRow 5 1⟩
    · have f2 : ((m : Int) == 0) = false := by simp; omega
      cases tp with
      | none => have hb := h.tpNil; subst hb; simp at hle; omega
      | some g =>
        have h := h.tpOpen g
        have hn := (h.sl A n c).n_eq
        rw [← hn] at hle f1
        have hcap := (h.sl A n c).le
        have hcut : Sl w A m m 1 (u8s (b.take m)) := by
          rw [← u8s_take]
          simpa using (h.sl A n c).take hle (show m ≤ c by omega) (Nat.le_refl m)
        have hc6 : c ≤ 9223372036854775807 := by have := (h.sl A n c).cap; simpa [maxLen] using this
        rw [← hn] at hL
        unfold tpv
        unfold tpv at hL
        simp only [Option.map_some] at hL ⊢
        clear hn
        go_enter Try.func57, Try.ntmps57
        go_wp2_with (first
          | (go_at_call 90; refine hL.mono ?_; rintro e w' ⟨rfl, rfl⟩)
          | (refine wl_runs rfl (ex_append_nil h _ _ _ rfl rfl A m m rfl hcut (u8s_one _) (by simp [maxLen]; omega) (by omega)) ?_; clear h; rintro _ w ⟨A2, c2, rfl, h⟩)
          | (refine wl_reads rfl (ex_loadv h _ _ rfl _ _ rfl) ?_) | (refine wl_runs rfl (ex_store1i h _ _ _ rfl _ _ rfl _ _ rfl) ?_; clear h; rintro _ w ⟨rfl, h⟩; try dsimp only [Act.put]) | (refine wl_runs rfl (ex_store1s h _ _ _ rfl _ _ rfl _ _ _ rfl) ?_; clear h; rintro _ w ⟨rfl, h⟩; try dsimp only [Act.put]) | (refine wl_runs rfl (ex_store1b h _ _ _ rfl _ _ rfl _ rfl) ?_; clear h; rintro _ w ⟨rfl, h⟩; try dsimp only [Act.put]) | (refine wl_runs rfl (ex_store1t h _ _ _ rfl _ _ rfl _ rfl) ?_; clear h; rintro _ w ⟨rfl, h⟩; try dsimp only [Act.put]) | (refine wl_runs rfl (ex_store1p h _ _ _ rfl _ _ rfl _ rfl) ?_; clear h; rintro _ w ⟨rfl, h⟩; try dsimp only [Act.put]) | (refine wl_runs rfl (ex_store1m h _ _ _ rfl _ _ rfl _ rfl) ?_; clear h; rintro _ w ⟨rfl, h⟩; try dsimp only [Act.put]) | (refine wl_runs rfl (ex_store h _ _ _ rfl _ _ rfl _ rfl) ?_; clear h; rintro _ w ⟨rfl, h⟩; try dsimp only [Act.put]) | (refine wl_runs rfl (ex_alloc h _ rfl) ?_; clear h; rintro _ w ⟨g, rfl, h⟩) | (refine wl_runs rfl (ex_box h _ _ rfl _ rfl) ?_; clear h; rintro _ w ⟨g, rfl, h⟩) | (refine wl_runs rfl (ex_box1i h _ _ rfl _ _ rfl) ?_; clear h; rintro _ w ⟨g, rfl, h⟩) | (refine wl_runs rfl (ex_box1s h _ _ rfl _ _ _ rfl) ?_; clear h; rintro _ w ⟨g, rfl, h⟩) | (refine wl_runs rfl (ex_box1b h _ _ rfl _ rfl) ?_; clear h; rintro _ w ⟨g, rfl, h⟩) | (refine wl_runs rfl (ex_box1t h _ _ rfl _ rfl) ?_; clear h; rintro _ w ⟨g, rfl, h⟩) | (refine wl_runs rfl (ex_box1p h _ _ rfl _ rfl) ?_; clear h; rintro _ w ⟨g, rfl, h⟩) | (refine wl_runs rfl (ex_box1m h _ _ rfl _ rfl) ?_; clear h; rintro _ w ⟨g, rfl, h⟩) | (refine wl_runs rfl (ex_slice1 h _ _ rfl _ rfl) ?_; clear h; rintro _ w ⟨g, rfl, h⟩) | (refine wl_runs rfl (ex_slice1i h _ _ rfl _ _ rfl) ?_; clear h; rintro _ w ⟨g, rfl, h⟩) | (refine wl_runs rfl (ex_slice1s h _ _ rfl _ _ _ rfl) ?_; clear h; rintro _ w ⟨g, rfl, h⟩) | (refine wl_runs rfl (ex_slice1b h _ _ rfl _ rfl) ?_; clear h; rintro _ w ⟨g, rfl, h⟩) | (refine wl_runs rfl (ex_slice1t h _ _ rfl _ rfl) ?_; clear h; rintro _ w ⟨g, rfl, h⟩) | (refine wl_runs rfl (ex_slice1p h _ _ rfl _ rfl) ?_; clear h; rintro _ w ⟨g, rfl, h⟩) | (refine wl_runs rfl (ex_slice1m h _ _ rfl _ rfl) ?_; clear h; rintro _ w ⟨g, rfl, h⟩) | (refine wl_reads rfl (ex_lit0 _ rfl) ?_))
        all_goals
          rename_i q
          go_ret2
          refine ⟨A2, c2, rfl, (if c = m then A else A.map (·.add m)), n - m, c - m, ?_⟩
          have q2 : St S w0 w (eSl A n c 1 (u8s b) :: eBlk g 77 [.slice (if c = m then A else A.map (·.add m)) (n - m) (c - m)] :: eOwn 5 1 A2 m c2 (u8s (b.take m)) :: F) := q.to
          have q3 := q2.dropSl (k := Slot.hit _ _) (i := m) hle
          rw [Nat.mul_one, u8s_drop] at q3
          have q4 : St S w0 w (eBlk g 77 [.slice (if c = m then A else A.map (·.add m)) (n - m) (c - m)] :: eSl (if c = m then A else A.map (·.add m)) (n - m) (c - m) 1 (u8s (b.drop m)) :: eOwn 5 1 A2 m c2 (u8s (b.take m)) :: F) := q3.to
          exact (q4.tpShut).to
  · rw [takeM_no hle, takeE_no hle]
    have f1 : (b.length : Int) < (m : Int) := by omega
    go_enter Try.func57, Try.ntmps57
    go_wp2_with (first
      | (go_at_call 90; refine hL.mono ?_; rintro e w' ⟨rfl, rfl⟩)
      | (refine wl_reads rfl (ex_loadv h _ _ rfl _ _ rfl) ?_) | (refine wl_runs rfl (ex_store1i h _ _ _ rfl _ _ rfl _ _ rfl) ?_; clear h; rintro _ w ⟨rfl, h⟩; try dsimp only [Act.put]) | (refine wl_runs rfl (ex_store1s h _ _ _ rfl _ _ rfl _ _ _ rfl) ?_; clear h; rintro _ w ⟨rfl, h⟩; try dsimp only [Act.put]) | (refine wl_runs rfl (ex_store1b h _ _ _ rfl _ _ rfl _ rfl) ?_; clear h; rintro _ w ⟨rfl, h⟩; try dsimp only [Act.put]) | (refine wl_runs rfl (ex_store1t h _ _ _ rfl _ _ rfl _ rfl) ?_; clear h; rintro _ w ⟨rfl, h⟩; try dsimp only [Act.put]) | (refine wl_runs rfl (ex_store1p h _ _ _ rfl _ _ rfl _ rfl) ?_; clear h; rintro _ w ⟨rfl, h⟩; try dsimp only [Act.put]) | (refine wl_runs rfl (ex_store1m h _ _ _ rfl _ _ rfl _ rfl) ?_; clear h; rintro _ w ⟨rfl, h⟩; try dsimp only [Act.put]) | (refine wl_runs rfl (ex_store h _ _ _ rfl _ _ rfl _ rfl) ?_; clear h; rintro _ w ⟨rfl, h⟩; try dsimp only [Act.put]) | (refine wl_runs rfl (ex_alloc h _ rfl) ?_; clear h; rintro _ w ⟨g, rfl, h⟩) | (refine wl_runs rfl (ex_box h _ _ rfl _ rfl) ?_; clear h; rintro _ w ⟨g, rfl, h⟩) | (refine wl_runs rfl (ex_box1i h _ _ rfl _ _ rfl) ?_; clear h; rintro _ w ⟨g, rfl, h⟩) | (refine wl_runs rfl (ex_box1s h _ _ rfl _ _ _ rfl) ?_; clear h; rintro _ w ⟨g, rfl, h⟩) | (refine wl_runs rfl (ex_box1b h _ _ rfl _ rfl) ?_; clear h; rintro _ w ⟨g, rfl, h⟩) | (refine wl_runs rfl (ex_box1t h _ _ rfl _ rfl) ?_; clear h; rintro _ w ⟨g, rfl, h⟩) | (refine wl_runs rfl (ex_box1p h _ _ rfl _ rfl) ?_; clear h; rintro _ w ⟨g, rfl, h⟩) | (refine wl_runs rfl (ex_box1m h _ _ rfl _ rfl) ?_; clear h; rintro _ w ⟨g, rfl, h⟩) | (refine wl_runs rfl (ex_slice1 h _ _ rfl _ rfl) ?_; clear h; rintro _ w ⟨g, rfl, h⟩) | (refine wl_runs rfl (ex_slice1i h _ _ rfl _ _ rfl) ?_; clear h; rintro _ w ⟨g, rfl, h⟩) | (refine wl_runs rfl (ex_slice1s h _ _ rfl _ _ _ rfl) ?_; clear h; rintro _ w ⟨g, rfl, h⟩) | (refine wl_runs rfl (ex_slice1b h _ _ rfl _ rfl) ?_; clear h; rintro _ w ⟨g, rfl, h⟩) | (refine wl_runs rfl (ex_slice1t h _ _ rfl _ rfl) ?_; clear h; rintro _ w ⟨g, rfl, h⟩) | (refine wl_runs rfl (ex_slice1p h _ _ rfl _ rfl) ?_; clear h; rintro _ w ⟨g, rfl, h⟩) | (refine wl_runs rfl (ex_slice1m h _ _ rfl _ rfl) ?_; clear h; rintro _ w ⟨g, rfl, h⟩) | (refine wl_reads rfl (ex_lit0 _ rfl) ?_))
    go_ret2
    exact ⟨none, 0, rfl, A, n, c, (h.perm k.perm).nilRow 5 1⟩
/-- A key drawn: noughts if there is none. -/
def keyT (b : List UInt8) : List UInt8 := if 32 ≤ b.length then b.take 32 else zeros 32
theorem keyT_length (b : List UInt8) : (keyT b).length = 32 := by
  unfold keyT
  split
  · rw [List.length_take]; omega
  · simp [zeros]
set_option maxRecDepth 100000 in
theorem tape_key {S : Nat → Prop} {w0 w : World} {L F : List Ent} {tp : Option Nat} {A : Option Addr} {n c : Nat} {b : List UInt8} (h : St S w0 w L) [k : SlotTp L tp A n c b F] :
    Calls Try.prog 47 #[tpv tp] w fun e w' => e = .returned (.tuple #[.agg (u8s (keyT b)).toArray, .int .i64 (takeE 32 b : Int)]) ∧ ∃ A2 n2 c2, St S w0 w' (eTp tp A2 n2 c2 (takeM 32 b).2 :: F) := by
  by_cases hle : 32 ≤ b.length
  · have hk : keyT b = b.take 32 := if_pos hle
    have hkl : (b.take 32).length = 32 := by rw [List.length_take]; omega
    have hr : Row (u8s (b.take 32)) 32 := Row.mk' (by rw [u8s_length, hkl]) (u8s_one _) (by omega)
    rw [hk, takeM_yes hle, takeE_yes hle]
    have hat : ∀ (b0 off c : Nat) W', (Instr.arrayAt 29 (.slice (some ⟨b0, off, none⟩) 32 c)).run Try.prog W' = .ok (.pointer (some ⟨b0, off, none⟩)) W' := fun b0 off c W' => run_arrayAt _ _ _ 32 _ _ _ Try.underlying29 (Nat.le_refl _)
    go_enter Try.func47, Try.ntmps47
    go_wp2_with (first
      | (refine wl_runs rfl (ex_alloc h 29 rfl) ?_; clear h; rintro _ w ⟨gr, rfl, h⟩)
      | (go_at_call 57; refine (tape_take (tp := tp) h 32 (by omega)).mono ?_; rw [takeM_yes hle, takeE_yes hle]; simp only [hkl]; clear h; rintro e w ⟨A1, c1, rfl, A2, n2, c2, h⟩; obtain ⟨b0, off, rfl, hbl, hcs⟩ := (h.sl A1 32 c1).pos (by omega))
      | (refine wl_reads rfl (ex_load_at _ _ rfl b0 off rfl (u8s (b.take 32)) (by rw [u8s_length, hkl]) hcs) ?_)
      | (refine wl_reads rfl (ex_loadv h _ _ rfl _ _ rfl) ?_) | (refine wl_runs rfl (ex_store1i h _ _ _ rfl _ _ rfl _ _ rfl) ?_; clear h; rintro _ w ⟨rfl, h⟩; try dsimp only [Act.put]) | (refine wl_runs rfl (ex_store1s h _ _ _ rfl _ _ rfl _ _ _ rfl) ?_; clear h; rintro _ w ⟨rfl, h⟩; try dsimp only [Act.put]) | (refine wl_runs rfl (ex_store1b h _ _ _ rfl _ _ rfl _ rfl) ?_; clear h; rintro _ w ⟨rfl, h⟩; try dsimp only [Act.put]) | (refine wl_runs rfl (ex_store1t h _ _ _ rfl _ _ rfl _ rfl) ?_; clear h; rintro _ w ⟨rfl, h⟩; try dsimp only [Act.put]) | (refine wl_runs rfl (ex_store1p h _ _ _ rfl _ _ rfl _ rfl) ?_; clear h; rintro _ w ⟨rfl, h⟩; try dsimp only [Act.put]) | (refine wl_runs rfl (ex_store1m h _ _ _ rfl _ _ rfl _ rfl) ?_; clear h; rintro _ w ⟨rfl, h⟩; try dsimp only [Act.put]) | (refine wl_runs rfl (ex_store h _ _ _ rfl _ _ rfl _ rfl) ?_; clear h; rintro _ w ⟨rfl, h⟩; try dsimp only [Act.put]) | (refine wl_runs rfl (ex_alloc h _ rfl) ?_; clear h; rintro _ w ⟨g, rfl, h⟩) | (refine wl_runs rfl (ex_box h _ _ rfl _ rfl) ?_; clear h; rintro _ w ⟨g, rfl, h⟩) | (refine wl_runs rfl (ex_box1i h _ _ rfl _ _ rfl) ?_; clear h; rintro _ w ⟨g, rfl, h⟩) | (refine wl_runs rfl (ex_box1s h _ _ rfl _ _ _ rfl) ?_; clear h; rintro _ w ⟨g, rfl, h⟩) | (refine wl_runs rfl (ex_box1b h _ _ rfl _ rfl) ?_; clear h; rintro _ w ⟨g, rfl, h⟩) | (refine wl_runs rfl (ex_box1t h _ _ rfl _ rfl) ?_; clear h; rintro _ w ⟨g, rfl, h⟩) | (refine wl_runs rfl (ex_box1p h _ _ rfl _ rfl) ?_; clear h; rintro _ w ⟨g, rfl, h⟩) | (refine wl_runs rfl (ex_box1m h _ _ rfl _ rfl) ?_; clear h; rintro _ w ⟨g, rfl, h⟩) | (refine wl_runs rfl (ex_slice1 h _ _ rfl _ rfl) ?_; clear h; rintro _ w ⟨g, rfl, h⟩) | (refine wl_runs rfl (ex_slice1i h _ _ rfl _ _ rfl) ?_; clear h; rintro _ w ⟨g, rfl, h⟩) | (refine wl_runs rfl (ex_slice1s h _ _ rfl _ _ _ rfl) ?_; clear h; rintro _ w ⟨g, rfl, h⟩) | (refine wl_runs rfl (ex_slice1b h _ _ rfl _ rfl) ?_; clear h; rintro _ w ⟨g, rfl, h⟩) | (refine wl_runs rfl (ex_slice1t h _ _ rfl _ rfl) ?_; clear h; rintro _ w ⟨g, rfl, h⟩) | (refine wl_runs rfl (ex_slice1p h _ _ rfl _ rfl) ?_; clear h; rintro _ w ⟨g, rfl, h⟩) | (refine wl_runs rfl (ex_slice1m h _ _ rfl _ rfl) ?_; clear h; rintro _ w ⟨g, rfl, h⟩) | (refine wl_reads rfl (ex_lit0 _ rfl) ?_))
    refine bodyPost_ret (res_cell_tmp rfl rfl rfl (h.loadVar 29 gr 0)) rfl ?_
    exact ⟨rfl, A2, n2, c2, h.to⟩
  · have hk : keyT b = zeros 32 := if_neg hle
    rw [hk, takeM_no hle, takeE_no hle]
    go_enter Try.func47, Try.ntmps47
    go_wp2_with (first
      | (refine wl_runs rfl (ex_alloc h 29 rfl) ?_; clear h; rintro _ w ⟨gr, rfl, h⟩)
      | (go_at_call 57; refine (tape_take (tp := tp) h 32 (by omega)).mono ?_; rw [takeM_no hle, takeE_no hle]; clear h; rintro e w ⟨A1, c1, rfl, A2, n2, c2, h⟩)
      | (refine wl_reads rfl (ex_loadv h _ _ rfl _ _ rfl) ?_) | (refine wl_runs rfl (ex_store1i h _ _ _ rfl _ _ rfl _ _ rfl) ?_; clear h; rintro _ w ⟨rfl, h⟩; try dsimp only [Act.put]) | (refine wl_runs rfl (ex_store1s h _ _ _ rfl _ _ rfl _ _ _ rfl) ?_; clear h; rintro _ w ⟨rfl, h⟩; try dsimp only [Act.put]) | (refine wl_runs rfl (ex_store1b h _ _ _ rfl _ _ rfl _ rfl) ?_; clear h; rintro _ w ⟨rfl, h⟩; try dsimp only [Act.put]) | (refine wl_runs rfl (ex_store1t h _ _ _ rfl _ _ rfl _ rfl) ?_; clear h; rintro _ w ⟨rfl, h⟩; try dsimp only [Act.put]) | (refine wl_runs rfl (ex_store1p h _ _ _ rfl _ _ rfl _ rfl) ?_; clear h; rintro _ w ⟨rfl, h⟩; try dsimp only [Act.put]) | (refine wl_runs rfl (ex_store1m h _ _ _ rfl _ _ rfl _ rfl) ?_; clear h; rintro _ w ⟨rfl, h⟩; try dsimp only [Act.put]) | (refine wl_runs rfl (ex_store h _ _ _ rfl _ _ rfl _ rfl) ?_; clear h; rintro _ w ⟨rfl, h⟩; try dsimp only [Act.put]) | (refine wl_runs rfl (ex_alloc h _ rfl) ?_; clear h; rintro _ w ⟨g, rfl, h⟩) | (refine wl_runs rfl (ex_box h _ _ rfl _ rfl) ?_; clear h; rintro _ w ⟨g, rfl, h⟩) | (refine wl_runs rfl (ex_box1i h _ _ rfl _ _ rfl) ?_; clear h; rintro _ w ⟨g, rfl, h⟩) | (refine wl_runs rfl (ex_box1s h _ _ rfl _ _ _ rfl) ?_; clear h; rintro _ w ⟨g, rfl, h⟩) | (refine wl_runs rfl (ex_box1b h _ _ rfl _ rfl) ?_; clear h; rintro _ w ⟨g, rfl, h⟩) | (refine wl_runs rfl (ex_box1t h _ _ rfl _ rfl) ?_; clear h; rintro _ w ⟨g, rfl, h⟩) | (refine wl_runs rfl (ex_box1p h _ _ rfl _ rfl) ?_; clear h; rintro _ w ⟨g, rfl, h⟩) | (refine wl_runs rfl (ex_box1m h _ _ rfl _ rfl) ?_; clear h; rintro _ w ⟨g, rfl, h⟩) | (refine wl_runs rfl (ex_slice1 h _ _ rfl _ rfl) ?_; clear h; rintro _ w ⟨g, rfl, h⟩) | (refine wl_runs rfl (ex_slice1i h _ _ rfl _ _ rfl) ?_; clear h; rintro _ w ⟨g, rfl, h⟩) | (refine wl_runs rfl (ex_slice1s h _ _ rfl _ _ _ rfl) ?_; clear h; rintro _ w ⟨g, rfl, h⟩) | (refine wl_runs rfl (ex_slice1b h _ _ rfl _ rfl) ?_; clear h; rintro _ w ⟨g, rfl, h⟩) | (refine wl_runs rfl (ex_slice1t h _ _ rfl _ rfl) ?_; clear h; rintro _ w ⟨g, rfl, h⟩) | (refine wl_runs rfl (ex_slice1p h _ _ rfl _ rfl) ?_; clear h; rintro _ w ⟨g, rfl, h⟩) | (refine wl_runs rfl (ex_slice1m h _ _ rfl _ rfl) ?_; clear h; rintro _ w ⟨g, rfl, h⟩) | (refine wl_reads rfl (ex_lit0 _ rfl) ?_))
    refine bodyPost_ret (res_cell_tmp rfl rfl rfl (h.loadVar 29 gr 0)) rfl ?_
    exact ⟨rfl, A2, n2, c2, h.to⟩
end Go.Proofs.Ytcmgjoamfjijhaa
namespace Go.Proofs.Ytcmgjoamfjijhaa
open Go.RowKit Go.Maps
set_option linter.unusedVariables false
set_option linter.unusedSimpArgs false

theorem laidOutSu : laidOutB Try.prog = true := by kernel_rfl
instance (a b : Nat) (x0 x1 x2 x3 x4 x5 x6 x7 : Nat × Nat) (l : List (Nat × Nat)) : PlaceAt (x0 :: x1 :: x2 :: x3 :: x4 :: x5 :: x6 :: x7 :: (a, b) :: l) 8 a b := ⟨rfl⟩
/-- A question: its kind, key, label, text. -/
abbrev Ask := { n : Nat // n < 3 } × Id × Nm × Nm
/-- What was answered: the key, the label, the answer. -/
abbrev Giv := Id × Nm × Nm
def askc (q : Ask) : List Value := c_suite_ask (.int .i64 (q.1.1 : Int)) (u8s q.2.1.1) (.string (str q.2.2.1.1)) (.string (str q.2.2.2.1))
def askv (q : Ask) : Value := .agg (askc q).toArray
def givc (q : Giv) : List Value := c_suite_given (u8s q.1.1) (.string (str q.2.1.1)) (.string (str q.2.2.1))
def givv (q : Giv) : Value := .agg (givc q).toArray
theorem askc_eq (q : Ask) : askc q = [.int .i64 (q.1.1 : Int)] ++ (u8s q.2.1.1 ++ [.string (str q.2.2.1.1), .string (str q.2.2.2.1)]) := rfl
theorem givc_eq (q : Giv) : givc q = u8s q.1.1 ++ [.string (str q.2.1.1), .string (str q.2.2.1)] := rfl
theorem u8s_id (x : Id) : (u8s x.1).length = 32 := by rw [u8s_length, x.2]
theorem cell_part {xs : List Value} {i : Nat} {v : Value} (h : Cell xs i v) : (xs.drop i).take 1 = [v] := by
  obtain ⟨hi, hv⟩ := List.getElem?_eq_some_iff.1 h.eq
  rw [List.drop_eq_getElem_cons hi, hv]
  rfl
instance mk_ask : MapKey Try.prog 85 askv := by
  have hs : (Try.prog).types.size = ((Try.prog).types.size - 2) + 2 := by kernel_rfl
  refine mapkey_rec (m := 6) (Try.underlying85) (by kernel_rfl) laidOutSu (by omega) (of_decide_eq_true (by kernel_rfl)) (by kernel_rfl) (by kernel_rfl) hs askc (fun _ => rfl) (fun a => ?_) (fun a f hf => ?_) (fun a b h => ?_)
  · rw [show (Try.prog).cellsOf 85 = 35 from by kernel_rfl]
    simp [askc_eq, u8s_id]
  · simp only [List.mem_cons, List.not_mem_nil, or_false] at hf
    rcases hf with rfl | rfl | rfl | rfl
    · rw [show (Try.prog).cellsOf 3 = 1 from by kernel_rfl, askc, cell_part (c_suite_ask.p_kind _ _ _ _)]
      exact keyLits_i64 Try.underlying3 _ _ (by have := a.1.2; omega)
    · rw [show (Try.prog).cellsOf 29 = 32 from by kernel_rfl, askc, (c_suite_ask.p_key _ _ _ _).eq]
      exact keyLits_id Try.underlying29 Try.underlying5 (by kernel_rfl) (by kernel_rfl) _ _
    · rw [show (Try.prog).cellsOf 9 = 1 from by kernel_rfl, askc, cell_part (c_suite_ask.p_label _ _ _ _)]
      exact keyLits_nm Try.underlying9 _ _
    · rw [show (Try.prog).cellsOf 9 = 1 from by kernel_rfl, askc, cell_part (c_suite_ask.p_in _ _ _ _)]
      exact keyLits_nm Try.underlying9 _ _
  · obtain ⟨⟨a1, a1h⟩, a2, a3, a4⟩ := a
    obtain ⟨⟨b1, b1h⟩, b2, b3, b4⟩ := b
    simp only [askc_eq] at h
    have h1 := List.append_inj h (by simp)
    have h2 := List.append_inj h1.2 (by simp [u8s_id])
    simp only [List.cons.injEq, Value.int.injEq, and_true, true_and] at h1
    simp only [List.cons.injEq, Value.string.injEq, and_true] at h2
    obtain rfl : a1 = b1 := by omega
    obtain rfl : a2 = b2 := Subtype.ext (u8s_inj h2.1)
    obtain rfl : a3 = b3 := Subtype.ext (str_inj h2.2.1)
    obtain rfl : a4 = b4 := Subtype.ext (str_inj h2.2.2)
    rfl
instance mk_giv : MapKey Try.prog 88 givv := by
  have hs : (Try.prog).types.size = ((Try.prog).types.size - 2) + 2 := by kernel_rfl
  refine mapkey_rec (m := 6) (Try.underlying88) (by kernel_rfl) laidOutSu (by omega) (of_decide_eq_true (by kernel_rfl)) (by kernel_rfl) (by kernel_rfl) hs givc (fun _ => rfl) (fun a => ?_) (fun a f hf => ?_) (fun a b h => ?_)
  · rw [show (Try.prog).cellsOf 88 = 34 from by kernel_rfl]
    simp [givc_eq, u8s_id]
  · simp only [List.mem_cons, List.not_mem_nil, or_false] at hf
    rcases hf with rfl | rfl | rfl
    · rw [show (Try.prog).cellsOf 29 = 32 from by kernel_rfl, givc, (c_suite_given.p_key _ _ _).eq]
      exact keyLits_id Try.underlying29 Try.underlying5 (by kernel_rfl) (by kernel_rfl) _ _
    · rw [show (Try.prog).cellsOf 9 = 1 from by kernel_rfl, givc, cell_part (c_suite_given.p_label _ _ _)]
      exact keyLits_nm Try.underlying9 _ _
    · rw [show (Try.prog).cellsOf 9 = 1 from by kernel_rfl, givc, cell_part (c_suite_given.p_out _ _ _)]
      exact keyLits_nm Try.underlying9 _ _
  · obtain ⟨a2, a3, a4⟩ := a
    obtain ⟨b2, b3, b4⟩ := b
    simp only [givc_eq] at h
    have h2 := List.append_inj h (by simp [u8s_id])
    simp only [List.cons.injEq, Value.string.injEq, and_true] at h2
    obtain rfl : a2 = b2 := Subtype.ext (u8s_inj h2.1)
    obtain rfl : a3 = b3 := Subtype.ext (str_inj h2.2.1)
    obtain rfl : a4 = b4 := Subtype.ext (str_inj h2.2.2)
    rfl
instance mk_id : MapKey Try.prog 49 idv :=
  mapkey_id (m := 6) (s := (Try.prog).types.size - 1) Try.underlying49 Try.underlying5 laidOutSu (by omega) (of_decide_eq_true (by kernel_rfl)) (by kernel_rfl) (by kernel_rfl) (by kernel_rfl) (by kernel_rfl) (by kernel_rfl)
theorem mapTy_mk {P : Program} {t k e : TypeId} {z : Value} (h1 : P.underlying t = some (.map k e)) (h2 : (P.info? e).map (·.zero) = some (some z)) : MapTy P t k e z where
  und := h1
  zero w := by
    cases hq : P.info? e with
    | none => simp [hq] at h2
    | some i =>
      have : i.zero = some z := by simpa [hq] using h2
      simp [zeroValue, typeInfo, hq, this]
instance : MapTy Try.prog 69 85 9 (.string ByteArray.empty) := mapTy_mk Try.underlying69 (by kernel_rfl)
instance : MapTy Try.prog 70 88 9 (.string ByteArray.empty) := mapTy_mk Try.underlying70 (by kernel_rfl)
instance : MapTy Try.prog 71 49 9 (.string ByteArray.empty) := mapTy_mk Try.underlying71 (by kernel_rfl)
instance : MapTy Try.prog 72 49 4 (.bool false) := mapTy_mk Try.underlying72 (by kernel_rfl)
end Go.Proofs.Ytcmgjoamfjijhaa
namespace Go.Proofs.Ytcmgjoamfjijhaa
open Go.RowKit Go.Shelf
set_option linter.unusedVariables false
set_option linter.unusedSimpArgs false

/-- The buckets, and that of a length (nought: none). -/
def bks : List Nat := [32, 64, 128, 256, 512, 1024, 2048, 4096, 8192, 16384, 32768, 65536]
def bkt (n : Int) : Nat := if n < 0 ∨ 65532 < n then 0 else (bks.find? fun k : Nat => decide (n + 4 ≤ (k : Int))).getD 0
theorem bks_get (k : Nat) (h : k < 12) : bks[k]? = some (32 * 2 ^ k) := by
  rcases k with _ | _ | _ | _ | _ | _ | _ | _ | _ | _ | _ | _ | k <;> first | rfl | omega
theorem bks_take {k : Nat} (h : k < 12) : bks.take (k + 1) = bks.take k ++ [32 * 2 ^ k] := by
  rw [List.take_add_one, bks_get k h]; rfl
theorem bkt_out {n : Int} (h : n < 0 ∨ 65532 < n) : bkt n = 0 := by rw [bkt, if_pos h]
theorem bkt_in {n : Int} (h : ¬ (n < 0 ∨ 65532 < n)) : ∃ k, k ∈ bks ∧ bkt n = k := by
  rw [bkt, if_neg h]
  cases hf : bks.find? fun k : Nat => decide (n + 4 ≤ (k : Int)) with
  | none =>
    have := List.find?_eq_none.1 hf 65536 (by simp [bks])
    simp at this
    omega
  | some k => exact ⟨k, List.mem_of_find?_eq_some hf, rfl⟩
theorem bkt_le (n : Int) : bkt n ≤ 65536 := by
  by_cases h : n < 0 ∨ 65532 < n
  · rw [bkt_out h]; omega
  · obtain ⟨k, hk, e⟩ := bkt_in h
    rw [e]
    simp [bks] at hk
    omega
theorem bkt_pos {n : Int} (h : 0 ≤ n ∧ n ≤ 65532) : 32 ≤ bkt n ∧ n + 4 ≤ bkt n := by
  have hn : ¬ (n < 0 ∨ 65532 < n) := by omega
  rw [bkt, if_neg hn]
  cases hf : bks.find? fun k : Nat => decide (n + 4 ≤ (k : Int)) with
  | none =>
    have := List.find?_eq_none.1 hf 65536 (by simp [bks])
    simp at this
    omega
  | some k =>
    have h1 := List.find?_some hf
    have h2 := List.mem_of_find?_eq_some hf
    simp [bks] at h1 h2
    simp only [Option.getD_some]
    omega
/-- The first of them that is great enough. -/
theorem bkt_find {n : Int} (h : ¬ (n < 0 ∨ 65532 < n)) {pre : List Nat} {k : Nat} (hp : pre ++ [k] <+: bks) (hno : ∀ x ∈ pre, ¬ n + 4 ≤ (x : Int)) (hk : n + 4 ≤ (k : Int)) : bkt n = k := by
  obtain ⟨t, ht⟩ := hp
  rw [bkt, if_neg h, ← ht, List.append_assoc, List.find?_append, List.find?_eq_none.2 (by simpa using hno)]
  simp [hk]
theorem buckets_make {S : Nat → Prop} {w0 w : World} {L : List Ent} (h : St S w0 w L) :
    Calls Try.prog 53 #[] w fun e w' => e = .returned (.func (.func 88) #[] #[]) ∧ St S w0 w' L := by
  go_enter Try.func53, Try.ntmps53
  go_wp2
  go_ret
  exact ⟨rfl, h⟩
theorem owns_nil0 : owns ([] : List Ent) = fun _ => False := by funext i; simp [owns]
theorem reads_nil0 : reads ([] : List Ent) = fun _ => False := by funext i; simp [reads]
set_option maxRecDepth 100000 in
set_option maxHeartbeats 1000000 in
theorem buckets_iters : Iters Try.prog 88 #[] (fun k : Nat => #[.int .i64 (k : Int)]) (fun pre x _ _ _ => pre ++ [x] <+: bks) (fun pre stopped Lf => Lf = [] ∧ (stopped = false → pre = bks)) [] := by
  intro n l J Jx W hW hJ hJx hY h0
  refine callsIn_wide.2 ?_
  rw [owns_nil0, reads_nil0] at h0
  go_enter Try.func88, Try.ntmps88
  go_wp2
  go_loopw [2] (fun x wr => ∃ k v : Nat, k ≤ 12 ∧ Hid (v = 32 * 2 ^ k) ∧ x = .int .i64 (v : Int) ∧ J (bks.take k) (fun _ => False) (fun _ => False) wr) (fun x _ => 200000 - (intOf x).toNat)
  case atStart => exact ⟨0, 32, by omega, Lib.hid rfl, rfl, h0⟩
  case round =>
    clear h0 hW
    obtain ⟨k, v, hk, Hv, rfl, hj⟩ := hrel
    by_cases hk2 : k < 12
    · have hv1 : 32 ≤ v ∧ v ≤ 65536 := by
        have h1 := bks_get k hk2
        have h2 := List.mem_of_getElem? h1
        rw [← Hv.out] at h2
        simp [bks] at h2
        omega
      obtain ⟨hv1, hv2⟩ := hv1
      have f1 : (v : Int) ≤ 65536 := by omega
      obtain ⟨fn, tmps, assign, body, hy, hR⟩ := hY _ v _ _ _ hj (by rw [Hv.out, ← bks_take hk2]; exact List.take_prefix _ _)
      go_upto_region 3 with (fail)
      refine (wpIn_wide (n := n)).1 ?_
      gi_wp2
      refine ⟨fun h => (by cases h), hR.mono ?_⟩
      rintro e W3 ⟨hs3, ⟨rfl, hJ3⟩ | ⟨rfl, hJx3⟩⟩
      · gi_wp2
        go_wp2
        refine ⟨⟨k + 1, v * 2, by omega, Lib.hid (by rw [Hv.out, Nat.pow_succ]; omega), by push_cast; rfl, by rw [bks_take hk2, ← Hv.out]; exact hJ3⟩, ?_⟩
        simp only [intOf]
        omega
      · gi_wp2
        go_wp2
        refine bodyPost_ret (results_none rfl _ _ _) rfl (IterEnd.stops (pre := bks.take k ++ [v]) (Lf := []) ⟨rfl, fun e => by cases e⟩ (St.nil _ |>.renew) (by rw [owns_nil0, reads_nil0]; exact hJx3))
    · have hk3 : k = 12 := by omega
      subst hk3
      have hv : v = 131072 := Hv.out
      subst hv
      go_wp2
      go_end0
      exact IterEnd.ends (pre := bks) (Lf := []) ⟨rfl, fun _ => rfl⟩ ((St.nil _).renew) (by rw [owns_nil0, reads_nil0]; exact hj)

def NoBkt (n : Int) (pre : List Nat) : Prop := ∀ x ∈ pre, ¬ n + 4 ≤ (x : Int)
def BktM (g1 g3 : Nat) (n : Int) (L : List Ent) (pre : List Nat) (L' : List Ent) : Prop := NoBkt n pre ∧ L' = eBlk g3 3 [.int .i64 0] :: eBlk g1 3 [.int .i64 n] :: L
def BktMx (g1 g3 : Nat) (n : Int) (L : List Ent) (c : Code) (pre : List Nat) (L' : List Ent) : Prop := c = .exit 0 ∧ L' = eBlk g3 3 [.int .i64 (bkt n : Int)] :: eBlk g1 3 [.int .i64 n] :: L
def BktAx (g1 g3 : Nat) (n : Int) (L : List Ent) (t : Array Value) (pre : List Nat) (x : Nat) (a' : Act) (L' : List Ent) : Prop := a' = { tmps := (t.setIfInBounds 13 (.int .i64 (x : Int))).setIfInBounds 4 (.int .i64 (x : Int)), defers := [] } ∧ BktM g1 g3 n L pre L'
attribute [local go_sem] Oper.semAt_some
set_option maxRecDepth 100000 in
set_option maxHeartbeats 1000000 in
theorem bucket_code {S : Nat → Prop} {w0 w : World} {L : List Ent} (h : St S w0 w L) (n : Int) (hn : (Lit.int .i64 n).wf = true) :
    Calls Try.prog 32 #[.int .i64 n] w fun e w' => e = .returned (.int .i64 (bkt n : Int)) ∧ St S w0 w' L := by
  by_cases hout : n < 0 ∨ 65532 < n
  · have hb := bkt_out hout
    rw [hb]
    by_cases h1 : n < 0
    · have f1 : decide (n < 0) = true := by simp [h1]
      go_enter Try.func32, Try.ntmps32
      go_wp2_with (first
        | (refine wl_runs rfl (ex_box1i h 3 _ rfl _ _ rfl) ?_; clear h; rintro _ w ⟨g1, rfl, h⟩)
        | (refine wl_reads rfl (ex_loadv h _ _ rfl _ _ rfl) ?_) | (refine wl_runs rfl (ex_store1i h _ _ _ rfl _ _ rfl _ _ rfl) ?_; clear h; rintro _ w ⟨rfl, h⟩; try dsimp only [Act.put]) | (refine wl_runs rfl (ex_store1s h _ _ _ rfl _ _ rfl _ _ _ rfl) ?_; clear h; rintro _ w ⟨rfl, h⟩; try dsimp only [Act.put]) | (refine wl_runs rfl (ex_store1b h _ _ _ rfl _ _ rfl _ rfl) ?_; clear h; rintro _ w ⟨rfl, h⟩; try dsimp only [Act.put]) | (refine wl_runs rfl (ex_store1t h _ _ _ rfl _ _ rfl _ rfl) ?_; clear h; rintro _ w ⟨rfl, h⟩; try dsimp only [Act.put]) | (refine wl_runs rfl (ex_store1p h _ _ _ rfl _ _ rfl _ rfl) ?_; clear h; rintro _ w ⟨rfl, h⟩; try dsimp only [Act.put]) | (refine wl_runs rfl (ex_store1m h _ _ _ rfl _ _ rfl _ rfl) ?_; clear h; rintro _ w ⟨rfl, h⟩; try dsimp only [Act.put]) | (refine wl_runs rfl (ex_store h _ _ _ rfl _ _ rfl _ rfl) ?_; clear h; rintro _ w ⟨rfl, h⟩; try dsimp only [Act.put]) | (refine wl_runs rfl (ex_alloc h _ rfl) ?_; clear h; rintro _ w ⟨g, rfl, h⟩) | (refine wl_runs rfl (ex_box h _ _ rfl _ rfl) ?_; clear h; rintro _ w ⟨g, rfl, h⟩) | (refine wl_runs rfl (ex_box1i h _ _ rfl _ _ rfl) ?_; clear h; rintro _ w ⟨g, rfl, h⟩) | (refine wl_runs rfl (ex_box1s h _ _ rfl _ _ _ rfl) ?_; clear h; rintro _ w ⟨g, rfl, h⟩) | (refine wl_runs rfl (ex_box1b h _ _ rfl _ rfl) ?_; clear h; rintro _ w ⟨g, rfl, h⟩) | (refine wl_runs rfl (ex_box1t h _ _ rfl _ rfl) ?_; clear h; rintro _ w ⟨g, rfl, h⟩) | (refine wl_runs rfl (ex_box1p h _ _ rfl _ rfl) ?_; clear h; rintro _ w ⟨g, rfl, h⟩) | (refine wl_runs rfl (ex_box1m h _ _ rfl _ rfl) ?_; clear h; rintro _ w ⟨g, rfl, h⟩) | (refine wl_runs rfl (ex_slice1 h _ _ rfl _ rfl) ?_; clear h; rintro _ w ⟨g, rfl, h⟩) | (refine wl_runs rfl (ex_slice1i h _ _ rfl _ _ rfl) ?_; clear h; rintro _ w ⟨g, rfl, h⟩) | (refine wl_runs rfl (ex_slice1s h _ _ rfl _ _ _ rfl) ?_; clear h; rintro _ w ⟨g, rfl, h⟩) | (refine wl_runs rfl (ex_slice1b h _ _ rfl _ rfl) ?_; clear h; rintro _ w ⟨g, rfl, h⟩) | (refine wl_runs rfl (ex_slice1t h _ _ rfl _ rfl) ?_; clear h; rintro _ w ⟨g, rfl, h⟩) | (refine wl_runs rfl (ex_slice1p h _ _ rfl _ rfl) ?_; clear h; rintro _ w ⟨g, rfl, h⟩) | (refine wl_runs rfl (ex_slice1m h _ _ rfl _ rfl) ?_; clear h; rintro _ w ⟨g, rfl, h⟩) | (refine wl_reads rfl (ex_lit0 _ rfl) ?_))
      go_step3
      go_wp2_with (first | (refine wl_reads rfl (ex_loadv h _ _ rfl _ _ rfl) ?_) | (refine wl_runs rfl (ex_store1i h _ _ _ rfl _ _ rfl _ _ rfl) ?_; clear h; rintro _ w ⟨rfl, h⟩; try dsimp only [Act.put]) | (refine wl_runs rfl (ex_store1s h _ _ _ rfl _ _ rfl _ _ _ rfl) ?_; clear h; rintro _ w ⟨rfl, h⟩; try dsimp only [Act.put]) | (refine wl_runs rfl (ex_store1b h _ _ _ rfl _ _ rfl _ rfl) ?_; clear h; rintro _ w ⟨rfl, h⟩; try dsimp only [Act.put]) | (refine wl_runs rfl (ex_store1t h _ _ _ rfl _ _ rfl _ rfl) ?_; clear h; rintro _ w ⟨rfl, h⟩; try dsimp only [Act.put]) | (refine wl_runs rfl (ex_store1p h _ _ _ rfl _ _ rfl _ rfl) ?_; clear h; rintro _ w ⟨rfl, h⟩; try dsimp only [Act.put]) | (refine wl_runs rfl (ex_store1m h _ _ _ rfl _ _ rfl _ rfl) ?_; clear h; rintro _ w ⟨rfl, h⟩; try dsimp only [Act.put]) | (refine wl_runs rfl (ex_store h _ _ _ rfl _ _ rfl _ rfl) ?_; clear h; rintro _ w ⟨rfl, h⟩; try dsimp only [Act.put]) | (refine wl_runs rfl (ex_alloc h _ rfl) ?_; clear h; rintro _ w ⟨g, rfl, h⟩) | (refine wl_runs rfl (ex_box h _ _ rfl _ rfl) ?_; clear h; rintro _ w ⟨g, rfl, h⟩) | (refine wl_runs rfl (ex_box1i h _ _ rfl _ _ rfl) ?_; clear h; rintro _ w ⟨g, rfl, h⟩) | (refine wl_runs rfl (ex_box1s h _ _ rfl _ _ _ rfl) ?_; clear h; rintro _ w ⟨g, rfl, h⟩) | (refine wl_runs rfl (ex_box1b h _ _ rfl _ rfl) ?_; clear h; rintro _ w ⟨g, rfl, h⟩) | (refine wl_runs rfl (ex_box1t h _ _ rfl _ rfl) ?_; clear h; rintro _ w ⟨g, rfl, h⟩) | (refine wl_runs rfl (ex_box1p h _ _ rfl _ rfl) ?_; clear h; rintro _ w ⟨g, rfl, h⟩) | (refine wl_runs rfl (ex_box1m h _ _ rfl _ rfl) ?_; clear h; rintro _ w ⟨g, rfl, h⟩) | (refine wl_runs rfl (ex_slice1 h _ _ rfl _ rfl) ?_; clear h; rintro _ w ⟨g, rfl, h⟩) | (refine wl_runs rfl (ex_slice1i h _ _ rfl _ _ rfl) ?_; clear h; rintro _ w ⟨g, rfl, h⟩) | (refine wl_runs rfl (ex_slice1s h _ _ rfl _ _ _ rfl) ?_; clear h; rintro _ w ⟨g, rfl, h⟩) | (refine wl_runs rfl (ex_slice1b h _ _ rfl _ rfl) ?_; clear h; rintro _ w ⟨g, rfl, h⟩) | (refine wl_runs rfl (ex_slice1t h _ _ rfl _ rfl) ?_; clear h; rintro _ w ⟨g, rfl, h⟩) | (refine wl_runs rfl (ex_slice1p h _ _ rfl _ rfl) ?_; clear h; rintro _ w ⟨g, rfl, h⟩) | (refine wl_runs rfl (ex_slice1m h _ _ rfl _ rfl) ?_; clear h; rintro _ w ⟨g, rfl, h⟩) | (refine wl_reads rfl (ex_lit0 _ rfl) ?_))
      try rw [Exit.noGoto_ret]
      go_ret
      exact ⟨rfl, h.to⟩
    · have f1 : decide (n < 0) = false := by simp [h1]
      have f2 : decide (65532 < n) = true := by simp; omega
      go_enter Try.func32, Try.ntmps32
      go_wp2_with (first
        | (refine wl_runs rfl (ex_box1i h 3 _ rfl _ _ rfl) ?_; clear h; rintro _ w ⟨g1, rfl, h⟩)
        | (refine wl_reads rfl (ex_loadv h _ _ rfl _ _ rfl) ?_) | (refine wl_runs rfl (ex_store1i h _ _ _ rfl _ _ rfl _ _ rfl) ?_; clear h; rintro _ w ⟨rfl, h⟩; try dsimp only [Act.put]) | (refine wl_runs rfl (ex_store1s h _ _ _ rfl _ _ rfl _ _ _ rfl) ?_; clear h; rintro _ w ⟨rfl, h⟩; try dsimp only [Act.put]) | (refine wl_runs rfl (ex_store1b h _ _ _ rfl _ _ rfl _ rfl) ?_; clear h; rintro _ w ⟨rfl, h⟩; try dsimp only [Act.put]) | (refine wl_runs rfl (ex_store1t h _ _ _ rfl _ _ rfl _ rfl) ?_; clear h; rintro _ w ⟨rfl, h⟩; try dsimp only [Act.put]) | (refine wl_runs rfl (ex_store1p h _ _ _ rfl _ _ rfl _ rfl) ?_; clear h; rintro _ w ⟨rfl, h⟩; try dsimp only [Act.put]) | (refine wl_runs rfl (ex_store1m h _ _ _ rfl _ _ rfl _ rfl) ?_; clear h; rintro _ w ⟨rfl, h⟩; try dsimp only [Act.put]) | (refine wl_runs rfl (ex_store h _ _ _ rfl _ _ rfl _ rfl) ?_; clear h; rintro _ w ⟨rfl, h⟩; try dsimp only [Act.put]) | (refine wl_runs rfl (ex_alloc h _ rfl) ?_; clear h; rintro _ w ⟨g, rfl, h⟩) | (refine wl_runs rfl (ex_box h _ _ rfl _ rfl) ?_; clear h; rintro _ w ⟨g, rfl, h⟩) | (refine wl_runs rfl (ex_box1i h _ _ rfl _ _ rfl) ?_; clear h; rintro _ w ⟨g, rfl, h⟩) | (refine wl_runs rfl (ex_box1s h _ _ rfl _ _ _ rfl) ?_; clear h; rintro _ w ⟨g, rfl, h⟩) | (refine wl_runs rfl (ex_box1b h _ _ rfl _ rfl) ?_; clear h; rintro _ w ⟨g, rfl, h⟩) | (refine wl_runs rfl (ex_box1t h _ _ rfl _ rfl) ?_; clear h; rintro _ w ⟨g, rfl, h⟩) | (refine wl_runs rfl (ex_box1p h _ _ rfl _ rfl) ?_; clear h; rintro _ w ⟨g, rfl, h⟩) | (refine wl_runs rfl (ex_box1m h _ _ rfl _ rfl) ?_; clear h; rintro _ w ⟨g, rfl, h⟩) | (refine wl_runs rfl (ex_slice1 h _ _ rfl _ rfl) ?_; clear h; rintro _ w ⟨g, rfl, h⟩) | (refine wl_runs rfl (ex_slice1i h _ _ rfl _ _ rfl) ?_; clear h; rintro _ w ⟨g, rfl, h⟩) | (refine wl_runs rfl (ex_slice1s h _ _ rfl _ _ _ rfl) ?_; clear h; rintro _ w ⟨g, rfl, h⟩) | (refine wl_runs rfl (ex_slice1b h _ _ rfl _ rfl) ?_; clear h; rintro _ w ⟨g, rfl, h⟩) | (refine wl_runs rfl (ex_slice1t h _ _ rfl _ rfl) ?_; clear h; rintro _ w ⟨g, rfl, h⟩) | (refine wl_runs rfl (ex_slice1p h _ _ rfl _ rfl) ?_; clear h; rintro _ w ⟨g, rfl, h⟩) | (refine wl_runs rfl (ex_slice1m h _ _ rfl _ rfl) ?_; clear h; rintro _ w ⟨g, rfl, h⟩) | (refine wl_reads rfl (ex_lit0 _ rfl) ?_))
      go_step3
      go_wp2_with (first | (refine wl_reads rfl (ex_loadv h _ _ rfl _ _ rfl) ?_) | (refine wl_runs rfl (ex_store1i h _ _ _ rfl _ _ rfl _ _ rfl) ?_; clear h; rintro _ w ⟨rfl, h⟩; try dsimp only [Act.put]) | (refine wl_runs rfl (ex_store1s h _ _ _ rfl _ _ rfl _ _ _ rfl) ?_; clear h; rintro _ w ⟨rfl, h⟩; try dsimp only [Act.put]) | (refine wl_runs rfl (ex_store1b h _ _ _ rfl _ _ rfl _ rfl) ?_; clear h; rintro _ w ⟨rfl, h⟩; try dsimp only [Act.put]) | (refine wl_runs rfl (ex_store1t h _ _ _ rfl _ _ rfl _ rfl) ?_; clear h; rintro _ w ⟨rfl, h⟩; try dsimp only [Act.put]) | (refine wl_runs rfl (ex_store1p h _ _ _ rfl _ _ rfl _ rfl) ?_; clear h; rintro _ w ⟨rfl, h⟩; try dsimp only [Act.put]) | (refine wl_runs rfl (ex_store1m h _ _ _ rfl _ _ rfl _ rfl) ?_; clear h; rintro _ w ⟨rfl, h⟩; try dsimp only [Act.put]) | (refine wl_runs rfl (ex_store h _ _ _ rfl _ _ rfl _ rfl) ?_; clear h; rintro _ w ⟨rfl, h⟩; try dsimp only [Act.put]) | (refine wl_runs rfl (ex_alloc h _ rfl) ?_; clear h; rintro _ w ⟨g, rfl, h⟩) | (refine wl_runs rfl (ex_box h _ _ rfl _ rfl) ?_; clear h; rintro _ w ⟨g, rfl, h⟩) | (refine wl_runs rfl (ex_box1i h _ _ rfl _ _ rfl) ?_; clear h; rintro _ w ⟨g, rfl, h⟩) | (refine wl_runs rfl (ex_box1s h _ _ rfl _ _ _ rfl) ?_; clear h; rintro _ w ⟨g, rfl, h⟩) | (refine wl_runs rfl (ex_box1b h _ _ rfl _ rfl) ?_; clear h; rintro _ w ⟨g, rfl, h⟩) | (refine wl_runs rfl (ex_box1t h _ _ rfl _ rfl) ?_; clear h; rintro _ w ⟨g, rfl, h⟩) | (refine wl_runs rfl (ex_box1p h _ _ rfl _ rfl) ?_; clear h; rintro _ w ⟨g, rfl, h⟩) | (refine wl_runs rfl (ex_box1m h _ _ rfl _ rfl) ?_; clear h; rintro _ w ⟨g, rfl, h⟩) | (refine wl_runs rfl (ex_slice1 h _ _ rfl _ rfl) ?_; clear h; rintro _ w ⟨g, rfl, h⟩) | (refine wl_runs rfl (ex_slice1i h _ _ rfl _ _ rfl) ?_; clear h; rintro _ w ⟨g, rfl, h⟩) | (refine wl_runs rfl (ex_slice1s h _ _ rfl _ _ _ rfl) ?_; clear h; rintro _ w ⟨g, rfl, h⟩) | (refine wl_runs rfl (ex_slice1b h _ _ rfl _ rfl) ?_; clear h; rintro _ w ⟨g, rfl, h⟩) | (refine wl_runs rfl (ex_slice1t h _ _ rfl _ rfl) ?_; clear h; rintro _ w ⟨g, rfl, h⟩) | (refine wl_runs rfl (ex_slice1p h _ _ rfl _ rfl) ?_; clear h; rintro _ w ⟨g, rfl, h⟩) | (refine wl_runs rfl (ex_slice1m h _ _ rfl _ rfl) ?_; clear h; rintro _ w ⟨g, rfl, h⟩) | (refine wl_reads rfl (ex_lit0 _ rfl) ?_))
      try rw [Exit.noGoto_ret]
      go_ret
      exact ⟨rfl, h.to⟩
  · have f1 : decide (n < 0) = false := by simp; omega
    have f2 : decide (65532 < n) = false := by simp; omega
    have Hout := Lib.hid hout
    clear hout
    refine callsIn_wide.1 (callsIn_of_wp_marks (F := Fence.wide) (n := 3) Try.func32 rfl trivial ?_ rfl)
    simp only [Try.ntmps32, List.size_toArray, List.length_cons, List.length_nil, Nat.reduceAdd, Nat.reduceSub, Array.replicate_succ, Array.replicate_zero, List.push_toArray, List.append_toArray, List.nil_append, List.cons_append]
    refine wpIn_wide.2 ?_
    have tr := True.intro
    go_wp2_with (first
      | (refine wl_runs rfl (ex_box1i h 3 _ rfl _ _ rfl) ?_; clear h; rintro _ w ⟨g1, rfl, h⟩)
      | (refine wl_reads rfl (ex_loadv h _ _ rfl _ _ rfl) ?_) | (refine wl_runs rfl (ex_store1i h _ _ _ rfl _ _ rfl _ _ rfl) ?_; clear h; rintro _ w ⟨rfl, h⟩; try dsimp only [Act.put]) | (refine wl_runs rfl (ex_store1s h _ _ _ rfl _ _ rfl _ _ _ rfl) ?_; clear h; rintro _ w ⟨rfl, h⟩; try dsimp only [Act.put]) | (refine wl_runs rfl (ex_store1b h _ _ _ rfl _ _ rfl _ rfl) ?_; clear h; rintro _ w ⟨rfl, h⟩; try dsimp only [Act.put]) | (refine wl_runs rfl (ex_store1t h _ _ _ rfl _ _ rfl _ rfl) ?_; clear h; rintro _ w ⟨rfl, h⟩; try dsimp only [Act.put]) | (refine wl_runs rfl (ex_store1p h _ _ _ rfl _ _ rfl _ rfl) ?_; clear h; rintro _ w ⟨rfl, h⟩; try dsimp only [Act.put]) | (refine wl_runs rfl (ex_store1m h _ _ _ rfl _ _ rfl _ rfl) ?_; clear h; rintro _ w ⟨rfl, h⟩; try dsimp only [Act.put]) | (refine wl_runs rfl (ex_store h _ _ _ rfl _ _ rfl _ rfl) ?_; clear h; rintro _ w ⟨rfl, h⟩; try dsimp only [Act.put]) | (refine wl_runs rfl (ex_alloc h _ rfl) ?_; clear h; rintro _ w ⟨g, rfl, h⟩) | (refine wl_runs rfl (ex_box h _ _ rfl _ rfl) ?_; clear h; rintro _ w ⟨g, rfl, h⟩) | (refine wl_runs rfl (ex_box1i h _ _ rfl _ _ rfl) ?_; clear h; rintro _ w ⟨g, rfl, h⟩) | (refine wl_runs rfl (ex_box1s h _ _ rfl _ _ _ rfl) ?_; clear h; rintro _ w ⟨g, rfl, h⟩) | (refine wl_runs rfl (ex_box1b h _ _ rfl _ rfl) ?_; clear h; rintro _ w ⟨g, rfl, h⟩) | (refine wl_runs rfl (ex_box1t h _ _ rfl _ rfl) ?_; clear h; rintro _ w ⟨g, rfl, h⟩) | (refine wl_runs rfl (ex_box1p h _ _ rfl _ rfl) ?_; clear h; rintro _ w ⟨g, rfl, h⟩) | (refine wl_runs rfl (ex_box1m h _ _ rfl _ rfl) ?_; clear h; rintro _ w ⟨g, rfl, h⟩) | (refine wl_runs rfl (ex_slice1 h _ _ rfl _ rfl) ?_; clear h; rintro _ w ⟨g, rfl, h⟩) | (refine wl_runs rfl (ex_slice1i h _ _ rfl _ _ rfl) ?_; clear h; rintro _ w ⟨g, rfl, h⟩) | (refine wl_runs rfl (ex_slice1s h _ _ rfl _ _ _ rfl) ?_; clear h; rintro _ w ⟨g, rfl, h⟩) | (refine wl_runs rfl (ex_slice1b h _ _ rfl _ rfl) ?_; clear h; rintro _ w ⟨g, rfl, h⟩) | (refine wl_runs rfl (ex_slice1t h _ _ rfl _ rfl) ?_; clear h; rintro _ w ⟨g, rfl, h⟩) | (refine wl_runs rfl (ex_slice1p h _ _ rfl _ rfl) ?_; clear h; rintro _ w ⟨g, rfl, h⟩) | (refine wl_runs rfl (ex_slice1m h _ _ rfl _ rfl) ?_; clear h; rintro _ w ⟨g, rfl, h⟩) | (refine wl_reads rfl (ex_lit0 _ rfl) ?_))
    go_step3
    go_wp2_with (first
      | (clear tr; refine wl_runs rfl (ex_alloc h 3 rfl) ?_; clear h; rintro _ w ⟨g3, rfl, h⟩)
      | (go_at_call 53; refine (buckets_make h).mono ?_; clear h; rintro e w ⟨rfl, h⟩)
      | (refine wl_reads rfl (ex_loadv h _ _ rfl _ _ rfl) ?_) | (refine wl_runs rfl (ex_store1i h _ _ _ rfl _ _ rfl _ _ rfl) ?_; clear h; rintro _ w ⟨rfl, h⟩; try dsimp only [Act.put]) | (refine wl_runs rfl (ex_store1s h _ _ _ rfl _ _ rfl _ _ _ rfl) ?_; clear h; rintro _ w ⟨rfl, h⟩; try dsimp only [Act.put]) | (refine wl_runs rfl (ex_store1b h _ _ _ rfl _ _ rfl _ rfl) ?_; clear h; rintro _ w ⟨rfl, h⟩; try dsimp only [Act.put]) | (refine wl_runs rfl (ex_store1t h _ _ _ rfl _ _ rfl _ rfl) ?_; clear h; rintro _ w ⟨rfl, h⟩; try dsimp only [Act.put]) | (refine wl_runs rfl (ex_store1p h _ _ _ rfl _ _ rfl _ rfl) ?_; clear h; rintro _ w ⟨rfl, h⟩; try dsimp only [Act.put]) | (refine wl_runs rfl (ex_store1m h _ _ _ rfl _ _ rfl _ rfl) ?_; clear h; rintro _ w ⟨rfl, h⟩; try dsimp only [Act.put]) | (refine wl_runs rfl (ex_store h _ _ _ rfl _ _ rfl _ rfl) ?_; clear h; rintro _ w ⟨rfl, h⟩; try dsimp only [Act.put]) | (refine wl_runs rfl (ex_alloc h _ rfl) ?_; clear h; rintro _ w ⟨g, rfl, h⟩) | (refine wl_runs rfl (ex_box h _ _ rfl _ rfl) ?_; clear h; rintro _ w ⟨g, rfl, h⟩) | (refine wl_runs rfl (ex_box1i h _ _ rfl _ _ rfl) ?_; clear h; rintro _ w ⟨g, rfl, h⟩) | (refine wl_runs rfl (ex_box1s h _ _ rfl _ _ _ rfl) ?_; clear h; rintro _ w ⟨g, rfl, h⟩) | (refine wl_runs rfl (ex_box1b h _ _ rfl _ rfl) ?_; clear h; rintro _ w ⟨g, rfl, h⟩) | (refine wl_runs rfl (ex_box1t h _ _ rfl _ rfl) ?_; clear h; rintro _ w ⟨g, rfl, h⟩) | (refine wl_runs rfl (ex_box1p h _ _ rfl _ rfl) ?_; clear h; rintro _ w ⟨g, rfl, h⟩) | (refine wl_runs rfl (ex_box1m h _ _ rfl _ rfl) ?_; clear h; rintro _ w ⟨g, rfl, h⟩) | (refine wl_runs rfl (ex_slice1 h _ _ rfl _ rfl) ?_; clear h; rintro _ w ⟨g, rfl, h⟩) | (refine wl_runs rfl (ex_slice1i h _ _ rfl _ _ rfl) ?_; clear h; rintro _ w ⟨g, rfl, h⟩) | (refine wl_runs rfl (ex_slice1s h _ _ rfl _ _ _ rfl) ?_; clear h; rintro _ w ⟨g, rfl, h⟩) | (refine wl_runs rfl (ex_slice1b h _ _ rfl _ rfl) ?_; clear h; rintro _ w ⟨g, rfl, h⟩) | (refine wl_runs rfl (ex_slice1t h _ _ rfl _ rfl) ?_; clear h; rintro _ w ⟨g, rfl, h⟩) | (refine wl_runs rfl (ex_slice1p h _ _ rfl _ rfl) ?_; clear h; rintro _ w ⟨g, rfl, h⟩) | (refine wl_runs rfl (ex_slice1m h _ _ rfl _ rfl) ?_; clear h; rintro _ w ⟨g, rfl, h⟩) | (refine wl_reads rfl (ex_lit0 _ rfl) ?_))
    go_step3
    go_wp2_with (first
      | (go_at_call 53; refine (buckets_make h).mono ?_; clear h; rintro e w ⟨rfl, h⟩)
      | (refine wl_reads rfl (ex_loadv h _ _ rfl _ _ rfl) ?_) | (refine wl_runs rfl (ex_store1i h _ _ _ rfl _ _ rfl _ _ rfl) ?_; clear h; rintro _ w ⟨rfl, h⟩; try dsimp only [Act.put]) | (refine wl_runs rfl (ex_store1s h _ _ _ rfl _ _ rfl _ _ _ rfl) ?_; clear h; rintro _ w ⟨rfl, h⟩; try dsimp only [Act.put]) | (refine wl_runs rfl (ex_store1b h _ _ _ rfl _ _ rfl _ rfl) ?_; clear h; rintro _ w ⟨rfl, h⟩; try dsimp only [Act.put]) | (refine wl_runs rfl (ex_store1t h _ _ _ rfl _ _ rfl _ rfl) ?_; clear h; rintro _ w ⟨rfl, h⟩; try dsimp only [Act.put]) | (refine wl_runs rfl (ex_store1p h _ _ _ rfl _ _ rfl _ rfl) ?_; clear h; rintro _ w ⟨rfl, h⟩; try dsimp only [Act.put]) | (refine wl_runs rfl (ex_store1m h _ _ _ rfl _ _ rfl _ rfl) ?_; clear h; rintro _ w ⟨rfl, h⟩; try dsimp only [Act.put]) | (refine wl_runs rfl (ex_store h _ _ _ rfl _ _ rfl _ rfl) ?_; clear h; rintro _ w ⟨rfl, h⟩; try dsimp only [Act.put]) | (refine wl_runs rfl (ex_alloc h _ rfl) ?_; clear h; rintro _ w ⟨g, rfl, h⟩) | (refine wl_runs rfl (ex_box h _ _ rfl _ rfl) ?_; clear h; rintro _ w ⟨g, rfl, h⟩) | (refine wl_runs rfl (ex_box1i h _ _ rfl _ _ rfl) ?_; clear h; rintro _ w ⟨g, rfl, h⟩) | (refine wl_runs rfl (ex_box1s h _ _ rfl _ _ _ rfl) ?_; clear h; rintro _ w ⟨g, rfl, h⟩) | (refine wl_runs rfl (ex_box1b h _ _ rfl _ rfl) ?_; clear h; rintro _ w ⟨g, rfl, h⟩) | (refine wl_runs rfl (ex_box1t h _ _ rfl _ rfl) ?_; clear h; rintro _ w ⟨g, rfl, h⟩) | (refine wl_runs rfl (ex_box1p h _ _ rfl _ rfl) ?_; clear h; rintro _ w ⟨g, rfl, h⟩) | (refine wl_runs rfl (ex_box1m h _ _ rfl _ rfl) ?_; clear h; rintro _ w ⟨g, rfl, h⟩) | (refine wl_runs rfl (ex_slice1 h _ _ rfl _ rfl) ?_; clear h; rintro _ w ⟨g, rfl, h⟩) | (refine wl_runs rfl (ex_slice1i h _ _ rfl _ _ rfl) ?_; clear h; rintro _ w ⟨g, rfl, h⟩) | (refine wl_runs rfl (ex_slice1s h _ _ rfl _ _ _ rfl) ?_; clear h; rintro _ w ⟨g, rfl, h⟩) | (refine wl_runs rfl (ex_slice1b h _ _ rfl _ rfl) ?_; clear h; rintro _ w ⟨g, rfl, h⟩) | (refine wl_runs rfl (ex_slice1t h _ _ rfl _ rfl) ?_; clear h; rintro _ w ⟨g, rfl, h⟩) | (refine wl_runs rfl (ex_slice1p h _ _ rfl _ rfl) ?_; clear h; rintro _ w ⟨g, rfl, h⟩) | (refine wl_runs rfl (ex_slice1m h _ _ rfl _ rfl) ?_; clear h; rintro _ w ⟨g, rfl, h⟩) | (refine wl_reads rfl (ex_lit0 _ rfl) ?_))
    refine wp_iter (Li := []) (L0 := eBlk g3 3 [.int .i64 0] :: eBlk g1 3 [.int .i64 n] :: L) rfl (enters_of Try.func88 (by kernel_rfl) rfl) buckets_iters (fun _ => rfl) (show St S w0 w (eBlk g3 3 [.int .i64 0] :: eBlk g1 3 [.int .i64 n] :: L) from h.to)
      (BktM g1 g3 n L) (BktMx g1 g3 n L) (BktAx g1 g3 n L) ⟨fun _ h => (by cases h), rfl⟩ ?assign ?body ?done ?stop
    case assign =>
      rintro l T X O R' pre x L' W ⟨hno, rfl⟩ _ h
      rw [zip1]
      simp only [List.setIfInBounds_toArray, List.set_cons_succ, List.set_cons_zero]
      gi_wp2_with (first
        | (refine wi_reads rfl (ex_loadv h _ _ rfl _ _ rfl) ?_) | (refine wi_runs rfl (ex_store1i h _ _ _ rfl _ _ rfl _ _ rfl) ?_; clear h; rintro _ w ⟨rfl, h⟩; try dsimp only [Act.put]) | (refine wi_runs rfl (ex_store1s h _ _ _ rfl _ _ rfl _ _ _ rfl) ?_; clear h; rintro _ w ⟨rfl, h⟩; try dsimp only [Act.put]) | (refine wi_runs rfl (ex_store1b h _ _ _ rfl _ _ rfl _ rfl) ?_; clear h; rintro _ w ⟨rfl, h⟩; try dsimp only [Act.put]) | (refine wi_runs rfl (ex_store1t h _ _ _ rfl _ _ rfl _ rfl) ?_; clear h; rintro _ w ⟨rfl, h⟩; try dsimp only [Act.put]) | (refine wi_runs rfl (ex_store1p h _ _ _ rfl _ _ rfl _ rfl) ?_; clear h; rintro _ w ⟨rfl, h⟩; try dsimp only [Act.put]) | (refine wi_runs rfl (ex_store1m h _ _ _ rfl _ _ rfl _ rfl) ?_; clear h; rintro _ w ⟨rfl, h⟩; try dsimp only [Act.put]) | (refine wi_runs rfl (ex_store h _ _ _ rfl _ _ rfl _ rfl) ?_; clear h; rintro _ w ⟨rfl, h⟩; try dsimp only [Act.put]) | (refine wi_runs rfl (ex_alloc h _ rfl) ?_; clear h; rintro _ w ⟨g, rfl, h⟩) | (refine wi_runs rfl (ex_box h _ _ rfl _ rfl) ?_; clear h; rintro _ w ⟨g, rfl, h⟩) | (refine wi_runs rfl (ex_box1i h _ _ rfl _ _ rfl) ?_; clear h; rintro _ w ⟨g, rfl, h⟩) | (refine wi_runs rfl (ex_box1s h _ _ rfl _ _ _ rfl) ?_; clear h; rintro _ w ⟨g, rfl, h⟩) | (refine wi_runs rfl (ex_box1b h _ _ rfl _ rfl) ?_; clear h; rintro _ w ⟨g, rfl, h⟩) | (refine wi_runs rfl (ex_box1t h _ _ rfl _ rfl) ?_; clear h; rintro _ w ⟨g, rfl, h⟩) | (refine wi_runs rfl (ex_box1p h _ _ rfl _ rfl) ?_; clear h; rintro _ w ⟨g, rfl, h⟩) | (refine wi_runs rfl (ex_box1m h _ _ rfl _ rfl) ?_; clear h; rintro _ w ⟨g, rfl, h⟩) | (refine wi_runs rfl (ex_slice1 h _ _ rfl _ rfl) ?_; clear h; rintro _ w ⟨g, rfl, h⟩) | (refine wi_runs rfl (ex_slice1i h _ _ rfl _ _ rfl) ?_; clear h; rintro _ w ⟨g, rfl, h⟩) | (refine wi_runs rfl (ex_slice1s h _ _ rfl _ _ _ rfl) ?_; clear h; rintro _ w ⟨g, rfl, h⟩) | (refine wi_runs rfl (ex_slice1b h _ _ rfl _ rfl) ?_; clear h; rintro _ w ⟨g, rfl, h⟩) | (refine wi_runs rfl (ex_slice1t h _ _ rfl _ rfl) ?_; clear h; rintro _ w ⟨g, rfl, h⟩) | (refine wi_runs rfl (ex_slice1p h _ _ rfl _ rfl) ?_; clear h; rintro _ w ⟨g, rfl, h⟩) | (refine wi_runs rfl (ex_slice1m h _ _ rfl _ rfl) ?_; clear h; rintro _ w ⟨g, rfl, h⟩) | (refine wi_reads rfl (ex_lit0 _ rfl) ?_))
      exact ⟨_, ⟨rfl, hno, rfl⟩, h.to⟩
    case body =>
      rintro l T X O R' pre x a' L' W W2 ⟨rfl, hno, rfl⟩ hok h
      simp only [List.setIfInBounds_toArray, List.set_cons_succ, List.set_cons_zero]
      have hx6 : x ≤ 65536 := by
        have : x ∈ bks := hok.subset (by simp)
        simp [bks] at this
        omega
      have hw : wrap64 ((x : Int) - 4) = (x : Int) - 4 := by unfold wrap64; omega
      by_cases hx : n + 4 ≤ (x : Int)
      · have hb := Lib.hid (bkt_find Hout.out hok hno hx)
        have f3 : n ≤ (x : Int) - 4 := by omega
        clear hok
        gi_wp2_with (first
          | (refine wi_reads rfl (ex_loadv h _ _ rfl _ _ rfl) ?_) | (refine wi_runs rfl (ex_store1i h _ _ _ rfl _ _ rfl _ _ rfl) ?_; clear h; rintro _ w ⟨rfl, h⟩; try dsimp only [Act.put]) | (refine wi_runs rfl (ex_store1s h _ _ _ rfl _ _ rfl _ _ _ rfl) ?_; clear h; rintro _ w ⟨rfl, h⟩; try dsimp only [Act.put]) | (refine wi_runs rfl (ex_store1b h _ _ _ rfl _ _ rfl _ rfl) ?_; clear h; rintro _ w ⟨rfl, h⟩; try dsimp only [Act.put]) | (refine wi_runs rfl (ex_store1t h _ _ _ rfl _ _ rfl _ rfl) ?_; clear h; rintro _ w ⟨rfl, h⟩; try dsimp only [Act.put]) | (refine wi_runs rfl (ex_store1p h _ _ _ rfl _ _ rfl _ rfl) ?_; clear h; rintro _ w ⟨rfl, h⟩; try dsimp only [Act.put]) | (refine wi_runs rfl (ex_store1m h _ _ _ rfl _ _ rfl _ rfl) ?_; clear h; rintro _ w ⟨rfl, h⟩; try dsimp only [Act.put]) | (refine wi_runs rfl (ex_store h _ _ _ rfl _ _ rfl _ rfl) ?_; clear h; rintro _ w ⟨rfl, h⟩; try dsimp only [Act.put]) | (refine wi_runs rfl (ex_alloc h _ rfl) ?_; clear h; rintro _ w ⟨g, rfl, h⟩) | (refine wi_runs rfl (ex_box h _ _ rfl _ rfl) ?_; clear h; rintro _ w ⟨g, rfl, h⟩) | (refine wi_runs rfl (ex_box1i h _ _ rfl _ _ rfl) ?_; clear h; rintro _ w ⟨g, rfl, h⟩) | (refine wi_runs rfl (ex_box1s h _ _ rfl _ _ _ rfl) ?_; clear h; rintro _ w ⟨g, rfl, h⟩) | (refine wi_runs rfl (ex_box1b h _ _ rfl _ rfl) ?_; clear h; rintro _ w ⟨g, rfl, h⟩) | (refine wi_runs rfl (ex_box1t h _ _ rfl _ rfl) ?_; clear h; rintro _ w ⟨g, rfl, h⟩) | (refine wi_runs rfl (ex_box1p h _ _ rfl _ rfl) ?_; clear h; rintro _ w ⟨g, rfl, h⟩) | (refine wi_runs rfl (ex_box1m h _ _ rfl _ rfl) ?_; clear h; rintro _ w ⟨g, rfl, h⟩) | (refine wi_runs rfl (ex_slice1 h _ _ rfl _ rfl) ?_; clear h; rintro _ w ⟨g, rfl, h⟩) | (refine wi_runs rfl (ex_slice1i h _ _ rfl _ _ rfl) ?_; clear h; rintro _ w ⟨g, rfl, h⟩) | (refine wi_runs rfl (ex_slice1s h _ _ rfl _ _ _ rfl) ?_; clear h; rintro _ w ⟨g, rfl, h⟩) | (refine wi_runs rfl (ex_slice1b h _ _ rfl _ rfl) ?_; clear h; rintro _ w ⟨g, rfl, h⟩) | (refine wi_runs rfl (ex_slice1t h _ _ rfl _ rfl) ?_; clear h; rintro _ w ⟨g, rfl, h⟩) | (refine wi_runs rfl (ex_slice1p h _ _ rfl _ rfl) ?_; clear h; rintro _ w ⟨g, rfl, h⟩) | (refine wi_runs rfl (ex_slice1m h _ _ rfl _ rfl) ?_; clear h; rintro _ w ⟨g, rfl, h⟩) | (refine wi_reads rfl (ex_lit0 _ rfl) ?_))
        refine ⟨_, ⟨rfl, rfl⟩, ?_⟩
        rw [hb.out]
        exact h.to
      · have f3 : ¬ n ≤ (x : Int) - 4 := by omega
        have hn2 : NoBkt n (pre ++ [x]) := fun y hy => by
          rcases List.mem_append.1 hy with hy | hy
          · exact hno y hy
          · rw [List.mem_singleton] at hy; subst hy; exact hx
        clear hok hno
        gi_wp2_with (first
          | (refine wi_reads rfl (ex_loadv h _ _ rfl _ _ rfl) ?_) | (refine wi_runs rfl (ex_store1i h _ _ _ rfl _ _ rfl _ _ rfl) ?_; clear h; rintro _ w ⟨rfl, h⟩; try dsimp only [Act.put]) | (refine wi_runs rfl (ex_store1s h _ _ _ rfl _ _ rfl _ _ _ rfl) ?_; clear h; rintro _ w ⟨rfl, h⟩; try dsimp only [Act.put]) | (refine wi_runs rfl (ex_store1b h _ _ _ rfl _ _ rfl _ rfl) ?_; clear h; rintro _ w ⟨rfl, h⟩; try dsimp only [Act.put]) | (refine wi_runs rfl (ex_store1t h _ _ _ rfl _ _ rfl _ rfl) ?_; clear h; rintro _ w ⟨rfl, h⟩; try dsimp only [Act.put]) | (refine wi_runs rfl (ex_store1p h _ _ _ rfl _ _ rfl _ rfl) ?_; clear h; rintro _ w ⟨rfl, h⟩; try dsimp only [Act.put]) | (refine wi_runs rfl (ex_store1m h _ _ _ rfl _ _ rfl _ rfl) ?_; clear h; rintro _ w ⟨rfl, h⟩; try dsimp only [Act.put]) | (refine wi_runs rfl (ex_store h _ _ _ rfl _ _ rfl _ rfl) ?_; clear h; rintro _ w ⟨rfl, h⟩; try dsimp only [Act.put]) | (refine wi_runs rfl (ex_alloc h _ rfl) ?_; clear h; rintro _ w ⟨g, rfl, h⟩) | (refine wi_runs rfl (ex_box h _ _ rfl _ rfl) ?_; clear h; rintro _ w ⟨g, rfl, h⟩) | (refine wi_runs rfl (ex_box1i h _ _ rfl _ _ rfl) ?_; clear h; rintro _ w ⟨g, rfl, h⟩) | (refine wi_runs rfl (ex_box1s h _ _ rfl _ _ _ rfl) ?_; clear h; rintro _ w ⟨g, rfl, h⟩) | (refine wi_runs rfl (ex_box1b h _ _ rfl _ rfl) ?_; clear h; rintro _ w ⟨g, rfl, h⟩) | (refine wi_runs rfl (ex_box1t h _ _ rfl _ rfl) ?_; clear h; rintro _ w ⟨g, rfl, h⟩) | (refine wi_runs rfl (ex_box1p h _ _ rfl _ rfl) ?_; clear h; rintro _ w ⟨g, rfl, h⟩) | (refine wi_runs rfl (ex_box1m h _ _ rfl _ rfl) ?_; clear h; rintro _ w ⟨g, rfl, h⟩) | (refine wi_runs rfl (ex_slice1 h _ _ rfl _ rfl) ?_; clear h; rintro _ w ⟨g, rfl, h⟩) | (refine wi_runs rfl (ex_slice1i h _ _ rfl _ _ rfl) ?_; clear h; rintro _ w ⟨g, rfl, h⟩) | (refine wi_runs rfl (ex_slice1s h _ _ rfl _ _ _ rfl) ?_; clear h; rintro _ w ⟨g, rfl, h⟩) | (refine wi_runs rfl (ex_slice1b h _ _ rfl _ rfl) ?_; clear h; rintro _ w ⟨g, rfl, h⟩) | (refine wi_runs rfl (ex_slice1t h _ _ rfl _ rfl) ?_; clear h; rintro _ w ⟨g, rfl, h⟩) | (refine wi_runs rfl (ex_slice1p h _ _ rfl _ rfl) ?_; clear h; rintro _ w ⟨g, rfl, h⟩) | (refine wi_runs rfl (ex_slice1m h _ _ rfl _ rfl) ?_; clear h; rintro _ w ⟨g, rfl, h⟩) | (refine wi_reads rfl (ex_lit0 _ rfl) ?_))
        exact ⟨_, ⟨hn2, rfl⟩, h.to⟩
    case done =>
      rintro D pre L' Lf W ⟨hno, rfl⟩ ⟨rfl, hp⟩ h
      have := hno 65536 (by rw [hp rfl]; simp [bks])
      have := Hout.out
      omega
    case stop =>
      rintro D c pre L' Lf W ⟨rfl, rfl⟩ ⟨rfl, _⟩ h
      replace h : St S w0 W (eDfr D :: eBlk g3 3 [.int .i64 (bkt n : Int)] :: eBlk g1 3 [.int .i64 n] :: L) := h
      go_wp2_with (first | (refine wl_reads rfl (ex_loadv h _ _ rfl _ _ rfl) ?_) | (refine wl_runs rfl (ex_store1i h _ _ _ rfl _ _ rfl _ _ rfl) ?_; clear h; rintro _ w ⟨rfl, h⟩; try dsimp only [Act.put]) | (refine wl_runs rfl (ex_store1s h _ _ _ rfl _ _ rfl _ _ _ rfl) ?_; clear h; rintro _ w ⟨rfl, h⟩; try dsimp only [Act.put]) | (refine wl_runs rfl (ex_store1b h _ _ _ rfl _ _ rfl _ rfl) ?_; clear h; rintro _ w ⟨rfl, h⟩; try dsimp only [Act.put]) | (refine wl_runs rfl (ex_store1t h _ _ _ rfl _ _ rfl _ rfl) ?_; clear h; rintro _ w ⟨rfl, h⟩; try dsimp only [Act.put]) | (refine wl_runs rfl (ex_store1p h _ _ _ rfl _ _ rfl _ rfl) ?_; clear h; rintro _ w ⟨rfl, h⟩; try dsimp only [Act.put]) | (refine wl_runs rfl (ex_store1m h _ _ _ rfl _ _ rfl _ rfl) ?_; clear h; rintro _ w ⟨rfl, h⟩; try dsimp only [Act.put]) | (refine wl_runs rfl (ex_store h _ _ _ rfl _ _ rfl _ rfl) ?_; clear h; rintro _ w ⟨rfl, h⟩; try dsimp only [Act.put]) | (refine wl_runs rfl (ex_alloc h _ rfl) ?_; clear h; rintro _ w ⟨g, rfl, h⟩) | (refine wl_runs rfl (ex_box h _ _ rfl _ rfl) ?_; clear h; rintro _ w ⟨g, rfl, h⟩) | (refine wl_runs rfl (ex_box1i h _ _ rfl _ _ rfl) ?_; clear h; rintro _ w ⟨g, rfl, h⟩) | (refine wl_runs rfl (ex_box1s h _ _ rfl _ _ _ rfl) ?_; clear h; rintro _ w ⟨g, rfl, h⟩) | (refine wl_runs rfl (ex_box1b h _ _ rfl _ rfl) ?_; clear h; rintro _ w ⟨g, rfl, h⟩) | (refine wl_runs rfl (ex_box1t h _ _ rfl _ rfl) ?_; clear h; rintro _ w ⟨g, rfl, h⟩) | (refine wl_runs rfl (ex_box1p h _ _ rfl _ rfl) ?_; clear h; rintro _ w ⟨g, rfl, h⟩) | (refine wl_runs rfl (ex_box1m h _ _ rfl _ rfl) ?_; clear h; rintro _ w ⟨g, rfl, h⟩) | (refine wl_runs rfl (ex_slice1 h _ _ rfl _ rfl) ?_; clear h; rintro _ w ⟨g, rfl, h⟩) | (refine wl_runs rfl (ex_slice1i h _ _ rfl _ _ rfl) ?_; clear h; rintro _ w ⟨g, rfl, h⟩) | (refine wl_runs rfl (ex_slice1s h _ _ rfl _ _ _ rfl) ?_; clear h; rintro _ w ⟨g, rfl, h⟩) | (refine wl_runs rfl (ex_slice1b h _ _ rfl _ rfl) ?_; clear h; rintro _ w ⟨g, rfl, h⟩) | (refine wl_runs rfl (ex_slice1t h _ _ rfl _ rfl) ?_; clear h; rintro _ w ⟨g, rfl, h⟩) | (refine wl_runs rfl (ex_slice1p h _ _ rfl _ rfl) ?_; clear h; rintro _ w ⟨g, rfl, h⟩) | (refine wl_runs rfl (ex_slice1m h _ _ rfl _ rfl) ?_; clear h; rintro _ w ⟨g, rfl, h⟩) | (refine wl_reads rfl (ex_lit0 _ rfl) ?_))
      refine ret_mark h.dfr rfl (results_tmp rfl _ _ _) ⟨rfl, ?_⟩
      exact (h.putDfr).to
end Go.Proofs.Ytcmgjoamfjijhaa
