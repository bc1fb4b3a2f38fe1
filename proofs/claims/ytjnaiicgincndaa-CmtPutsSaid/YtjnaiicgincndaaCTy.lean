/- What is known of the types of this seat; printed by wip/mk_ty.py. -/
import Derived.Test.YtjnaiicgincndaaCB1
import Derived.Test.YtjnaiicgincndaaProg
namespace Go.Proofs.Ytjnaiicgincndaa
open Go.RowKit
set_option linter.unusedVariables false
set_option linter.unusedSimpArgs false

theorem cell_mid {pre suf l : List Value} {v : Value} {i : Nat} (e : l = pre ++ v :: suf) (hp : pre.length = i) : Cell l i v := ⟨by rw [e, List.getElem?_append_right (by omega), hp, Nat.sub_self]; rfl⟩
theorem put1_mid {pre suf l l' : List Value} {u v : Value} {i : Nat} (e : l = pre ++ u :: suf) (hp : pre.length = i) (e' : l' = pre ++ v :: suf) : Put1 l i v l' := ⟨by rw [e, e', List.set_append_right _ _ (by omega), hp, Nat.sub_self]; rfl, by rw [e]; simp; omega⟩
theorem part_mid {pre xs suf l : List Value} {off n : Nat} (e : l = pre ++ (xs ++ suf)) (hp : pre.length = off) (hx : xs.length = n) : Part l off n xs := ⟨by rw [e, List.drop_left' hp, List.take_left' hx], by rw [e]; simp; omega⟩
theorem putN_mid {pre xs suf l ys l' : List Value} {off n : Nat} (e : l = pre ++ (xs ++ suf)) (hp : pre.length = off) (hx : xs.length = n) (hy : ys.length = n) (e' : l' = pre ++ (ys ++ suf)) : PutN l off ys l' :=
  ⟨by rw [e, e', List.take_left' hp, ← List.append_assoc pre xs suf, List.drop_left' (by rw [List.length_append]; omega), List.append_assoc], by rw [e]; simp; omega⟩
theorem elm_mk {P : Program} {t e : TypeId} {z : Value} {sz bytes : Nat} (hu : P.underlying t = some (.slice e)) (h : (P.info? e).map (fun i => (i.zero, i.size, i.bytes)) = some (some z, sz, bytes)) (hz : z.cells.size = sz) (hp : 0 < sz) : Elm P t e sz bytes :=
  ⟨hu, by
    obtain ⟨i, hi, h1, h2, h3⟩ := info_parts h
    exact ⟨i, z, hi, h1, h2, h3, hz⟩, hp⟩

/-- The cells of a api.Commit. -/
def c_api_Commit (Parents_ : Value) (Root_ : List Value) (Key_ : List Value) (Seq_ : Value) (Author_ : Value) (Text_ : Value) : List Value := ([Parents_] ++ (Root_ ++ (Key_ ++ ([Seq_, Author_, Text_]))))
instance c_api_Commit.row (Parents_ : Value) (Root_ : List Value) (Key_ : List Value) (Seq_ : Value) (Author_ : Value) (Text_ : Value) [r1 : Row Root_ 32] [r2 : Row Key_ 32] [v0 : OneV Parents_] [v3 : OneV Seq_] [v4 : OneV Author_] [v5 : OneV Text_] : Row (c_api_Commit Parents_ Root_ Key_ Seq_ Author_ Text_) 68 := Row.mk' (by simp only [c_api_Commit, List.length_append, List.length_cons, List.length_nil, r1.len, r2.len]) (by
  intro u hu
  simp only [c_api_Commit, List.mem_append, List.mem_cons, List.not_mem_nil, or_false, or_assoc] at hu
  rcases hu with hu | hu | hu | hu | hu | hu
  all_goals first | (subst hu; exact v0.one) | (exact r1.one u hu) | (exact r2.one u hu) | (subst hu; exact v3.one) | (subst hu; exact v4.one) | (subst hu; exact v5.one)) (by omega)
instance c_api_Commit.p_Parents (Parents_ : Value) (Root_ : List Value) (Key_ : List Value) (Seq_ : Value) (Author_ : Value) (Text_ : Value) [r1 : Row Root_ 32] [r2 : Row Key_ 32] : Cell (c_api_Commit Parents_ Root_ Key_ Seq_ Author_ Text_) 0 Parents_ := cell_mid (pre := ([] : List Value)) (suf := (Root_ ++ (Key_ ++ ([Seq_, Author_, Text_])))) (by simp [c_api_Commit]) (by simp [r1.len, r2.len])
instance c_api_Commit.s_Parents (Parents_ : Value) (Root_ : List Value) (Key_ : List Value) (Seq_ : Value) (Author_ : Value) (Text_ : Value) (new : Value) [r1 : Row Root_ 32] [r2 : Row Key_ 32] : Put1 (c_api_Commit Parents_ Root_ Key_ Seq_ Author_ Text_) 0 new (c_api_Commit new Root_ Key_ Seq_ Author_ Text_) := put1_mid (pre := ([] : List Value)) (u := Parents_) (suf := (Root_ ++ (Key_ ++ ([Seq_, Author_, Text_])))) (by simp [c_api_Commit]) (by simp [r1.len, r2.len]) (by simp [c_api_Commit])
instance c_api_Commit.p_Root (Parents_ : Value) (Root_ : List Value) (Key_ : List Value) (Seq_ : Value) (Author_ : Value) (Text_ : Value) [r1 : Row Root_ 32] [r2 : Row Key_ 32] : Part (c_api_Commit Parents_ Root_ Key_ Seq_ Author_ Text_) 1 32 Root_ := part_mid (pre := ([Parents_])) (suf := (Key_ ++ ([Seq_, Author_, Text_]))) (by simp [c_api_Commit]) (by simp [r1.len, r2.len]) r1.len
instance c_api_Commit.s_Root (Parents_ : Value) (Root_ : List Value) (Key_ : List Value) (Seq_ : Value) (Author_ : Value) (Text_ : Value) (new : List Value) [r1 : Row Root_ 32] [r2 : Row Key_ 32] [rn : Row new 32] : PutN (c_api_Commit Parents_ Root_ Key_ Seq_ Author_ Text_) 1 new (c_api_Commit Parents_ new Key_ Seq_ Author_ Text_) := putN_mid (pre := ([Parents_])) (suf := (Key_ ++ ([Seq_, Author_, Text_]))) (by simp [c_api_Commit]) (by simp [r1.len, r2.len]) r1.len rn.len (by simp [c_api_Commit])
instance c_api_Commit.p_Key (Parents_ : Value) (Root_ : List Value) (Key_ : List Value) (Seq_ : Value) (Author_ : Value) (Text_ : Value) [r1 : Row Root_ 32] [r2 : Row Key_ 32] : Part (c_api_Commit Parents_ Root_ Key_ Seq_ Author_ Text_) 33 32 Key_ := part_mid (pre := ([Parents_] ++ (Root_))) (suf := ([Seq_, Author_, Text_])) (by simp [c_api_Commit]) (by simp [r1.len, r2.len]) r2.len
instance c_api_Commit.s_Key (Parents_ : Value) (Root_ : List Value) (Key_ : List Value) (Seq_ : Value) (Author_ : Value) (Text_ : Value) (new : List Value) [r1 : Row Root_ 32] [r2 : Row Key_ 32] [rn : Row new 32] : PutN (c_api_Commit Parents_ Root_ Key_ Seq_ Author_ Text_) 33 new (c_api_Commit Parents_ Root_ new Seq_ Author_ Text_) := putN_mid (pre := ([Parents_] ++ (Root_))) (suf := ([Seq_, Author_, Text_])) (by simp [c_api_Commit]) (by simp [r1.len, r2.len]) r2.len rn.len (by simp [c_api_Commit])
instance c_api_Commit.p_Seq (Parents_ : Value) (Root_ : List Value) (Key_ : List Value) (Seq_ : Value) (Author_ : Value) (Text_ : Value) [r1 : Row Root_ 32] [r2 : Row Key_ 32] : Cell (c_api_Commit Parents_ Root_ Key_ Seq_ Author_ Text_) 65 Seq_ := cell_mid (pre := ([Parents_] ++ (Root_ ++ (Key_)))) (suf := ([Author_, Text_])) (by simp [c_api_Commit]) (by simp [r1.len, r2.len])
instance c_api_Commit.s_Seq (Parents_ : Value) (Root_ : List Value) (Key_ : List Value) (Seq_ : Value) (Author_ : Value) (Text_ : Value) (new : Value) [r1 : Row Root_ 32] [r2 : Row Key_ 32] : Put1 (c_api_Commit Parents_ Root_ Key_ Seq_ Author_ Text_) 65 new (c_api_Commit Parents_ Root_ Key_ new Author_ Text_) := put1_mid (pre := ([Parents_] ++ (Root_ ++ (Key_)))) (u := Seq_) (suf := ([Author_, Text_])) (by simp [c_api_Commit]) (by simp [r1.len, r2.len]) (by simp [c_api_Commit])
instance c_api_Commit.p_Author (Parents_ : Value) (Root_ : List Value) (Key_ : List Value) (Seq_ : Value) (Author_ : Value) (Text_ : Value) [r1 : Row Root_ 32] [r2 : Row Key_ 32] : Cell (c_api_Commit Parents_ Root_ Key_ Seq_ Author_ Text_) 66 Author_ := cell_mid (pre := ([Parents_] ++ (Root_ ++ (Key_ ++ ([Seq_]))))) (suf := ([Text_])) (by simp [c_api_Commit]) (by simp [r1.len, r2.len])
instance c_api_Commit.s_Author (Parents_ : Value) (Root_ : List Value) (Key_ : List Value) (Seq_ : Value) (Author_ : Value) (Text_ : Value) (new : Value) [r1 : Row Root_ 32] [r2 : Row Key_ 32] : Put1 (c_api_Commit Parents_ Root_ Key_ Seq_ Author_ Text_) 66 new (c_api_Commit Parents_ Root_ Key_ Seq_ new Text_) := put1_mid (pre := ([Parents_] ++ (Root_ ++ (Key_ ++ ([Seq_]))))) (u := Author_) (suf := ([Text_])) (by simp [c_api_Commit]) (by simp [r1.len, r2.len]) (by simp [c_api_Commit])
instance c_api_Commit.p_Text (Parents_ : Value) (Root_ : List Value) (Key_ : List Value) (Seq_ : Value) (Author_ : Value) (Text_ : Value) [r1 : Row Root_ 32] [r2 : Row Key_ 32] : Cell (c_api_Commit Parents_ Root_ Key_ Seq_ Author_ Text_) 67 Text_ := cell_mid (pre := ([Parents_] ++ (Root_ ++ (Key_ ++ ([Seq_, Author_]))))) (suf := ([] : List Value)) (by simp [c_api_Commit]) (by simp [r1.len, r2.len])
instance c_api_Commit.s_Text (Parents_ : Value) (Root_ : List Value) (Key_ : List Value) (Seq_ : Value) (Author_ : Value) (Text_ : Value) (new : Value) [r1 : Row Root_ 32] [r2 : Row Key_ 32] : Put1 (c_api_Commit Parents_ Root_ Key_ Seq_ Author_ Text_) 67 new (c_api_Commit Parents_ Root_ Key_ Seq_ Author_ new) := put1_mid (pre := ([Parents_] ++ (Root_ ++ (Key_ ++ ([Seq_, Author_]))))) (u := Text_) (suf := ([] : List Value)) (by simp [c_api_Commit]) (by simp [r1.len, r2.len]) (by simp [c_api_Commit])

/-- The cells of a api.Envelope. -/
def c_api_Envelope (Kind_ : Value) (Realm_ : Value) (Epoch_ : Value) (Links_ : Value) (Body_ : Value) : List Value := ([Kind_, Realm_, Epoch_, Links_, Body_])
instance c_api_Envelope.row (Kind_ : Value) (Realm_ : Value) (Epoch_ : Value) (Links_ : Value) (Body_ : Value)  [v0 : OneV Kind_] [v1 : OneV Realm_] [v2 : OneV Epoch_] [v3 : OneV Links_] [v4 : OneV Body_] : Row (c_api_Envelope Kind_ Realm_ Epoch_ Links_ Body_) 5 := Row.mk' (by simp only [c_api_Envelope, List.length_append, List.length_cons, List.length_nil]) (by
  intro u hu
  simp only [c_api_Envelope, List.mem_append, List.mem_cons, List.not_mem_nil, or_false, or_assoc] at hu
  rcases hu with hu | hu | hu | hu | hu
  all_goals first | (subst hu; exact v0.one) | (subst hu; exact v1.one) | (subst hu; exact v2.one) | (subst hu; exact v3.one) | (subst hu; exact v4.one)) (by omega)
instance c_api_Envelope.p_Kind (Kind_ : Value) (Realm_ : Value) (Epoch_ : Value) (Links_ : Value) (Body_ : Value)  : Cell (c_api_Envelope Kind_ Realm_ Epoch_ Links_ Body_) 0 Kind_ := cell_mid (pre := ([] : List Value)) (suf := ([Realm_, Epoch_, Links_, Body_])) (by simp [c_api_Envelope]) (by simp)
instance c_api_Envelope.s_Kind (Kind_ : Value) (Realm_ : Value) (Epoch_ : Value) (Links_ : Value) (Body_ : Value) (new : Value)  : Put1 (c_api_Envelope Kind_ Realm_ Epoch_ Links_ Body_) 0 new (c_api_Envelope new Realm_ Epoch_ Links_ Body_) := put1_mid (pre := ([] : List Value)) (u := Kind_) (suf := ([Realm_, Epoch_, Links_, Body_])) (by simp [c_api_Envelope]) (by simp) (by simp [c_api_Envelope])
instance c_api_Envelope.p_Realm (Kind_ : Value) (Realm_ : Value) (Epoch_ : Value) (Links_ : Value) (Body_ : Value)  : Cell (c_api_Envelope Kind_ Realm_ Epoch_ Links_ Body_) 1 Realm_ := cell_mid (pre := ([Kind_])) (suf := ([Epoch_, Links_, Body_])) (by simp [c_api_Envelope]) (by simp)
instance c_api_Envelope.s_Realm (Kind_ : Value) (Realm_ : Value) (Epoch_ : Value) (Links_ : Value) (Body_ : Value) (new : Value)  : Put1 (c_api_Envelope Kind_ Realm_ Epoch_ Links_ Body_) 1 new (c_api_Envelope Kind_ new Epoch_ Links_ Body_) := put1_mid (pre := ([Kind_])) (u := Realm_) (suf := ([Epoch_, Links_, Body_])) (by simp [c_api_Envelope]) (by simp) (by simp [c_api_Envelope])
instance c_api_Envelope.p_Epoch (Kind_ : Value) (Realm_ : Value) (Epoch_ : Value) (Links_ : Value) (Body_ : Value)  : Cell (c_api_Envelope Kind_ Realm_ Epoch_ Links_ Body_) 2 Epoch_ := cell_mid (pre := ([Kind_, Realm_])) (suf := ([Links_, Body_])) (by simp [c_api_Envelope]) (by simp)
instance c_api_Envelope.s_Epoch (Kind_ : Value) (Realm_ : Value) (Epoch_ : Value) (Links_ : Value) (Body_ : Value) (new : Value)  : Put1 (c_api_Envelope Kind_ Realm_ Epoch_ Links_ Body_) 2 new (c_api_Envelope Kind_ Realm_ new Links_ Body_) := put1_mid (pre := ([Kind_, Realm_])) (u := Epoch_) (suf := ([Links_, Body_])) (by simp [c_api_Envelope]) (by simp) (by simp [c_api_Envelope])
instance c_api_Envelope.p_Links (Kind_ : Value) (Realm_ : Value) (Epoch_ : Value) (Links_ : Value) (Body_ : Value)  : Cell (c_api_Envelope Kind_ Realm_ Epoch_ Links_ Body_) 3 Links_ := cell_mid (pre := ([Kind_, Realm_, Epoch_])) (suf := ([Body_])) (by simp [c_api_Envelope]) (by simp)
instance c_api_Envelope.s_Links (Kind_ : Value) (Realm_ : Value) (Epoch_ : Value) (Links_ : Value) (Body_ : Value) (new : Value)  : Put1 (c_api_Envelope Kind_ Realm_ Epoch_ Links_ Body_) 3 new (c_api_Envelope Kind_ Realm_ Epoch_ new Body_) := put1_mid (pre := ([Kind_, Realm_, Epoch_])) (u := Links_) (suf := ([Body_])) (by simp [c_api_Envelope]) (by simp) (by simp [c_api_Envelope])
instance c_api_Envelope.p_Body (Kind_ : Value) (Realm_ : Value) (Epoch_ : Value) (Links_ : Value) (Body_ : Value)  : Cell (c_api_Envelope Kind_ Realm_ Epoch_ Links_ Body_) 4 Body_ := cell_mid (pre := ([Kind_, Realm_, Epoch_, Links_])) (suf := ([] : List Value)) (by simp [c_api_Envelope]) (by simp)
instance c_api_Envelope.s_Body (Kind_ : Value) (Realm_ : Value) (Epoch_ : Value) (Links_ : Value) (Body_ : Value) (new : Value)  : Put1 (c_api_Envelope Kind_ Realm_ Epoch_ Links_ Body_) 4 new (c_api_Envelope Kind_ Realm_ Epoch_ Links_ new) := put1_mid (pre := ([Kind_, Realm_, Epoch_, Links_])) (u := Body_) (suf := ([] : List Value)) (by simp [c_api_Envelope]) (by simp) (by simp [c_api_Envelope])

/-- The cells of a api.Entry. -/
def c_api_Entry (Blind_ : List Value) (Name_ : Value) (Kind_ : Value) (Id_ : List Value) (Key_ : List Value) (Realm_ : Value) (Epoch_ : Value) : List Value := (Blind_ ++ ([Name_, Kind_] ++ (Id_ ++ (Key_ ++ ([Realm_, Epoch_])))))
instance c_api_Entry.row (Blind_ : List Value) (Name_ : Value) (Kind_ : Value) (Id_ : List Value) (Key_ : List Value) (Realm_ : Value) (Epoch_ : Value) [r0 : Row Blind_ 32] [r3 : Row Id_ 32] [r4 : Row Key_ 32] [v1 : OneV Name_] [v2 : OneV Kind_] [v5 : OneV Realm_] [v6 : OneV Epoch_] : Row (c_api_Entry Blind_ Name_ Kind_ Id_ Key_ Realm_ Epoch_) 100 := Row.mk' (by simp only [c_api_Entry, List.length_append, List.length_cons, List.length_nil, r0.len, r3.len, r4.len]) (by
  intro u hu
  simp only [c_api_Entry, List.mem_append, List.mem_cons, List.not_mem_nil, or_false, or_assoc] at hu
  rcases hu with hu | hu | hu | hu | hu | hu | hu
  all_goals first | (exact r0.one u hu) | (subst hu; exact v1.one) | (subst hu; exact v2.one) | (exact r3.one u hu) | (exact r4.one u hu) | (subst hu; exact v5.one) | (subst hu; exact v6.one)) (by omega)
instance c_api_Entry.p_Blind (Blind_ : List Value) (Name_ : Value) (Kind_ : Value) (Id_ : List Value) (Key_ : List Value) (Realm_ : Value) (Epoch_ : Value) [r0 : Row Blind_ 32] [r3 : Row Id_ 32] [r4 : Row Key_ 32] : Part (c_api_Entry Blind_ Name_ Kind_ Id_ Key_ Realm_ Epoch_) 0 32 Blind_ := part_mid (pre := ([] : List Value)) (suf := ([Name_, Kind_] ++ (Id_ ++ (Key_ ++ ([Realm_, Epoch_]))))) (by simp [c_api_Entry]) (by simp [r0.len, r3.len, r4.len]) r0.len
instance c_api_Entry.s_Blind (Blind_ : List Value) (Name_ : Value) (Kind_ : Value) (Id_ : List Value) (Key_ : List Value) (Realm_ : Value) (Epoch_ : Value) (new : List Value) [r0 : Row Blind_ 32] [r3 : Row Id_ 32] [r4 : Row Key_ 32] [rn : Row new 32] : PutN (c_api_Entry Blind_ Name_ Kind_ Id_ Key_ Realm_ Epoch_) 0 new (c_api_Entry new Name_ Kind_ Id_ Key_ Realm_ Epoch_) := putN_mid (pre := ([] : List Value)) (suf := ([Name_, Kind_] ++ (Id_ ++ (Key_ ++ ([Realm_, Epoch_]))))) (by simp [c_api_Entry]) (by simp [r0.len, r3.len, r4.len]) r0.len rn.len (by simp [c_api_Entry])
instance c_api_Entry.p_Name (Blind_ : List Value) (Name_ : Value) (Kind_ : Value) (Id_ : List Value) (Key_ : List Value) (Realm_ : Value) (Epoch_ : Value) [r0 : Row Blind_ 32] [r3 : Row Id_ 32] [r4 : Row Key_ 32] : Cell (c_api_Entry Blind_ Name_ Kind_ Id_ Key_ Realm_ Epoch_) 32 Name_ := cell_mid (pre := (Blind_)) (suf := ([Kind_] ++ (Id_ ++ (Key_ ++ ([Realm_, Epoch_]))))) (by simp [c_api_Entry]) (by simp [r0.len, r3.len, r4.len])
instance c_api_Entry.s_Name (Blind_ : List Value) (Name_ : Value) (Kind_ : Value) (Id_ : List Value) (Key_ : List Value) (Realm_ : Value) (Epoch_ : Value) (new : Value) [r0 : Row Blind_ 32] [r3 : Row Id_ 32] [r4 : Row Key_ 32] : Put1 (c_api_Entry Blind_ Name_ Kind_ Id_ Key_ Realm_ Epoch_) 32 new (c_api_Entry Blind_ new Kind_ Id_ Key_ Realm_ Epoch_) := put1_mid (pre := (Blind_)) (u := Name_) (suf := ([Kind_] ++ (Id_ ++ (Key_ ++ ([Realm_, Epoch_]))))) (by simp [c_api_Entry]) (by simp [r0.len, r3.len, r4.len]) (by simp [c_api_Entry])
instance c_api_Entry.p_Kind (Blind_ : List Value) (Name_ : Value) (Kind_ : Value) (Id_ : List Value) (Key_ : List Value) (Realm_ : Value) (Epoch_ : Value) [r0 : Row Blind_ 32] [r3 : Row Id_ 32] [r4 : Row Key_ 32] : Cell (c_api_Entry Blind_ Name_ Kind_ Id_ Key_ Realm_ Epoch_) 33 Kind_ := cell_mid (pre := (Blind_ ++ ([Name_]))) (suf := (Id_ ++ (Key_ ++ ([Realm_, Epoch_])))) (by simp [c_api_Entry]) (by simp [r0.len, r3.len, r4.len])
instance c_api_Entry.s_Kind (Blind_ : List Value) (Name_ : Value) (Kind_ : Value) (Id_ : List Value) (Key_ : List Value) (Realm_ : Value) (Epoch_ : Value) (new : Value) [r0 : Row Blind_ 32] [r3 : Row Id_ 32] [r4 : Row Key_ 32] : Put1 (c_api_Entry Blind_ Name_ Kind_ Id_ Key_ Realm_ Epoch_) 33 new (c_api_Entry Blind_ Name_ new Id_ Key_ Realm_ Epoch_) := put1_mid (pre := (Blind_ ++ ([Name_]))) (u := Kind_) (suf := (Id_ ++ (Key_ ++ ([Realm_, Epoch_])))) (by simp [c_api_Entry]) (by simp [r0.len, r3.len, r4.len]) (by simp [c_api_Entry])
instance c_api_Entry.p_Id (Blind_ : List Value) (Name_ : Value) (Kind_ : Value) (Id_ : List Value) (Key_ : List Value) (Realm_ : Value) (Epoch_ : Value) [r0 : Row Blind_ 32] [r3 : Row Id_ 32] [r4 : Row Key_ 32] : Part (c_api_Entry Blind_ Name_ Kind_ Id_ Key_ Realm_ Epoch_) 34 32 Id_ := part_mid (pre := (Blind_ ++ ([Name_, Kind_]))) (suf := (Key_ ++ ([Realm_, Epoch_]))) (by simp [c_api_Entry]) (by simp [r0.len, r3.len, r4.len]) r3.len
instance c_api_Entry.s_Id (Blind_ : List Value) (Name_ : Value) (Kind_ : Value) (Id_ : List Value) (Key_ : List Value) (Realm_ : Value) (Epoch_ : Value) (new : List Value) [r0 : Row Blind_ 32] [r3 : Row Id_ 32] [r4 : Row Key_ 32] [rn : Row new 32] : PutN (c_api_Entry Blind_ Name_ Kind_ Id_ Key_ Realm_ Epoch_) 34 new (c_api_Entry Blind_ Name_ Kind_ new Key_ Realm_ Epoch_) := putN_mid (pre := (Blind_ ++ ([Name_, Kind_]))) (suf := (Key_ ++ ([Realm_, Epoch_]))) (by simp [c_api_Entry]) (by simp [r0.len, r3.len, r4.len]) r3.len rn.len (by simp [c_api_Entry])
instance c_api_Entry.p_Key (Blind_ : List Value) (Name_ : Value) (Kind_ : Value) (Id_ : List Value) (Key_ : List Value) (Realm_ : Value) (Epoch_ : Value) [r0 : Row Blind_ 32] [r3 : Row Id_ 32] [r4 : Row Key_ 32] : Part (c_api_Entry Blind_ Name_ Kind_ Id_ Key_ Realm_ Epoch_) 66 32 Key_ := part_mid (pre := (Blind_ ++ ([Name_, Kind_] ++ (Id_)))) (suf := ([Realm_, Epoch_])) (by simp [c_api_Entry]) (by simp [r0.len, r3.len, r4.len]) r4.len
instance c_api_Entry.s_Key (Blind_ : List Value) (Name_ : Value) (Kind_ : Value) (Id_ : List Value) (Key_ : List Value) (Realm_ : Value) (Epoch_ : Value) (new : List Value) [r0 : Row Blind_ 32] [r3 : Row Id_ 32] [r4 : Row Key_ 32] [rn : Row new 32] : PutN (c_api_Entry Blind_ Name_ Kind_ Id_ Key_ Realm_ Epoch_) 66 new (c_api_Entry Blind_ Name_ Kind_ Id_ new Realm_ Epoch_) := putN_mid (pre := (Blind_ ++ ([Name_, Kind_] ++ (Id_)))) (suf := ([Realm_, Epoch_])) (by simp [c_api_Entry]) (by simp [r0.len, r3.len, r4.len]) r4.len rn.len (by simp [c_api_Entry])
instance c_api_Entry.p_Realm (Blind_ : List Value) (Name_ : Value) (Kind_ : Value) (Id_ : List Value) (Key_ : List Value) (Realm_ : Value) (Epoch_ : Value) [r0 : Row Blind_ 32] [r3 : Row Id_ 32] [r4 : Row Key_ 32] : Cell (c_api_Entry Blind_ Name_ Kind_ Id_ Key_ Realm_ Epoch_) 98 Realm_ := cell_mid (pre := (Blind_ ++ ([Name_, Kind_] ++ (Id_ ++ (Key_))))) (suf := ([Epoch_])) (by simp [c_api_Entry]) (by simp [r0.len, r3.len, r4.len])
instance c_api_Entry.s_Realm (Blind_ : List Value) (Name_ : Value) (Kind_ : Value) (Id_ : List Value) (Key_ : List Value) (Realm_ : Value) (Epoch_ : Value) (new : Value) [r0 : Row Blind_ 32] [r3 : Row Id_ 32] [r4 : Row Key_ 32] : Put1 (c_api_Entry Blind_ Name_ Kind_ Id_ Key_ Realm_ Epoch_) 98 new (c_api_Entry Blind_ Name_ Kind_ Id_ Key_ new Epoch_) := put1_mid (pre := (Blind_ ++ ([Name_, Kind_] ++ (Id_ ++ (Key_))))) (u := Realm_) (suf := ([Epoch_])) (by simp [c_api_Entry]) (by simp [r0.len, r3.len, r4.len]) (by simp [c_api_Entry])
instance c_api_Entry.p_Epoch (Blind_ : List Value) (Name_ : Value) (Kind_ : Value) (Id_ : List Value) (Key_ : List Value) (Realm_ : Value) (Epoch_ : Value) [r0 : Row Blind_ 32] [r3 : Row Id_ 32] [r4 : Row Key_ 32] : Cell (c_api_Entry Blind_ Name_ Kind_ Id_ Key_ Realm_ Epoch_) 99 Epoch_ := cell_mid (pre := (Blind_ ++ ([Name_, Kind_] ++ (Id_ ++ (Key_ ++ ([Realm_])))))) (suf := ([] : List Value)) (by simp [c_api_Entry]) (by simp [r0.len, r3.len, r4.len])
instance c_api_Entry.s_Epoch (Blind_ : List Value) (Name_ : Value) (Kind_ : Value) (Id_ : List Value) (Key_ : List Value) (Realm_ : Value) (Epoch_ : Value) (new : Value) [r0 : Row Blind_ 32] [r3 : Row Id_ 32] [r4 : Row Key_ 32] : Put1 (c_api_Entry Blind_ Name_ Kind_ Id_ Key_ Realm_ Epoch_) 99 new (c_api_Entry Blind_ Name_ Kind_ Id_ Key_ Realm_ new) := put1_mid (pre := (Blind_ ++ ([Name_, Kind_] ++ (Id_ ++ (Key_ ++ ([Realm_])))))) (u := Epoch_) (suf := ([] : List Value)) (by simp [c_api_Entry]) (by simp [r0.len, r3.len, r4.len]) (by simp [c_api_Entry])

/-- The cells of a tabulariumref08.Reader. -/
def c_tabulariumref08_Reader (B_ : Value) (Bad_ : Value) : List Value := ([B_, Bad_])
instance c_tabulariumref08_Reader.row (B_ : Value) (Bad_ : Value)  [v0 : OneV B_] [v1 : OneV Bad_] : Row (c_tabulariumref08_Reader B_ Bad_) 2 := Row.mk' (by simp only [c_tabulariumref08_Reader, List.length_append, List.length_cons, List.length_nil]) (by
  intro u hu
  simp only [c_tabulariumref08_Reader, List.mem_append, List.mem_cons, List.not_mem_nil, or_false, or_assoc] at hu
  rcases hu with hu | hu
  all_goals first | (subst hu; exact v0.one) | (subst hu; exact v1.one)) (by omega)
instance c_tabulariumref08_Reader.p_B (B_ : Value) (Bad_ : Value)  : Cell (c_tabulariumref08_Reader B_ Bad_) 0 B_ := cell_mid (pre := ([] : List Value)) (suf := ([Bad_])) (by simp [c_tabulariumref08_Reader]) (by simp)
instance c_tabulariumref08_Reader.s_B (B_ : Value) (Bad_ : Value) (new : Value)  : Put1 (c_tabulariumref08_Reader B_ Bad_) 0 new (c_tabulariumref08_Reader new Bad_) := put1_mid (pre := ([] : List Value)) (u := B_) (suf := ([Bad_])) (by simp [c_tabulariumref08_Reader]) (by simp) (by simp [c_tabulariumref08_Reader])
instance c_tabulariumref08_Reader.p_Bad (B_ : Value) (Bad_ : Value)  : Cell (c_tabulariumref08_Reader B_ Bad_) 1 Bad_ := cell_mid (pre := ([B_])) (suf := ([] : List Value)) (by simp [c_tabulariumref08_Reader]) (by simp)
instance c_tabulariumref08_Reader.s_Bad (B_ : Value) (Bad_ : Value) (new : Value)  : Put1 (c_tabulariumref08_Reader B_ Bad_) 1 new (c_tabulariumref08_Reader B_ new) := put1_mid (pre := ([B_])) (u := Bad_) (suf := ([] : List Value)) (by simp [c_tabulariumref08_Reader]) (by simp) (by simp [c_tabulariumref08_Reader])

/-- The cells of a codec.Writer. -/
def c_codec_Writer (b_ : Value) : List Value := ([b_])
instance c_codec_Writer.row (b_ : Value)  [v0 : OneV b_] : Row (c_codec_Writer b_) 1 := Row.mk' (by simp only [c_codec_Writer, List.length_append, List.length_cons, List.length_nil]) (by
  intro u hu
  simp only [c_codec_Writer, List.mem_append, List.mem_cons, List.not_mem_nil, or_false] at hu
  first | (subst hu; exact v0.one)) (by omega)
instance c_codec_Writer.p_b (b_ : Value)  : Cell (c_codec_Writer b_) 0 b_ := cell_mid (pre := ([] : List Value)) (suf := ([] : List Value)) (by simp [c_codec_Writer]) (by simp)
instance c_codec_Writer.s_b (b_ : Value) (new : Value)  : Put1 (c_codec_Writer b_) 0 new (c_codec_Writer new) := put1_mid (pre := ([] : List Value)) (u := b_) (suf := ([] : List Value)) (by simp [c_codec_Writer]) (by simp) (by simp [c_codec_Writer])

/-- The cells of a codec.Reader. -/
def c_codec_Reader (b_ : Value) (good_ : Value) : List Value := ([b_, good_])
instance c_codec_Reader.row (b_ : Value) (good_ : Value)  [v0 : OneV b_] [v1 : OneV good_] : Row (c_codec_Reader b_ good_) 2 := Row.mk' (by simp only [c_codec_Reader, List.length_append, List.length_cons, List.length_nil]) (by
  intro u hu
  simp only [c_codec_Reader, List.mem_append, List.mem_cons, List.not_mem_nil, or_false, or_assoc] at hu
  rcases hu with hu | hu
  all_goals first | (subst hu; exact v0.one) | (subst hu; exact v1.one)) (by omega)
instance c_codec_Reader.p_b (b_ : Value) (good_ : Value)  : Cell (c_codec_Reader b_ good_) 0 b_ := cell_mid (pre := ([] : List Value)) (suf := ([good_])) (by simp [c_codec_Reader]) (by simp)
instance c_codec_Reader.s_b (b_ : Value) (good_ : Value) (new : Value)  : Put1 (c_codec_Reader b_ good_) 0 new (c_codec_Reader new good_) := put1_mid (pre := ([] : List Value)) (u := b_) (suf := ([good_])) (by simp [c_codec_Reader]) (by simp) (by simp [c_codec_Reader])
instance c_codec_Reader.p_good (b_ : Value) (good_ : Value)  : Cell (c_codec_Reader b_ good_) 1 good_ := cell_mid (pre := ([b_])) (suf := ([] : List Value)) (by simp [c_codec_Reader]) (by simp)
instance c_codec_Reader.s_good (b_ : Value) (good_ : Value) (new : Value)  : Put1 (c_codec_Reader b_ good_) 1 new (c_codec_Reader b_ new) := put1_mid (pre := ([b_])) (u := good_) (suf := ([] : List Value)) (by simp [c_codec_Reader]) (by simp) (by simp [c_codec_Reader])

instance : One Try.prog 1 := ⟨⟨_, Try.underlying1, rfl⟩, by kernel_rfl⟩
instance : Siz Try.prog 1 1 := ⟨by kernel_rfl⟩
set_option maxRecDepth 100000 in
instance : Zer Try.prog 1 [.nilFunc] := ⟨.nilFunc, by kernel_rfl, rfl⟩
instance : One Try.prog 2 := ⟨⟨_, Try.underlying2, rfl⟩, by kernel_rfl⟩
instance : Siz Try.prog 2 1 := ⟨by kernel_rfl⟩
set_option maxRecDepth 100000 in
instance : Zer Try.prog 2 [.int .i64 0] := ⟨(.int .i64 0), by kernel_rfl, rfl⟩
instance : One Try.prog 3 := ⟨⟨_, Try.underlying3, rfl⟩, by kernel_rfl⟩
instance : Siz Try.prog 3 1 := ⟨by kernel_rfl⟩
set_option maxRecDepth 100000 in
instance : Zer Try.prog 3 [.int .i64 0] := ⟨(.int .i64 0), by kernel_rfl, rfl⟩
instance : One Try.prog 4 := ⟨⟨_, Try.underlying4, rfl⟩, by kernel_rfl⟩
instance : Siz Try.prog 4 1 := ⟨by kernel_rfl⟩
set_option maxRecDepth 100000 in
instance : Zer Try.prog 4 [.bool false] := ⟨(.bool false), by kernel_rfl, rfl⟩
instance : One Try.prog 5 := ⟨⟨_, Try.underlying5, rfl⟩, by kernel_rfl⟩
instance : Siz Try.prog 5 1 := ⟨by kernel_rfl⟩
set_option maxRecDepth 100000 in
instance : Zer Try.prog 5 [.int .u8 0] := ⟨(.int .u8 0), by kernel_rfl, rfl⟩
instance : One Try.prog 6 := ⟨⟨_, Try.underlying6, rfl⟩, by kernel_rfl⟩
instance : Siz Try.prog 6 1 := ⟨by kernel_rfl⟩
set_option maxRecDepth 100000 in
instance : Zer Try.prog 6 [.int .u8 0] := ⟨(.int .u8 0), by kernel_rfl, rfl⟩
instance : Siz Try.prog 7 4 := ⟨by kernel_rfl⟩
instance : Agg Try.prog 7 := ⟨_, Try.underlying7, rfl⟩
instance : Siz Try.prog 8 4 := ⟨by kernel_rfl⟩
instance : Agg Try.prog 8 := ⟨_, Try.underlying8, rfl⟩
instance : One Try.prog 9 := ⟨⟨_, Try.underlying9, rfl⟩, by kernel_rfl⟩
instance : Siz Try.prog 9 1 := ⟨by kernel_rfl⟩
set_option maxRecDepth 100000 in
instance : Zer Try.prog 9 [.string ByteArray.empty] := ⟨(.string ByteArray.empty), by kernel_rfl, rfl⟩
instance : One Try.prog 10 := ⟨⟨_, Try.underlying10, rfl⟩, by kernel_rfl⟩
instance : Siz Try.prog 10 1 := ⟨by kernel_rfl⟩
set_option maxRecDepth 100000 in
instance : Zer Try.prog 10 [.string ByteArray.empty] := ⟨(.string ByteArray.empty), by kernel_rfl, rfl⟩
instance : One Try.prog 11 := ⟨⟨_, Try.underlying11, rfl⟩, by kernel_rfl⟩
instance : Siz Try.prog 11 1 := ⟨by kernel_rfl⟩
set_option maxRecDepth 100000 in
instance : Zer Try.prog 11 [.string ByteArray.empty] := ⟨(.string ByteArray.empty), by kernel_rfl, rfl⟩
instance : One Try.prog 12 := ⟨⟨_, Try.underlying12, rfl⟩, by kernel_rfl⟩
instance : Siz Try.prog 12 1 := ⟨by kernel_rfl⟩
set_option maxRecDepth 100000 in
instance : Zer Try.prog 12 [.int .u64 0] := ⟨(.int .u64 0), by kernel_rfl, rfl⟩
instance : Siz Try.prog 13 2 := ⟨by kernel_rfl⟩
instance : Agg Try.prog 13 := ⟨_, Try.underlying13, rfl⟩
instance : Siz Try.prog 14 2 := ⟨by kernel_rfl⟩
instance : Agg Try.prog 14 := ⟨_, Try.underlying14, rfl⟩
instance : One Try.prog 15 := ⟨⟨_, Try.underlying15, rfl⟩, by kernel_rfl⟩
instance : Siz Try.prog 15 1 := ⟨by kernel_rfl⟩
set_option maxRecDepth 100000 in
instance : Zer Try.prog 15 [.pointer none] := ⟨(.pointer none), by kernel_rfl, rfl⟩
instance : One Try.prog 16 := ⟨⟨_, Try.underlying16, rfl⟩, by kernel_rfl⟩
instance : Siz Try.prog 16 1 := ⟨by kernel_rfl⟩
set_option maxRecDepth 100000 in
instance : Zer Try.prog 16 [.pointer none] := ⟨(.pointer none), by kernel_rfl, rfl⟩
instance : One Try.prog 17 := ⟨⟨_, Try.underlying17, rfl⟩, by kernel_rfl⟩
instance : Siz Try.prog 17 1 := ⟨by kernel_rfl⟩
set_option maxRecDepth 100000 in
instance : Zer Try.prog 17 [.pointer none] := ⟨(.pointer none), by kernel_rfl, rfl⟩
instance : Siz Try.prog 18 1 := ⟨by kernel_rfl⟩
instance : Agg Try.prog 18 := ⟨_, Try.underlying18, rfl⟩
instance : Siz Try.prog 19 1 := ⟨by kernel_rfl⟩
instance : Agg Try.prog 19 := ⟨_, Try.underlying19, rfl⟩
instance : One Try.prog 20 := ⟨⟨_, Try.underlying20, rfl⟩, by kernel_rfl⟩
instance : Siz Try.prog 20 1 := ⟨by kernel_rfl⟩
set_option maxRecDepth 100000 in
instance : Zer Try.prog 20 [.nilIface] := ⟨.nilIface, by kernel_rfl, rfl⟩
instance : One Try.prog 21 := ⟨⟨_, Try.underlying21, rfl⟩, by kernel_rfl⟩
instance : Siz Try.prog 21 1 := ⟨by kernel_rfl⟩
set_option maxRecDepth 100000 in
instance : Zer Try.prog 21 [.int .i32 0] := ⟨(.int .i32 0), by kernel_rfl, rfl⟩
instance : One Try.prog 22 := ⟨⟨_, Try.underlying22, rfl⟩, by kernel_rfl⟩
instance : Siz Try.prog 22 1 := ⟨by kernel_rfl⟩
set_option maxRecDepth 100000 in
instance : Zer Try.prog 22 [.slice none 0 0] := ⟨(.slice none 0 0), by kernel_rfl, rfl⟩
instance : Elm Try.prog 22 5 1 1 := elm_mk (z := (.int .u8 0)) Try.underlying22 (by kernel_rfl) (by kernel_rfl) (by decide)
instance : One Try.prog 23 := ⟨⟨_, Try.underlying23, rfl⟩, by kernel_rfl⟩
instance : Siz Try.prog 23 1 := ⟨by kernel_rfl⟩
set_option maxRecDepth 100000 in
instance : Zer Try.prog 23 [.nilFunc] := ⟨.nilFunc, by kernel_rfl, rfl⟩
instance : One Try.prog 24 := ⟨⟨_, Try.underlying24, rfl⟩, by kernel_rfl⟩
instance : Siz Try.prog 24 1 := ⟨by kernel_rfl⟩
set_option maxRecDepth 100000 in
instance : Zer Try.prog 24 [.slice none 0 0] := ⟨(.slice none 0 0), by kernel_rfl, rfl⟩
instance : Elm Try.prog 24 26 32 32 := elm_mk (z := .agg (u8s (zeros 32)).toArray) Try.underlying24 (by kernel_rfl) (by kernel_rfl) (by decide)
instance : Siz Try.prog 25 32 := ⟨by kernel_rfl⟩
instance : Agg Try.prog 25 := ⟨_, Try.underlying25, rfl⟩
set_option maxRecDepth 100000 in
instance : Arr8 Try.prog 25 32 := ⟨⟨_, _, Try.underlying25, Try.underlying5, rfl, rfl⟩, by kernel_rfl⟩
set_option maxRecDepth 100000 in
instance : Zer Try.prog 25 (u8s (zeros 32)) := ⟨.agg (u8s (zeros 32)).toArray, by kernel_rfl, rfl⟩
set_option maxRecDepth 100000 in
instance : Blt0 Try.prog 25 (u8s (zeros 32)) := ⟨by kernel_rfl⟩
instance : Siz Try.prog 26 32 := ⟨by kernel_rfl⟩
instance : Agg Try.prog 26 := ⟨_, Try.underlying26, rfl⟩
set_option maxRecDepth 100000 in
instance : Arr8 Try.prog 26 32 := ⟨⟨_, _, Try.underlying26, Try.underlying5, rfl, rfl⟩, by kernel_rfl⟩
set_option maxRecDepth 100000 in
instance : Zer Try.prog 26 (u8s (zeros 32)) := ⟨.agg (u8s (zeros 32)).toArray, by kernel_rfl, rfl⟩
set_option maxRecDepth 100000 in
instance : Blt0 Try.prog 26 (u8s (zeros 32)) := ⟨by kernel_rfl⟩
instance : Siz Try.prog 27 32 := ⟨by kernel_rfl⟩
instance : Agg Try.prog 27 := ⟨_, Try.underlying27, rfl⟩
set_option maxRecDepth 100000 in
instance : Arr8 Try.prog 27 32 := ⟨⟨_, _, Try.underlying27, Try.underlying5, rfl, rfl⟩, by kernel_rfl⟩
set_option maxRecDepth 100000 in
instance : Zer Try.prog 27 (u8s (zeros 32)) := ⟨.agg (u8s (zeros 32)).toArray, by kernel_rfl, rfl⟩
set_option maxRecDepth 100000 in
instance : Blt0 Try.prog 27 (u8s (zeros 32)) := ⟨by kernel_rfl⟩
instance : One Try.prog 28 := ⟨⟨_, Try.underlying28, rfl⟩, by kernel_rfl⟩
instance : Siz Try.prog 28 1 := ⟨by kernel_rfl⟩
set_option maxRecDepth 100000 in
instance : Zer Try.prog 28 [.int .u64 0] := ⟨(.int .u64 0), by kernel_rfl, rfl⟩
instance : One Try.prog 29 := ⟨⟨_, Try.underlying29, rfl⟩, by kernel_rfl⟩
instance : Siz Try.prog 29 1 := ⟨by kernel_rfl⟩
set_option maxRecDepth 100000 in
instance : Zer Try.prog 29 [.int .u32 0] := ⟨(.int .u32 0), by kernel_rfl, rfl⟩
instance : Siz Try.prog 30 68 := ⟨by kernel_rfl⟩
instance : Agg Try.prog 30 := ⟨_, Try.underlying30, rfl⟩
set_option maxRecDepth 100000 in
instance : Zer Try.prog 30 (c_api_Commit (.slice none 0 0) (u8s (zeros 32)) (u8s (zeros 32)) (.int .u64 0) (.int .u32 0) (.string ByteArray.empty)) := ⟨.agg (c_api_Commit (.slice none 0 0) (u8s (zeros 32)) (u8s (zeros 32)) (.int .u64 0) (.int .u32 0) (.string ByteArray.empty)).toArray, by kernel_rfl, rfl⟩
set_option maxRecDepth 100000 in
instance : Blt0 Try.prog 30 (c_api_Commit (.slice none 0 0) (u8s (zeros 32)) (u8s (zeros 32)) (.int .u64 0) (.int .u32 0) (.string ByteArray.empty)) := ⟨by kernel_rfl⟩
set_option maxRecDepth 100000 in
instance : Places Try.prog 30 [(0, 1), (1, 32), (33, 32), (65, 1), (66, 1), (67, 1)] (c_api_Commit (.slice none 0 0) (u8s (zeros 32)) (u8s (zeros 32)) (.int .u64 0) (.int .u32 0) (.string ByteArray.empty)) := ⟨fun parts => by kernel_rfl⟩
instance : Siz Try.prog 31 68 := ⟨by kernel_rfl⟩
instance : Agg Try.prog 31 := ⟨_, Try.underlying31, rfl⟩
set_option maxRecDepth 100000 in
instance : Zer Try.prog 31 (c_api_Commit (.slice none 0 0) (u8s (zeros 32)) (u8s (zeros 32)) (.int .u64 0) (.int .u32 0) (.string ByteArray.empty)) := ⟨.agg (c_api_Commit (.slice none 0 0) (u8s (zeros 32)) (u8s (zeros 32)) (.int .u64 0) (.int .u32 0) (.string ByteArray.empty)).toArray, by kernel_rfl, rfl⟩
set_option maxRecDepth 100000 in
instance : Blt0 Try.prog 31 (c_api_Commit (.slice none 0 0) (u8s (zeros 32)) (u8s (zeros 32)) (.int .u64 0) (.int .u32 0) (.string ByteArray.empty)) := ⟨by kernel_rfl⟩
set_option maxRecDepth 100000 in
instance : Places Try.prog 31 [(0, 1), (1, 32), (33, 32), (65, 1), (66, 1), (67, 1)] (c_api_Commit (.slice none 0 0) (u8s (zeros 32)) (u8s (zeros 32)) (.int .u64 0) (.int .u32 0) (.string ByteArray.empty)) := ⟨fun parts => by kernel_rfl⟩
instance : One Try.prog 32 := ⟨⟨_, Try.underlying32, rfl⟩, by kernel_rfl⟩
instance : Siz Try.prog 32 1 := ⟨by kernel_rfl⟩
set_option maxRecDepth 100000 in
instance : Zer Try.prog 32 [.int .i64 0] := ⟨(.int .i64 0), by kernel_rfl, rfl⟩
instance : One Try.prog 34 := ⟨⟨_, Try.underlying34, rfl⟩, by kernel_rfl⟩
instance : Siz Try.prog 34 1 := ⟨by kernel_rfl⟩
set_option maxRecDepth 100000 in
instance : Zer Try.prog 34 [.nilFunc] := ⟨.nilFunc, by kernel_rfl, rfl⟩
instance : One Try.prog 36 := ⟨⟨_, Try.underlying36, rfl⟩, by kernel_rfl⟩
instance : Siz Try.prog 36 1 := ⟨by kernel_rfl⟩
set_option maxRecDepth 100000 in
instance : Zer Try.prog 36 [.nilFunc] := ⟨.nilFunc, by kernel_rfl, rfl⟩
instance : One Try.prog 37 := ⟨⟨_, Try.underlying37, rfl⟩, by kernel_rfl⟩
instance : Siz Try.prog 37 1 := ⟨by kernel_rfl⟩
set_option maxRecDepth 100000 in
instance : Zer Try.prog 37 [.nilFunc] := ⟨.nilFunc, by kernel_rfl, rfl⟩
instance : One Try.prog 38 := ⟨⟨_, Try.underlying38, rfl⟩, by kernel_rfl⟩
instance : Siz Try.prog 38 1 := ⟨by kernel_rfl⟩
set_option maxRecDepth 100000 in
instance : Zer Try.prog 38 [.nilFunc] := ⟨.nilFunc, by kernel_rfl, rfl⟩
instance : One Try.prog 39 := ⟨⟨_, Try.underlying39, rfl⟩, by kernel_rfl⟩
instance : Siz Try.prog 39 1 := ⟨by kernel_rfl⟩
set_option maxRecDepth 100000 in
instance : Zer Try.prog 39 [.nilFunc] := ⟨.nilFunc, by kernel_rfl, rfl⟩
instance : One Try.prog 41 := ⟨⟨_, Try.underlying41, rfl⟩, by kernel_rfl⟩
instance : Siz Try.prog 41 1 := ⟨by kernel_rfl⟩
set_option maxRecDepth 100000 in
instance : Zer Try.prog 41 [.nilFunc] := ⟨.nilFunc, by kernel_rfl, rfl⟩
instance : One Try.prog 42 := ⟨⟨_, Try.underlying42, rfl⟩, by kernel_rfl⟩
instance : Siz Try.prog 42 1 := ⟨by kernel_rfl⟩
set_option maxRecDepth 100000 in
instance : Zer Try.prog 42 [.nilFunc] := ⟨.nilFunc, by kernel_rfl, rfl⟩
instance : One Try.prog 44 := ⟨⟨_, Try.underlying44, rfl⟩, by kernel_rfl⟩
instance : Siz Try.prog 44 1 := ⟨by kernel_rfl⟩
set_option maxRecDepth 100000 in
instance : Zer Try.prog 44 [.nilFunc] := ⟨.nilFunc, by kernel_rfl, rfl⟩
instance : One Try.prog 45 := ⟨⟨_, Try.underlying45, rfl⟩, by kernel_rfl⟩
instance : Siz Try.prog 45 1 := ⟨by kernel_rfl⟩
set_option maxRecDepth 100000 in
instance : Zer Try.prog 45 [.nilFunc] := ⟨.nilFunc, by kernel_rfl, rfl⟩
instance : One Try.prog 46 := ⟨⟨_, Try.underlying46, rfl⟩, by kernel_rfl⟩
instance : Siz Try.prog 46 1 := ⟨by kernel_rfl⟩
set_option maxRecDepth 100000 in
instance : Zer Try.prog 46 [.nilFunc] := ⟨.nilFunc, by kernel_rfl, rfl⟩
instance : Siz Try.prog 47 5 := ⟨by kernel_rfl⟩
instance : Agg Try.prog 47 := ⟨_, Try.underlying47, rfl⟩
set_option maxRecDepth 100000 in
instance : Zer Try.prog 47 (c_api_Envelope (.int .i64 0) (.int .u32 0) (.int .u32 0) (.slice none 0 0) (.slice none 0 0)) := ⟨.agg (c_api_Envelope (.int .i64 0) (.int .u32 0) (.int .u32 0) (.slice none 0 0) (.slice none 0 0)).toArray, by kernel_rfl, rfl⟩
set_option maxRecDepth 100000 in
instance : Blt0 Try.prog 47 (c_api_Envelope (.int .i64 0) (.int .u32 0) (.int .u32 0) (.slice none 0 0) (.slice none 0 0)) := ⟨by kernel_rfl⟩
set_option maxRecDepth 100000 in
instance : Places Try.prog 47 [(0, 1), (1, 1), (2, 1), (3, 1), (4, 1)] (c_api_Envelope (.int .i64 0) (.int .u32 0) (.int .u32 0) (.slice none 0 0) (.slice none 0 0)) := ⟨fun parts => by kernel_rfl⟩
instance : Siz Try.prog 48 5 := ⟨by kernel_rfl⟩
instance : Agg Try.prog 48 := ⟨_, Try.underlying48, rfl⟩
set_option maxRecDepth 100000 in
instance : Zer Try.prog 48 (c_api_Envelope (.int .i64 0) (.int .u32 0) (.int .u32 0) (.slice none 0 0) (.slice none 0 0)) := ⟨.agg (c_api_Envelope (.int .i64 0) (.int .u32 0) (.int .u32 0) (.slice none 0 0) (.slice none 0 0)).toArray, by kernel_rfl, rfl⟩
set_option maxRecDepth 100000 in
instance : Blt0 Try.prog 48 (c_api_Envelope (.int .i64 0) (.int .u32 0) (.int .u32 0) (.slice none 0 0) (.slice none 0 0)) := ⟨by kernel_rfl⟩
set_option maxRecDepth 100000 in
instance : Places Try.prog 48 [(0, 1), (1, 1), (2, 1), (3, 1), (4, 1)] (c_api_Envelope (.int .i64 0) (.int .u32 0) (.int .u32 0) (.slice none 0 0) (.slice none 0 0)) := ⟨fun parts => by kernel_rfl⟩
instance : One Try.prog 50 := ⟨⟨_, Try.underlying50, rfl⟩, by kernel_rfl⟩
instance : Siz Try.prog 50 1 := ⟨by kernel_rfl⟩
set_option maxRecDepth 100000 in
instance : Zer Try.prog 50 [.nilFunc] := ⟨.nilFunc, by kernel_rfl, rfl⟩
instance : One Try.prog 52 := ⟨⟨_, Try.underlying52, rfl⟩, by kernel_rfl⟩
instance : Siz Try.prog 52 1 := ⟨by kernel_rfl⟩
set_option maxRecDepth 100000 in
instance : Zer Try.prog 52 [.nilFunc] := ⟨.nilFunc, by kernel_rfl, rfl⟩
instance : One Try.prog 53 := ⟨⟨_, Try.underlying53, rfl⟩, by kernel_rfl⟩
instance : Siz Try.prog 53 1 := ⟨by kernel_rfl⟩
set_option maxRecDepth 100000 in
instance : Zer Try.prog 53 [.nilFunc] := ⟨.nilFunc, by kernel_rfl, rfl⟩
instance : One Try.prog 54 := ⟨⟨_, Try.underlying54, rfl⟩, by kernel_rfl⟩
instance : Siz Try.prog 54 1 := ⟨by kernel_rfl⟩
set_option maxRecDepth 100000 in
instance : Zer Try.prog 54 [.nilFunc] := ⟨.nilFunc, by kernel_rfl, rfl⟩
instance : One Try.prog 55 := ⟨⟨_, Try.underlying55, rfl⟩, by kernel_rfl⟩
instance : Siz Try.prog 55 1 := ⟨by kernel_rfl⟩
set_option maxRecDepth 100000 in
instance : Zer Try.prog 55 [.nilFunc] := ⟨.nilFunc, by kernel_rfl, rfl⟩
instance : One Try.prog 56 := ⟨⟨_, Try.underlying56, rfl⟩, by kernel_rfl⟩
instance : Siz Try.prog 56 1 := ⟨by kernel_rfl⟩
set_option maxRecDepth 100000 in
instance : Zer Try.prog 56 [.nilFunc] := ⟨.nilFunc, by kernel_rfl, rfl⟩
instance : One Try.prog 57 := ⟨⟨_, Try.underlying57, rfl⟩, by kernel_rfl⟩
instance : Siz Try.prog 57 1 := ⟨by kernel_rfl⟩
set_option maxRecDepth 100000 in
instance : Zer Try.prog 57 [.nilFunc] := ⟨.nilFunc, by kernel_rfl, rfl⟩
instance : One Try.prog 58 := ⟨⟨_, Try.underlying58, rfl⟩, by kernel_rfl⟩
instance : Siz Try.prog 58 1 := ⟨by kernel_rfl⟩
set_option maxRecDepth 100000 in
instance : Zer Try.prog 58 [.nilFunc] := ⟨.nilFunc, by kernel_rfl, rfl⟩
instance : One Try.prog 59 := ⟨⟨_, Try.underlying59, rfl⟩, by kernel_rfl⟩
instance : Siz Try.prog 59 1 := ⟨by kernel_rfl⟩
set_option maxRecDepth 100000 in
instance : Zer Try.prog 59 [.nilFunc] := ⟨.nilFunc, by kernel_rfl, rfl⟩
instance : One Try.prog 60 := ⟨⟨_, Try.underlying60, rfl⟩, by kernel_rfl⟩
instance : Siz Try.prog 60 1 := ⟨by kernel_rfl⟩
set_option maxRecDepth 100000 in
instance : Zer Try.prog 60 [.slice none 0 0] := ⟨(.slice none 0 0), by kernel_rfl, rfl⟩
instance : Elm Try.prog 60 70 100 128 := elm_mk (z := .agg (c_api_Entry (u8s (zeros 32)) (.string ByteArray.empty) (.int .i64 0) (u8s (zeros 32)) (u8s (zeros 32)) (.int .u32 0) (.int .u32 0)).toArray) Try.underlying60 (by kernel_rfl) (by kernel_rfl) (by decide)
instance : One Try.prog 62 := ⟨⟨_, Try.underlying62, rfl⟩, by kernel_rfl⟩
instance : Siz Try.prog 62 1 := ⟨by kernel_rfl⟩
set_option maxRecDepth 100000 in
instance : Zer Try.prog 62 [.nilFunc] := ⟨.nilFunc, by kernel_rfl, rfl⟩
instance : One Try.prog 64 := ⟨⟨_, Try.underlying64, rfl⟩, by kernel_rfl⟩
instance : Siz Try.prog 64 1 := ⟨by kernel_rfl⟩
set_option maxRecDepth 100000 in
instance : Zer Try.prog 64 [.nilFunc] := ⟨.nilFunc, by kernel_rfl, rfl⟩
instance : One Try.prog 65 := ⟨⟨_, Try.underlying65, rfl⟩, by kernel_rfl⟩
instance : Siz Try.prog 65 1 := ⟨by kernel_rfl⟩
set_option maxRecDepth 100000 in
instance : Zer Try.prog 65 [.nilFunc] := ⟨.nilFunc, by kernel_rfl, rfl⟩
instance : One Try.prog 66 := ⟨⟨_, Try.underlying66, rfl⟩, by kernel_rfl⟩
instance : Siz Try.prog 66 1 := ⟨by kernel_rfl⟩
set_option maxRecDepth 100000 in
instance : Zer Try.prog 66 [.nilFunc] := ⟨.nilFunc, by kernel_rfl, rfl⟩
instance : One Try.prog 67 := ⟨⟨_, Try.underlying67, rfl⟩, by kernel_rfl⟩
instance : Siz Try.prog 67 1 := ⟨by kernel_rfl⟩
set_option maxRecDepth 100000 in
instance : Zer Try.prog 67 [.nilFunc] := ⟨.nilFunc, by kernel_rfl, rfl⟩
instance : One Try.prog 68 := ⟨⟨_, Try.underlying68, rfl⟩, by kernel_rfl⟩
instance : Siz Try.prog 68 1 := ⟨by kernel_rfl⟩
set_option maxRecDepth 100000 in
instance : Zer Try.prog 68 [.nilFunc] := ⟨.nilFunc, by kernel_rfl, rfl⟩
instance : Siz Try.prog 69 100 := ⟨by kernel_rfl⟩
instance : Agg Try.prog 69 := ⟨_, Try.underlying69, rfl⟩
set_option maxRecDepth 100000 in
instance : Zer Try.prog 69 (c_api_Entry (u8s (zeros 32)) (.string ByteArray.empty) (.int .i64 0) (u8s (zeros 32)) (u8s (zeros 32)) (.int .u32 0) (.int .u32 0)) := ⟨.agg (c_api_Entry (u8s (zeros 32)) (.string ByteArray.empty) (.int .i64 0) (u8s (zeros 32)) (u8s (zeros 32)) (.int .u32 0) (.int .u32 0)).toArray, by kernel_rfl, rfl⟩
set_option maxRecDepth 100000 in
instance : Blt0 Try.prog 69 (c_api_Entry (u8s (zeros 32)) (.string ByteArray.empty) (.int .i64 0) (u8s (zeros 32)) (u8s (zeros 32)) (.int .u32 0) (.int .u32 0)) := ⟨by kernel_rfl⟩
set_option maxRecDepth 100000 in
instance : Places Try.prog 69 [(0, 32), (32, 1), (33, 1), (34, 32), (66, 32), (98, 1), (99, 1)] (c_api_Entry (u8s (zeros 32)) (.string ByteArray.empty) (.int .i64 0) (u8s (zeros 32)) (u8s (zeros 32)) (.int .u32 0) (.int .u32 0)) := ⟨fun parts => by kernel_rfl⟩
instance : Siz Try.prog 70 100 := ⟨by kernel_rfl⟩
instance : Agg Try.prog 70 := ⟨_, Try.underlying70, rfl⟩
set_option maxRecDepth 100000 in
instance : Zer Try.prog 70 (c_api_Entry (u8s (zeros 32)) (.string ByteArray.empty) (.int .i64 0) (u8s (zeros 32)) (u8s (zeros 32)) (.int .u32 0) (.int .u32 0)) := ⟨.agg (c_api_Entry (u8s (zeros 32)) (.string ByteArray.empty) (.int .i64 0) (u8s (zeros 32)) (u8s (zeros 32)) (.int .u32 0) (.int .u32 0)).toArray, by kernel_rfl, rfl⟩
set_option maxRecDepth 100000 in
instance : Blt0 Try.prog 70 (c_api_Entry (u8s (zeros 32)) (.string ByteArray.empty) (.int .i64 0) (u8s (zeros 32)) (u8s (zeros 32)) (.int .u32 0) (.int .u32 0)) := ⟨by kernel_rfl⟩
set_option maxRecDepth 100000 in
instance : Places Try.prog 70 [(0, 32), (32, 1), (33, 1), (34, 32), (66, 32), (98, 1), (99, 1)] (c_api_Entry (u8s (zeros 32)) (.string ByteArray.empty) (.int .i64 0) (u8s (zeros 32)) (u8s (zeros 32)) (.int .u32 0) (.int .u32 0)) := ⟨fun parts => by kernel_rfl⟩
instance : One Try.prog 71 := ⟨⟨_, Try.underlying71, rfl⟩, by kernel_rfl⟩
instance : Siz Try.prog 71 1 := ⟨by kernel_rfl⟩
set_option maxRecDepth 100000 in
instance : Zer Try.prog 71 [.nilFunc] := ⟨.nilFunc, by kernel_rfl, rfl⟩
instance : One Try.prog 72 := ⟨⟨_, Try.underlying72, rfl⟩, by kernel_rfl⟩
instance : Siz Try.prog 72 1 := ⟨by kernel_rfl⟩
set_option maxRecDepth 100000 in
instance : Zer Try.prog 72 [.nilFunc] := ⟨.nilFunc, by kernel_rfl, rfl⟩
instance : One Try.prog 74 := ⟨⟨_, Try.underlying74, rfl⟩, by kernel_rfl⟩
instance : Siz Try.prog 74 1 := ⟨by kernel_rfl⟩
set_option maxRecDepth 100000 in
instance : Zer Try.prog 74 [.nilFunc] := ⟨.nilFunc, by kernel_rfl, rfl⟩
instance : One Try.prog 75 := ⟨⟨_, Try.underlying75, rfl⟩, by kernel_rfl⟩
instance : Siz Try.prog 75 1 := ⟨by kernel_rfl⟩
set_option maxRecDepth 100000 in
instance : Zer Try.prog 75 [.nilFunc] := ⟨.nilFunc, by kernel_rfl, rfl⟩
instance : One Try.prog 76 := ⟨⟨_, Try.underlying76, rfl⟩, by kernel_rfl⟩
instance : Siz Try.prog 76 1 := ⟨by kernel_rfl⟩
set_option maxRecDepth 100000 in
instance : Zer Try.prog 76 [.nilFunc] := ⟨.nilFunc, by kernel_rfl, rfl⟩
instance : One Try.prog 77 := ⟨⟨_, Try.underlying77, rfl⟩, by kernel_rfl⟩
instance : Siz Try.prog 77 1 := ⟨by kernel_rfl⟩
set_option maxRecDepth 100000 in
instance : Zer Try.prog 77 [.slice none 0 0] := ⟨(.slice none 0 0), by kernel_rfl, rfl⟩
instance : Elm Try.prog 77 9 1 16 := elm_mk (z := (.string ByteArray.empty)) Try.underlying77 (by kernel_rfl) (by kernel_rfl) (by decide)
instance : One Try.prog 78 := ⟨⟨_, Try.underlying78, rfl⟩, by kernel_rfl⟩
instance : Siz Try.prog 78 1 := ⟨by kernel_rfl⟩
set_option maxRecDepth 100000 in
instance : Zer Try.prog 78 [.nilFunc] := ⟨.nilFunc, by kernel_rfl, rfl⟩
instance : One Try.prog 79 := ⟨⟨_, Try.underlying79, rfl⟩, by kernel_rfl⟩
instance : Siz Try.prog 79 1 := ⟨by kernel_rfl⟩
set_option maxRecDepth 100000 in
instance : Zer Try.prog 79 [.nilFunc] := ⟨.nilFunc, by kernel_rfl, rfl⟩
instance : One Try.prog 80 := ⟨⟨_, Try.underlying80, rfl⟩, by kernel_rfl⟩
instance : Siz Try.prog 80 1 := ⟨by kernel_rfl⟩
set_option maxRecDepth 100000 in
instance : Zer Try.prog 80 [.nilFunc] := ⟨.nilFunc, by kernel_rfl, rfl⟩
instance : One Try.prog 81 := ⟨⟨_, Try.underlying81, rfl⟩, by kernel_rfl⟩
instance : Siz Try.prog 81 1 := ⟨by kernel_rfl⟩
set_option maxRecDepth 100000 in
instance : Zer Try.prog 81 [.nilFunc] := ⟨.nilFunc, by kernel_rfl, rfl⟩
instance : One Try.prog 82 := ⟨⟨_, Try.underlying82, rfl⟩, by kernel_rfl⟩
instance : Siz Try.prog 82 1 := ⟨by kernel_rfl⟩
set_option maxRecDepth 100000 in
instance : Zer Try.prog 82 [.nilFunc] := ⟨.nilFunc, by kernel_rfl, rfl⟩
instance : One Try.prog 83 := ⟨⟨_, Try.underlying83, rfl⟩, by kernel_rfl⟩
instance : Siz Try.prog 83 1 := ⟨by kernel_rfl⟩
set_option maxRecDepth 100000 in
instance : Zer Try.prog 83 [.nilFunc] := ⟨.nilFunc, by kernel_rfl, rfl⟩
instance : One Try.prog 84 := ⟨⟨_, Try.underlying84, rfl⟩, by kernel_rfl⟩
instance : Siz Try.prog 84 1 := ⟨by kernel_rfl⟩
set_option maxRecDepth 100000 in
instance : Zer Try.prog 84 [.nilFunc] := ⟨.nilFunc, by kernel_rfl, rfl⟩
instance : One Try.prog 85 := ⟨⟨_, Try.underlying85, rfl⟩, by kernel_rfl⟩
instance : Siz Try.prog 85 1 := ⟨by kernel_rfl⟩
set_option maxRecDepth 100000 in
instance : Zer Try.prog 85 [.nilFunc] := ⟨.nilFunc, by kernel_rfl, rfl⟩
instance : One Try.prog 86 := ⟨⟨_, Try.underlying86, rfl⟩, by kernel_rfl⟩
instance : Siz Try.prog 86 1 := ⟨by kernel_rfl⟩
set_option maxRecDepth 100000 in
instance : Zer Try.prog 86 [.pointer none] := ⟨(.pointer none), by kernel_rfl, rfl⟩
instance : One Try.prog 87 := ⟨⟨_, Try.underlying87, rfl⟩, by kernel_rfl⟩
instance : Siz Try.prog 87 1 := ⟨by kernel_rfl⟩
set_option maxRecDepth 100000 in
instance : Zer Try.prog 87 [.nilFunc] := ⟨.nilFunc, by kernel_rfl, rfl⟩
instance : One Try.prog 88 := ⟨⟨_, Try.underlying88, rfl⟩, by kernel_rfl⟩
instance : Siz Try.prog 88 1 := ⟨by kernel_rfl⟩
set_option maxRecDepth 100000 in
instance : Zer Try.prog 88 [.nilFunc] := ⟨.nilFunc, by kernel_rfl, rfl⟩
instance : One Try.prog 89 := ⟨⟨_, Try.underlying89, rfl⟩, by kernel_rfl⟩
instance : Siz Try.prog 89 1 := ⟨by kernel_rfl⟩
set_option maxRecDepth 100000 in
instance : Zer Try.prog 89 [.nilFunc] := ⟨.nilFunc, by kernel_rfl, rfl⟩
instance : One Try.prog 90 := ⟨⟨_, Try.underlying90, rfl⟩, by kernel_rfl⟩
instance : Siz Try.prog 90 1 := ⟨by kernel_rfl⟩
set_option maxRecDepth 100000 in
instance : Zer Try.prog 90 [.nilFunc] := ⟨.nilFunc, by kernel_rfl, rfl⟩
instance : One Try.prog 91 := ⟨⟨_, Try.underlying91, rfl⟩, by kernel_rfl⟩
instance : Siz Try.prog 91 1 := ⟨by kernel_rfl⟩
set_option maxRecDepth 100000 in
instance : Zer Try.prog 91 [.nilFunc] := ⟨.nilFunc, by kernel_rfl, rfl⟩
instance : One Try.prog 92 := ⟨⟨_, Try.underlying92, rfl⟩, by kernel_rfl⟩
instance : Siz Try.prog 92 1 := ⟨by kernel_rfl⟩
set_option maxRecDepth 100000 in
instance : Zer Try.prog 92 [.pointer none] := ⟨(.pointer none), by kernel_rfl, rfl⟩
instance : Siz Try.prog 93 2 := ⟨by kernel_rfl⟩
instance : Agg Try.prog 93 := ⟨_, Try.underlying93, rfl⟩
set_option maxRecDepth 100000 in
instance : Zer Try.prog 93 (c_tabulariumref08_Reader (.slice none 0 0) (.bool false)) := ⟨.agg (c_tabulariumref08_Reader (.slice none 0 0) (.bool false)).toArray, by kernel_rfl, rfl⟩
set_option maxRecDepth 100000 in
instance : Blt0 Try.prog 93 (c_tabulariumref08_Reader (.slice none 0 0) (.bool false)) := ⟨by kernel_rfl⟩
set_option maxRecDepth 100000 in
instance : Places Try.prog 93 [(0, 1), (1, 1)] (c_tabulariumref08_Reader (.slice none 0 0) (.bool false)) := ⟨fun parts => by kernel_rfl⟩
instance : Siz Try.prog 94 2 := ⟨by kernel_rfl⟩
instance : Agg Try.prog 94 := ⟨_, Try.underlying94, rfl⟩
set_option maxRecDepth 100000 in
instance : Zer Try.prog 94 (c_tabulariumref08_Reader (.slice none 0 0) (.bool false)) := ⟨.agg (c_tabulariumref08_Reader (.slice none 0 0) (.bool false)).toArray, by kernel_rfl, rfl⟩
set_option maxRecDepth 100000 in
instance : Blt0 Try.prog 94 (c_tabulariumref08_Reader (.slice none 0 0) (.bool false)) := ⟨by kernel_rfl⟩
set_option maxRecDepth 100000 in
instance : Places Try.prog 94 [(0, 1), (1, 1)] (c_tabulariumref08_Reader (.slice none 0 0) (.bool false)) := ⟨fun parts => by kernel_rfl⟩
instance : One Try.prog 95 := ⟨⟨_, Try.underlying95, rfl⟩, by kernel_rfl⟩
instance : Siz Try.prog 95 1 := ⟨by kernel_rfl⟩
set_option maxRecDepth 100000 in
instance : Zer Try.prog 95 [.nilFunc] := ⟨.nilFunc, by kernel_rfl, rfl⟩
instance : One Try.prog 96 := ⟨⟨_, Try.underlying96, rfl⟩, by kernel_rfl⟩
instance : Siz Try.prog 96 1 := ⟨by kernel_rfl⟩
set_option maxRecDepth 100000 in
instance : Zer Try.prog 96 [.nilFunc] := ⟨.nilFunc, by kernel_rfl, rfl⟩
instance : One Try.prog 97 := ⟨⟨_, Try.underlying97, rfl⟩, by kernel_rfl⟩
instance : Siz Try.prog 97 1 := ⟨by kernel_rfl⟩
set_option maxRecDepth 100000 in
instance : Zer Try.prog 97 [.pointer none] := ⟨(.pointer none), by kernel_rfl, rfl⟩
instance : Siz Try.prog 98 1 := ⟨by kernel_rfl⟩
instance : Agg Try.prog 98 := ⟨_, Try.underlying98, rfl⟩
set_option maxRecDepth 100000 in
instance : Zer Try.prog 98 (c_codec_Writer (.slice none 0 0)) := ⟨.agg (c_codec_Writer (.slice none 0 0)).toArray, by kernel_rfl, rfl⟩
set_option maxRecDepth 100000 in
instance : Blt0 Try.prog 98 (c_codec_Writer (.slice none 0 0)) := ⟨by kernel_rfl⟩
set_option maxRecDepth 100000 in
instance : Places Try.prog 98 [(0, 1)] (c_codec_Writer (.slice none 0 0)) := ⟨fun parts => by kernel_rfl⟩
instance : Siz Try.prog 99 1 := ⟨by kernel_rfl⟩
instance : Agg Try.prog 99 := ⟨_, Try.underlying99, rfl⟩
set_option maxRecDepth 100000 in
instance : Zer Try.prog 99 (c_codec_Writer (.slice none 0 0)) := ⟨.agg (c_codec_Writer (.slice none 0 0)).toArray, by kernel_rfl, rfl⟩
set_option maxRecDepth 100000 in
instance : Blt0 Try.prog 99 (c_codec_Writer (.slice none 0 0)) := ⟨by kernel_rfl⟩
set_option maxRecDepth 100000 in
instance : Places Try.prog 99 [(0, 1)] (c_codec_Writer (.slice none 0 0)) := ⟨fun parts => by kernel_rfl⟩
instance : One Try.prog 100 := ⟨⟨_, Try.underlying100, rfl⟩, by kernel_rfl⟩
instance : Siz Try.prog 100 1 := ⟨by kernel_rfl⟩
set_option maxRecDepth 100000 in
instance : Zer Try.prog 100 [.nilFunc] := ⟨.nilFunc, by kernel_rfl, rfl⟩
instance : One Try.prog 101 := ⟨⟨_, Try.underlying101, rfl⟩, by kernel_rfl⟩
instance : Siz Try.prog 101 1 := ⟨by kernel_rfl⟩
set_option maxRecDepth 100000 in
instance : Zer Try.prog 101 [.nilFunc] := ⟨.nilFunc, by kernel_rfl, rfl⟩
instance : One Try.prog 102 := ⟨⟨_, Try.underlying102, rfl⟩, by kernel_rfl⟩
instance : Siz Try.prog 102 1 := ⟨by kernel_rfl⟩
set_option maxRecDepth 100000 in
instance : Zer Try.prog 102 [.nilFunc] := ⟨.nilFunc, by kernel_rfl, rfl⟩
instance : One Try.prog 103 := ⟨⟨_, Try.underlying103, rfl⟩, by kernel_rfl⟩
instance : Siz Try.prog 103 1 := ⟨by kernel_rfl⟩
set_option maxRecDepth 100000 in
instance : Zer Try.prog 103 [.nilFunc] := ⟨.nilFunc, by kernel_rfl, rfl⟩
instance : One Try.prog 104 := ⟨⟨_, Try.underlying104, rfl⟩, by kernel_rfl⟩
instance : Siz Try.prog 104 1 := ⟨by kernel_rfl⟩
set_option maxRecDepth 100000 in
instance : Zer Try.prog 104 [.nilFunc] := ⟨.nilFunc, by kernel_rfl, rfl⟩
instance : One Try.prog 105 := ⟨⟨_, Try.underlying105, rfl⟩, by kernel_rfl⟩
instance : Siz Try.prog 105 1 := ⟨by kernel_rfl⟩
set_option maxRecDepth 100000 in
instance : Zer Try.prog 105 [.nilFunc] := ⟨.nilFunc, by kernel_rfl, rfl⟩
instance : One Try.prog 106 := ⟨⟨_, Try.underlying106, rfl⟩, by kernel_rfl⟩
instance : Siz Try.prog 106 1 := ⟨by kernel_rfl⟩
set_option maxRecDepth 100000 in
instance : Zer Try.prog 106 [.nilFunc] := ⟨.nilFunc, by kernel_rfl, rfl⟩
instance : One Try.prog 107 := ⟨⟨_, Try.underlying107, rfl⟩, by kernel_rfl⟩
instance : Siz Try.prog 107 1 := ⟨by kernel_rfl⟩
set_option maxRecDepth 100000 in
instance : Zer Try.prog 107 [.nilFunc] := ⟨.nilFunc, by kernel_rfl, rfl⟩
instance : One Try.prog 108 := ⟨⟨_, Try.underlying108, rfl⟩, by kernel_rfl⟩
instance : Siz Try.prog 108 1 := ⟨by kernel_rfl⟩
set_option maxRecDepth 100000 in
instance : Zer Try.prog 108 [.nilFunc] := ⟨.nilFunc, by kernel_rfl, rfl⟩
instance : One Try.prog 109 := ⟨⟨_, Try.underlying109, rfl⟩, by kernel_rfl⟩
instance : Siz Try.prog 109 1 := ⟨by kernel_rfl⟩
set_option maxRecDepth 100000 in
instance : Zer Try.prog 109 [.nilFunc] := ⟨.nilFunc, by kernel_rfl, rfl⟩
instance : One Try.prog 110 := ⟨⟨_, Try.underlying110, rfl⟩, by kernel_rfl⟩
instance : Siz Try.prog 110 1 := ⟨by kernel_rfl⟩
set_option maxRecDepth 100000 in
instance : Zer Try.prog 110 [.nilFunc] := ⟨.nilFunc, by kernel_rfl, rfl⟩
instance : One Try.prog 111 := ⟨⟨_, Try.underlying111, rfl⟩, by kernel_rfl⟩
instance : Siz Try.prog 111 1 := ⟨by kernel_rfl⟩
set_option maxRecDepth 100000 in
instance : Zer Try.prog 111 [.nilFunc] := ⟨.nilFunc, by kernel_rfl, rfl⟩
instance : One Try.prog 112 := ⟨⟨_, Try.underlying112, rfl⟩, by kernel_rfl⟩
instance : Siz Try.prog 112 1 := ⟨by kernel_rfl⟩
set_option maxRecDepth 100000 in
instance : Zer Try.prog 112 [.nilFunc] := ⟨.nilFunc, by kernel_rfl, rfl⟩
instance : One Try.prog 113 := ⟨⟨_, Try.underlying113, rfl⟩, by kernel_rfl⟩
instance : Siz Try.prog 113 1 := ⟨by kernel_rfl⟩
set_option maxRecDepth 100000 in
instance : Zer Try.prog 113 [.nilFunc] := ⟨.nilFunc, by kernel_rfl, rfl⟩
instance : One Try.prog 114 := ⟨⟨_, Try.underlying114, rfl⟩, by kernel_rfl⟩
instance : Siz Try.prog 114 1 := ⟨by kernel_rfl⟩
set_option maxRecDepth 100000 in
instance : Zer Try.prog 114 [.nilFunc] := ⟨.nilFunc, by kernel_rfl, rfl⟩
instance : One Try.prog 115 := ⟨⟨_, Try.underlying115, rfl⟩, by kernel_rfl⟩
instance : Siz Try.prog 115 1 := ⟨by kernel_rfl⟩
set_option maxRecDepth 100000 in
instance : Zer Try.prog 115 [.nilFunc] := ⟨.nilFunc, by kernel_rfl, rfl⟩
instance : One Try.prog 116 := ⟨⟨_, Try.underlying116, rfl⟩, by kernel_rfl⟩
instance : Siz Try.prog 116 1 := ⟨by kernel_rfl⟩
set_option maxRecDepth 100000 in
instance : Zer Try.prog 116 [.nilFunc] := ⟨.nilFunc, by kernel_rfl, rfl⟩
instance : One Try.prog 117 := ⟨⟨_, Try.underlying117, rfl⟩, by kernel_rfl⟩
instance : Siz Try.prog 117 1 := ⟨by kernel_rfl⟩
set_option maxRecDepth 100000 in
instance : Zer Try.prog 117 [.nilFunc] := ⟨.nilFunc, by kernel_rfl, rfl⟩
instance : One Try.prog 118 := ⟨⟨_, Try.underlying118, rfl⟩, by kernel_rfl⟩
instance : Siz Try.prog 118 1 := ⟨by kernel_rfl⟩
set_option maxRecDepth 100000 in
instance : Zer Try.prog 118 [.nilFunc] := ⟨.nilFunc, by kernel_rfl, rfl⟩
instance : One Try.prog 119 := ⟨⟨_, Try.underlying119, rfl⟩, by kernel_rfl⟩
instance : Siz Try.prog 119 1 := ⟨by kernel_rfl⟩
set_option maxRecDepth 100000 in
instance : Zer Try.prog 119 [.nilFunc] := ⟨.nilFunc, by kernel_rfl, rfl⟩
instance : One Try.prog 120 := ⟨⟨_, Try.underlying120, rfl⟩, by kernel_rfl⟩
instance : Siz Try.prog 120 1 := ⟨by kernel_rfl⟩
set_option maxRecDepth 100000 in
instance : Zer Try.prog 120 [.nilFunc] := ⟨.nilFunc, by kernel_rfl, rfl⟩
instance : One Try.prog 121 := ⟨⟨_, Try.underlying121, rfl⟩, by kernel_rfl⟩
instance : Siz Try.prog 121 1 := ⟨by kernel_rfl⟩
set_option maxRecDepth 100000 in
instance : Zer Try.prog 121 [.nilFunc] := ⟨.nilFunc, by kernel_rfl, rfl⟩
instance : One Try.prog 122 := ⟨⟨_, Try.underlying122, rfl⟩, by kernel_rfl⟩
instance : Siz Try.prog 122 1 := ⟨by kernel_rfl⟩
set_option maxRecDepth 100000 in
instance : Zer Try.prog 122 [.map none] := ⟨(.map none), by kernel_rfl, rfl⟩
instance : One Try.prog 123 := ⟨⟨_, Try.underlying123, rfl⟩, by kernel_rfl⟩
instance : Siz Try.prog 123 1 := ⟨by kernel_rfl⟩
set_option maxRecDepth 100000 in
instance : Zer Try.prog 123 [.nilFunc] := ⟨.nilFunc, by kernel_rfl, rfl⟩
instance : One Try.prog 124 := ⟨⟨_, Try.underlying124, rfl⟩, by kernel_rfl⟩
instance : Siz Try.prog 124 1 := ⟨by kernel_rfl⟩
set_option maxRecDepth 100000 in
instance : Zer Try.prog 124 [.nilFunc] := ⟨.nilFunc, by kernel_rfl, rfl⟩
instance : One Try.prog 125 := ⟨⟨_, Try.underlying125, rfl⟩, by kernel_rfl⟩
instance : Siz Try.prog 125 1 := ⟨by kernel_rfl⟩
set_option maxRecDepth 100000 in
instance : Zer Try.prog 125 [.nilFunc] := ⟨.nilFunc, by kernel_rfl, rfl⟩
instance : One Try.prog 126 := ⟨⟨_, Try.underlying126, rfl⟩, by kernel_rfl⟩
instance : Siz Try.prog 126 1 := ⟨by kernel_rfl⟩
set_option maxRecDepth 100000 in
instance : Zer Try.prog 126 [.slice none 0 0] := ⟨(.slice none 0 0), by kernel_rfl, rfl⟩
instance : Elm Try.prog 126 31 68 120 := elm_mk (z := .agg (c_api_Commit (.slice none 0 0) (u8s (zeros 32)) (u8s (zeros 32)) (.int .u64 0) (.int .u32 0) (.string ByteArray.empty)).toArray) Try.underlying126 (by kernel_rfl) (by kernel_rfl) (by decide)
instance : Siz Try.prog 127 2 := ⟨by kernel_rfl⟩
instance : Agg Try.prog 127 := ⟨_, Try.underlying127, rfl⟩
set_option maxRecDepth 100000 in
instance : Zer Try.prog 127 (c_codec_Reader (.slice none 0 0) (.bool false)) := ⟨.agg (c_codec_Reader (.slice none 0 0) (.bool false)).toArray, by kernel_rfl, rfl⟩
set_option maxRecDepth 100000 in
instance : Blt0 Try.prog 127 (c_codec_Reader (.slice none 0 0) (.bool false)) := ⟨by kernel_rfl⟩
set_option maxRecDepth 100000 in
instance : Places Try.prog 127 [(0, 1), (1, 1)] (c_codec_Reader (.slice none 0 0) (.bool false)) := ⟨fun parts => by kernel_rfl⟩
instance : Siz Try.prog 128 2 := ⟨by kernel_rfl⟩
instance : Agg Try.prog 128 := ⟨_, Try.underlying128, rfl⟩
set_option maxRecDepth 100000 in
instance : Zer Try.prog 128 (c_codec_Reader (.slice none 0 0) (.bool false)) := ⟨.agg (c_codec_Reader (.slice none 0 0) (.bool false)).toArray, by kernel_rfl, rfl⟩
set_option maxRecDepth 100000 in
instance : Blt0 Try.prog 128 (c_codec_Reader (.slice none 0 0) (.bool false)) := ⟨by kernel_rfl⟩
set_option maxRecDepth 100000 in
instance : Places Try.prog 128 [(0, 1), (1, 1)] (c_codec_Reader (.slice none 0 0) (.bool false)) := ⟨fun parts => by kernel_rfl⟩
instance : One Try.prog 129 := ⟨⟨_, Try.underlying129, rfl⟩, by kernel_rfl⟩
instance : Siz Try.prog 129 1 := ⟨by kernel_rfl⟩
set_option maxRecDepth 100000 in
instance : Zer Try.prog 129 [.nilFunc] := ⟨.nilFunc, by kernel_rfl, rfl⟩
instance : One Try.prog 130 := ⟨⟨_, Try.underlying130, rfl⟩, by kernel_rfl⟩
instance : Siz Try.prog 130 1 := ⟨by kernel_rfl⟩
set_option maxRecDepth 100000 in
instance : Zer Try.prog 130 [.slice none 0 0] := ⟨(.slice none 0 0), by kernel_rfl, rfl⟩
instance : Elm Try.prog 130 28 1 8 := elm_mk (z := (.int .u64 0)) Try.underlying130 (by kernel_rfl) (by kernel_rfl) (by decide)
instance : One Try.prog 131 := ⟨⟨_, Try.underlying131, rfl⟩, by kernel_rfl⟩
instance : Siz Try.prog 131 1 := ⟨by kernel_rfl⟩
set_option maxRecDepth 100000 in
instance : Zer Try.prog 131 [.int .u64 0] := ⟨(.int .u64 0), by kernel_rfl, rfl⟩
instance : One Try.prog 132 := ⟨⟨_, Try.underlying132, rfl⟩, by kernel_rfl⟩
instance : Siz Try.prog 132 1 := ⟨by kernel_rfl⟩
set_option maxRecDepth 100000 in
instance : Zer Try.prog 132 [.slice none 0 0] := ⟨(.slice none 0 0), by kernel_rfl, rfl⟩
instance : Elm Try.prog 132 22 1 24 := elm_mk (z := (.slice none 0 0)) Try.underlying132 (by kernel_rfl) (by kernel_rfl) (by decide)
instance : One Try.prog 133 := ⟨⟨_, Try.underlying133, rfl⟩, by kernel_rfl⟩
instance : Siz Try.prog 133 1 := ⟨by kernel_rfl⟩
set_option maxRecDepth 100000 in
instance : Zer Try.prog 133 [.nilFunc] := ⟨.nilFunc, by kernel_rfl, rfl⟩
instance : One Try.prog 134 := ⟨⟨_, Try.underlying134, rfl⟩, by kernel_rfl⟩
instance : Siz Try.prog 134 1 := ⟨by kernel_rfl⟩
set_option maxRecDepth 100000 in
instance : Zer Try.prog 134 [.nilFunc] := ⟨.nilFunc, by kernel_rfl, rfl⟩
instance : One Try.prog 135 := ⟨⟨_, Try.underlying135, rfl⟩, by kernel_rfl⟩
instance : Siz Try.prog 135 1 := ⟨by kernel_rfl⟩
set_option maxRecDepth 100000 in
instance : Zer Try.prog 135 [.nilFunc] := ⟨.nilFunc, by kernel_rfl, rfl⟩
instance : One Try.prog 136 := ⟨⟨_, Try.underlying136, rfl⟩, by kernel_rfl⟩
instance : Siz Try.prog 136 1 := ⟨by kernel_rfl⟩
set_option maxRecDepth 100000 in
instance : Zer Try.prog 136 [.nilFunc] := ⟨.nilFunc, by kernel_rfl, rfl⟩
instance : One Try.prog 137 := ⟨⟨_, Try.underlying137, rfl⟩, by kernel_rfl⟩
instance : Siz Try.prog 137 1 := ⟨by kernel_rfl⟩
set_option maxRecDepth 100000 in
instance : Zer Try.prog 137 [.nilFunc] := ⟨.nilFunc, by kernel_rfl, rfl⟩
instance : One Try.prog 138 := ⟨⟨_, Try.underlying138, rfl⟩, by kernel_rfl⟩
instance : Siz Try.prog 138 1 := ⟨by kernel_rfl⟩
set_option maxRecDepth 100000 in
instance : Zer Try.prog 138 [.nilFunc] := ⟨.nilFunc, by kernel_rfl, rfl⟩
instance : One Try.prog 139 := ⟨⟨_, Try.underlying139, rfl⟩, by kernel_rfl⟩
instance : Siz Try.prog 139 1 := ⟨by kernel_rfl⟩
set_option maxRecDepth 100000 in
instance : Zer Try.prog 139 [.nilFunc] := ⟨.nilFunc, by kernel_rfl, rfl⟩
instance : One Try.prog 140 := ⟨⟨_, Try.underlying140, rfl⟩, by kernel_rfl⟩
instance : Siz Try.prog 140 1 := ⟨by kernel_rfl⟩
set_option maxRecDepth 100000 in
instance : Zer Try.prog 140 [.nilFunc] := ⟨.nilFunc, by kernel_rfl, rfl⟩
instance : One Try.prog 141 := ⟨⟨_, Try.underlying141, rfl⟩, by kernel_rfl⟩
instance : Siz Try.prog 141 1 := ⟨by kernel_rfl⟩
set_option maxRecDepth 100000 in
instance : Zer Try.prog 141 [.nilFunc] := ⟨.nilFunc, by kernel_rfl, rfl⟩
instance : One Try.prog 142 := ⟨⟨_, Try.underlying142, rfl⟩, by kernel_rfl⟩
instance : Siz Try.prog 142 1 := ⟨by kernel_rfl⟩
set_option maxRecDepth 100000 in
instance : Zer Try.prog 142 [.nilFunc] := ⟨.nilFunc, by kernel_rfl, rfl⟩
instance : One Try.prog 143 := ⟨⟨_, Try.underlying143, rfl⟩, by kernel_rfl⟩
instance : Siz Try.prog 143 1 := ⟨by kernel_rfl⟩
set_option maxRecDepth 100000 in
instance : Zer Try.prog 143 [.nilFunc] := ⟨.nilFunc, by kernel_rfl, rfl⟩
instance : One Try.prog 144 := ⟨⟨_, Try.underlying144, rfl⟩, by kernel_rfl⟩
instance : Siz Try.prog 144 1 := ⟨by kernel_rfl⟩
set_option maxRecDepth 100000 in
instance : Zer Try.prog 144 [.nilFunc] := ⟨.nilFunc, by kernel_rfl, rfl⟩
instance : One Try.prog 145 := ⟨⟨_, Try.underlying145, rfl⟩, by kernel_rfl⟩
instance : Siz Try.prog 145 1 := ⟨by kernel_rfl⟩
set_option maxRecDepth 100000 in
instance : Zer Try.prog 145 [.nilFunc] := ⟨.nilFunc, by kernel_rfl, rfl⟩
instance : One Try.prog 146 := ⟨⟨_, Try.underlying146, rfl⟩, by kernel_rfl⟩
instance : Siz Try.prog 146 1 := ⟨by kernel_rfl⟩
set_option maxRecDepth 100000 in
instance : Zer Try.prog 146 [.nilFunc] := ⟨.nilFunc, by kernel_rfl, rfl⟩
instance : One Try.prog 147 := ⟨⟨_, Try.underlying147, rfl⟩, by kernel_rfl⟩
instance : Siz Try.prog 147 1 := ⟨by kernel_rfl⟩
set_option maxRecDepth 100000 in
instance : Zer Try.prog 147 [.nilFunc] := ⟨.nilFunc, by kernel_rfl, rfl⟩
instance : One Try.prog 148 := ⟨⟨_, Try.underlying148, rfl⟩, by kernel_rfl⟩
instance : Siz Try.prog 148 1 := ⟨by kernel_rfl⟩
set_option maxRecDepth 100000 in
instance : Zer Try.prog 148 [.nilFunc] := ⟨.nilFunc, by kernel_rfl, rfl⟩
instance : One Try.prog 149 := ⟨⟨_, Try.underlying149, rfl⟩, by kernel_rfl⟩
instance : Siz Try.prog 149 1 := ⟨by kernel_rfl⟩
set_option maxRecDepth 100000 in
instance : Zer Try.prog 149 [.int .i64 0] := ⟨(.int .i64 0), by kernel_rfl, rfl⟩
instance : One Try.prog 151 := ⟨⟨_, Try.underlying151, rfl⟩, by kernel_rfl⟩
instance : Siz Try.prog 151 1 := ⟨by kernel_rfl⟩
set_option maxRecDepth 100000 in
instance : Zer Try.prog 151 [.nilFunc] := ⟨.nilFunc, by kernel_rfl, rfl⟩
instance : One Try.prog 152 := ⟨⟨_, Try.underlying152, rfl⟩, by kernel_rfl⟩
instance : Siz Try.prog 152 1 := ⟨by kernel_rfl⟩
set_option maxRecDepth 100000 in
instance : Zer Try.prog 152 [.nilFunc] := ⟨.nilFunc, by kernel_rfl, rfl⟩
instance : One Try.prog 153 := ⟨⟨_, Try.underlying153, rfl⟩, by kernel_rfl⟩
instance : Siz Try.prog 153 1 := ⟨by kernel_rfl⟩
set_option maxRecDepth 100000 in
instance : Zer Try.prog 153 [.nilFunc] := ⟨.nilFunc, by kernel_rfl, rfl⟩
instance : One Try.prog 154 := ⟨⟨_, Try.underlying154, rfl⟩, by kernel_rfl⟩
instance : Siz Try.prog 154 1 := ⟨by kernel_rfl⟩
set_option maxRecDepth 100000 in
instance : Zer Try.prog 154 [.nilFunc] := ⟨.nilFunc, by kernel_rfl, rfl⟩
instance : One Try.prog 155 := ⟨⟨_, Try.underlying155, rfl⟩, by kernel_rfl⟩
instance : Siz Try.prog 155 1 := ⟨by kernel_rfl⟩
set_option maxRecDepth 100000 in
instance : Zer Try.prog 155 [.nilFunc] := ⟨.nilFunc, by kernel_rfl, rfl⟩
instance : One Try.prog 156 := ⟨⟨_, Try.underlying156, rfl⟩, by kernel_rfl⟩
instance : Siz Try.prog 156 1 := ⟨by kernel_rfl⟩
set_option maxRecDepth 100000 in
instance : Zer Try.prog 156 [.nilFunc] := ⟨.nilFunc, by kernel_rfl, rfl⟩
instance : One Try.prog 157 := ⟨⟨_, Try.underlying157, rfl⟩, by kernel_rfl⟩
instance : Siz Try.prog 157 1 := ⟨by kernel_rfl⟩
set_option maxRecDepth 100000 in
instance : Zer Try.prog 157 [.nilFunc] := ⟨.nilFunc, by kernel_rfl, rfl⟩
instance : One Try.prog 158 := ⟨⟨_, Try.underlying158, rfl⟩, by kernel_rfl⟩
instance : Siz Try.prog 158 1 := ⟨by kernel_rfl⟩
set_option maxRecDepth 100000 in
instance : Zer Try.prog 158 [.nilFunc] := ⟨.nilFunc, by kernel_rfl, rfl⟩
instance : One Try.prog 159 := ⟨⟨_, Try.underlying159, rfl⟩, by kernel_rfl⟩
instance : Siz Try.prog 159 1 := ⟨by kernel_rfl⟩
set_option maxRecDepth 100000 in
instance : Zer Try.prog 159 [.nilFunc] := ⟨.nilFunc, by kernel_rfl, rfl⟩
instance : One Try.prog 160 := ⟨⟨_, Try.underlying160, rfl⟩, by kernel_rfl⟩
instance : Siz Try.prog 160 1 := ⟨by kernel_rfl⟩
set_option maxRecDepth 100000 in
instance : Zer Try.prog 160 [.nilFunc] := ⟨.nilFunc, by kernel_rfl, rfl⟩
instance : One Try.prog 161 := ⟨⟨_, Try.underlying161, rfl⟩, by kernel_rfl⟩
instance : Siz Try.prog 161 1 := ⟨by kernel_rfl⟩
set_option maxRecDepth 100000 in
instance : Zer Try.prog 161 [.nilFunc] := ⟨.nilFunc, by kernel_rfl, rfl⟩
instance : One Try.prog 162 := ⟨⟨_, Try.underlying162, rfl⟩, by kernel_rfl⟩
instance : Siz Try.prog 162 1 := ⟨by kernel_rfl⟩
set_option maxRecDepth 100000 in
instance : Zer Try.prog 162 [.nilFunc] := ⟨.nilFunc, by kernel_rfl, rfl⟩
instance : One Try.prog 163 := ⟨⟨_, Try.underlying163, rfl⟩, by kernel_rfl⟩
instance : Siz Try.prog 163 1 := ⟨by kernel_rfl⟩
set_option maxRecDepth 100000 in
instance : Zer Try.prog 163 [.nilFunc] := ⟨.nilFunc, by kernel_rfl, rfl⟩
instance : One Try.prog 164 := ⟨⟨_, Try.underlying164, rfl⟩, by kernel_rfl⟩
instance : Siz Try.prog 164 1 := ⟨by kernel_rfl⟩
set_option maxRecDepth 100000 in
instance : Zer Try.prog 164 [.int .u64 0] := ⟨(.int .u64 0), by kernel_rfl, rfl⟩
instance : One Try.prog 165 := ⟨⟨_, Try.underlying165, rfl⟩, by kernel_rfl⟩
instance : Siz Try.prog 165 1 := ⟨by kernel_rfl⟩
set_option maxRecDepth 100000 in
instance : Zer Try.prog 165 [.nilFunc] := ⟨.nilFunc, by kernel_rfl, rfl⟩
instance : One Try.prog 166 := ⟨⟨_, Try.underlying166, rfl⟩, by kernel_rfl⟩
instance : Siz Try.prog 166 1 := ⟨by kernel_rfl⟩
set_option maxRecDepth 100000 in
instance : Zer Try.prog 166 [.nilFunc] := ⟨.nilFunc, by kernel_rfl, rfl⟩
instance : One Try.prog 167 := ⟨⟨_, Try.underlying167, rfl⟩, by kernel_rfl⟩
instance : Siz Try.prog 167 1 := ⟨by kernel_rfl⟩
set_option maxRecDepth 100000 in
instance : Zer Try.prog 167 [.nilFunc] := ⟨.nilFunc, by kernel_rfl, rfl⟩
instance : One Try.prog 168 := ⟨⟨_, Try.underlying168, rfl⟩, by kernel_rfl⟩
instance : Siz Try.prog 168 1 := ⟨by kernel_rfl⟩
set_option maxRecDepth 100000 in
instance : Zer Try.prog 168 [.pointer none] := ⟨(.pointer none), by kernel_rfl, rfl⟩
instance : One Try.prog 169 := ⟨⟨_, Try.underlying169, rfl⟩, by kernel_rfl⟩
instance : Siz Try.prog 169 1 := ⟨by kernel_rfl⟩
set_option maxRecDepth 100000 in
instance : Zer Try.prog 169 [.nilFunc] := ⟨.nilFunc, by kernel_rfl, rfl⟩
instance : One Try.prog 170 := ⟨⟨_, Try.underlying170, rfl⟩, by kernel_rfl⟩
instance : Siz Try.prog 170 1 := ⟨by kernel_rfl⟩
set_option maxRecDepth 100000 in
instance : Zer Try.prog 170 [.nilFunc] := ⟨.nilFunc, by kernel_rfl, rfl⟩
instance : One Try.prog 171 := ⟨⟨_, Try.underlying171, rfl⟩, by kernel_rfl⟩
instance : Siz Try.prog 171 1 := ⟨by kernel_rfl⟩
set_option maxRecDepth 100000 in
instance : Zer Try.prog 171 [.nilFunc] := ⟨.nilFunc, by kernel_rfl, rfl⟩
instance : One Try.prog 172 := ⟨⟨_, Try.underlying172, rfl⟩, by kernel_rfl⟩
instance : Siz Try.prog 172 1 := ⟨by kernel_rfl⟩
set_option maxRecDepth 100000 in
instance : Zer Try.prog 172 [.pointer none] := ⟨(.pointer none), by kernel_rfl, rfl⟩
instance : One Try.prog 174 := ⟨⟨_, Try.underlying174, rfl⟩, by kernel_rfl⟩
instance : Siz Try.prog 174 1 := ⟨by kernel_rfl⟩
set_option maxRecDepth 100000 in
instance : Zer Try.prog 174 [.nilFunc] := ⟨.nilFunc, by kernel_rfl, rfl⟩
instance : One Try.prog 175 := ⟨⟨_, Try.underlying175, rfl⟩, by kernel_rfl⟩
instance : Siz Try.prog 175 1 := ⟨by kernel_rfl⟩
set_option maxRecDepth 100000 in
instance : Zer Try.prog 175 [.nilFunc] := ⟨.nilFunc, by kernel_rfl, rfl⟩
instance : One Try.prog 176 := ⟨⟨_, Try.underlying176, rfl⟩, by kernel_rfl⟩
instance : Siz Try.prog 176 1 := ⟨by kernel_rfl⟩
set_option maxRecDepth 100000 in
instance : Zer Try.prog 176 [.nilFunc] := ⟨.nilFunc, by kernel_rfl, rfl⟩
instance : Siz Try.prog 177 4 := ⟨by kernel_rfl⟩
instance : Agg Try.prog 177 := ⟨_, Try.underlying177, rfl⟩
instance : Siz Try.prog 178 4 := ⟨by kernel_rfl⟩
instance : Agg Try.prog 178 := ⟨_, Try.underlying178, rfl⟩
instance : One Try.prog 182 := ⟨⟨_, Try.underlying182, rfl⟩, by kernel_rfl⟩
instance : Siz Try.prog 182 1 := ⟨by kernel_rfl⟩
set_option maxRecDepth 100000 in
instance : Zer Try.prog 182 [.int .u8 0] := ⟨(.int .u8 0), by kernel_rfl, rfl⟩
instance : One Try.prog 183 := ⟨⟨_, Try.underlying183, rfl⟩, by kernel_rfl⟩
instance : Siz Try.prog 183 1 := ⟨by kernel_rfl⟩
set_option maxRecDepth 100000 in
instance : Zer Try.prog 183 [.int .u8 0] := ⟨(.int .u8 0), by kernel_rfl, rfl⟩
instance : One Try.prog 184 := ⟨⟨_, Try.underlying184, rfl⟩, by kernel_rfl⟩
instance : Siz Try.prog 184 1 := ⟨by kernel_rfl⟩
set_option maxRecDepth 100000 in
instance : Zer Try.prog 184 [.nilFunc] := ⟨.nilFunc, by kernel_rfl, rfl⟩
instance : One Try.prog 185 := ⟨⟨_, Try.underlying185, rfl⟩, by kernel_rfl⟩
instance : Siz Try.prog 185 1 := ⟨by kernel_rfl⟩
set_option maxRecDepth 100000 in
instance : Zer Try.prog 185 [.pointer none] := ⟨(.pointer none), by kernel_rfl, rfl⟩
instance : One Try.prog 186 := ⟨⟨_, Try.underlying186, rfl⟩, by kernel_rfl⟩
instance : Siz Try.prog 186 1 := ⟨by kernel_rfl⟩
set_option maxRecDepth 100000 in
instance : Zer Try.prog 186 [.int .i32 0] := ⟨(.int .i32 0), by kernel_rfl, rfl⟩
instance : One Try.prog 187 := ⟨⟨_, Try.underlying187, rfl⟩, by kernel_rfl⟩
instance : Siz Try.prog 187 1 := ⟨by kernel_rfl⟩
set_option maxRecDepth 100000 in
instance : Zer Try.prog 187 [.int .i32 0] := ⟨(.int .i32 0), by kernel_rfl, rfl⟩
instance : Siz Try.prog 188 11 := ⟨by kernel_rfl⟩
instance : Agg Try.prog 188 := ⟨_, Try.underlying188, rfl⟩
instance : Siz Try.prog 189 11 := ⟨by kernel_rfl⟩
instance : Agg Try.prog 189 := ⟨_, Try.underlying189, rfl⟩
instance : One Try.prog 190 := ⟨⟨_, Try.underlying190, rfl⟩, by kernel_rfl⟩
instance : Siz Try.prog 190 1 := ⟨by kernel_rfl⟩
set_option maxRecDepth 100000 in
instance : Zer Try.prog 190 [.pointer none] := ⟨(.pointer none), by kernel_rfl, rfl⟩
end Go.Proofs.Ytjnaiicgincndaa
