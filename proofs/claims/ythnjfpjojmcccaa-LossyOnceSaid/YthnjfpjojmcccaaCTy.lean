/- What is known of the types of this seat; printed by wip/mk_ty.py. -/
import Derived.Test.YthnjfpjojmcccaaCB1
import Derived.Test.YthnjfpjojmcccaaProg
namespace Go.Proofs.Ythnjfpjojmcccaa
open Go.RowKit
set_option linter.unusedVariables false
set_option linter.unusedSimpArgs false

theorem cell_mid {pre suf l : List Value} {v : Value} {i : Nat} (e : l = pre ++ v :: suf) (hp : pre.length = i) : Cell l i v := ⟨by rw [e, List.getElem?_append_right (by omega), hp, Nat.sub_self]; rfl⟩
theorem put1_mid {pre suf l l' : List Value} {u v : Value} {i : Nat} (e : l = pre ++ u :: suf) (hp : pre.length = i) (e' : l' = pre ++ v :: suf) : Put1 l i v l' := ⟨by rw [e, e', List.set_append_right _ _ (by omega), hp, Nat.sub_self]; rfl, by rw [e]; simp; omega⟩
theorem part_mid {pre xs suf l : List Value} {off n : Nat} (e : l = pre ++ (xs ++ suf)) (hp : pre.length = off) (hx : xs.length = n) : Part l off n xs := ⟨by rw [e, List.drop_left' hp, List.take_left' hx], by rw [e]; simp; omega⟩
theorem putN_mid {pre xs suf l ys l' : List Value} {off n : Nat} (e : l = pre ++ (xs ++ suf)) (hp : pre.length = off) (hx : xs.length = n) (hy : ys.length = n) (e' : l' = pre ++ (ys ++ suf)) : PutN l off ys l' :=
  ⟨by rw [e, e', List.take_left' hp, ← List.append_assoc pre xs suf, List.drop_left' (by rw [List.length_append]; omega), List.append_assoc], by rw [e]; simp; omega⟩
theorem elm_mk {P : Program} {t e : TypeId} {z : Value} {sz bytes : Nat} (hu : P.underlying t = some (.slice e)) (h : (P.info? e).map (fun i => (i.zero, i.size, i.bytes)) = some (some z, sz, bytes)) (hz : z.cells.size = sz) (hp : 0 < sz) : Elm P t e sz bytes :=
  ⟨hu, by
    obtain ⟨i, hi, h1, h2, h3⟩ := info_parts h
    exact ⟨i, z, hi, h1, h2, h3, hz⟩, hp⟩

/-- The cells of a api.Change. -/
def c_api_Change (Kind_ : Value) (Who_ : Value) (Group_ : Value) (Realm_ : Value) : List Value := ([Kind_, Who_, Group_, Realm_])
instance c_api_Change.row (Kind_ : Value) (Who_ : Value) (Group_ : Value) (Realm_ : Value)  [v0 : OneV Kind_] [v1 : OneV Who_] [v2 : OneV Group_] [v3 : OneV Realm_] : Row (c_api_Change Kind_ Who_ Group_ Realm_) 4 := Row.mk' (by simp only [c_api_Change, List.length_append, List.length_cons, List.length_nil]) (by
  intro u hu
  simp only [c_api_Change, List.mem_append, List.mem_cons, List.not_mem_nil, or_false, or_assoc] at hu
  rcases hu with hu | hu | hu | hu
  all_goals first | (subst hu; exact v0.one) | (subst hu; exact v1.one) | (subst hu; exact v2.one) | (subst hu; exact v3.one)) (by omega)
instance c_api_Change.p_Kind (Kind_ : Value) (Who_ : Value) (Group_ : Value) (Realm_ : Value)  : Cell (c_api_Change Kind_ Who_ Group_ Realm_) 0 Kind_ := cell_mid (pre := ([] : List Value)) (suf := ([Who_, Group_, Realm_])) (by simp [c_api_Change]) (by simp)
instance c_api_Change.s_Kind (Kind_ : Value) (Who_ : Value) (Group_ : Value) (Realm_ : Value) (new : Value)  : Put1 (c_api_Change Kind_ Who_ Group_ Realm_) 0 new (c_api_Change new Who_ Group_ Realm_) := put1_mid (pre := ([] : List Value)) (u := Kind_) (suf := ([Who_, Group_, Realm_])) (by simp [c_api_Change]) (by simp) (by simp [c_api_Change])
instance c_api_Change.p_Who (Kind_ : Value) (Who_ : Value) (Group_ : Value) (Realm_ : Value)  : Cell (c_api_Change Kind_ Who_ Group_ Realm_) 1 Who_ := cell_mid (pre := ([Kind_])) (suf := ([Group_, Realm_])) (by simp [c_api_Change]) (by simp)
instance c_api_Change.s_Who (Kind_ : Value) (Who_ : Value) (Group_ : Value) (Realm_ : Value) (new : Value)  : Put1 (c_api_Change Kind_ Who_ Group_ Realm_) 1 new (c_api_Change Kind_ new Group_ Realm_) := put1_mid (pre := ([Kind_])) (u := Who_) (suf := ([Group_, Realm_])) (by simp [c_api_Change]) (by simp) (by simp [c_api_Change])
instance c_api_Change.p_Group (Kind_ : Value) (Who_ : Value) (Group_ : Value) (Realm_ : Value)  : Cell (c_api_Change Kind_ Who_ Group_ Realm_) 2 Group_ := cell_mid (pre := ([Kind_, Who_])) (suf := ([Realm_])) (by simp [c_api_Change]) (by simp)
instance c_api_Change.s_Group (Kind_ : Value) (Who_ : Value) (Group_ : Value) (Realm_ : Value) (new : Value)  : Put1 (c_api_Change Kind_ Who_ Group_ Realm_) 2 new (c_api_Change Kind_ Who_ new Realm_) := put1_mid (pre := ([Kind_, Who_])) (u := Group_) (suf := ([Realm_])) (by simp [c_api_Change]) (by simp) (by simp [c_api_Change])
instance c_api_Change.p_Realm (Kind_ : Value) (Who_ : Value) (Group_ : Value) (Realm_ : Value)  : Cell (c_api_Change Kind_ Who_ Group_ Realm_) 3 Realm_ := cell_mid (pre := ([Kind_, Who_, Group_])) (suf := ([] : List Value)) (by simp [c_api_Change]) (by simp)
instance c_api_Change.s_Realm (Kind_ : Value) (Who_ : Value) (Group_ : Value) (Realm_ : Value) (new : Value)  : Put1 (c_api_Change Kind_ Who_ Group_ Realm_) 3 new (c_api_Change Kind_ Who_ Group_ new) := put1_mid (pre := ([Kind_, Who_, Group_])) (u := Realm_) (suf := ([] : List Value)) (by simp [c_api_Change]) (by simp) (by simp [c_api_Change])

/-- The cells of a acl.Model. -/
def c_acl_Model (people_ : Value) (groups_ : Value) (realms_ : Value) (members_ : Value) (reads_ : Value) (seen_ : Value) : List Value := ([people_, groups_, realms_, members_, reads_, seen_])
instance c_acl_Model.row (people_ : Value) (groups_ : Value) (realms_ : Value) (members_ : Value) (reads_ : Value) (seen_ : Value)  [v0 : OneV people_] [v1 : OneV groups_] [v2 : OneV realms_] [v3 : OneV members_] [v4 : OneV reads_] [v5 : OneV seen_] : Row (c_acl_Model people_ groups_ realms_ members_ reads_ seen_) 6 := Row.mk' (by simp only [c_acl_Model, List.length_append, List.length_cons, List.length_nil]) (by
  intro u hu
  simp only [c_acl_Model, List.mem_append, List.mem_cons, List.not_mem_nil, or_false, or_assoc] at hu
  rcases hu with hu | hu | hu | hu | hu | hu
  all_goals first | (subst hu; exact v0.one) | (subst hu; exact v1.one) | (subst hu; exact v2.one) | (subst hu; exact v3.one) | (subst hu; exact v4.one) | (subst hu; exact v5.one)) (by omega)
instance c_acl_Model.p_people (people_ : Value) (groups_ : Value) (realms_ : Value) (members_ : Value) (reads_ : Value) (seen_ : Value)  : Cell (c_acl_Model people_ groups_ realms_ members_ reads_ seen_) 0 people_ := cell_mid (pre := ([] : List Value)) (suf := ([groups_, realms_, members_, reads_, seen_])) (by simp [c_acl_Model]) (by simp)
instance c_acl_Model.s_people (people_ : Value) (groups_ : Value) (realms_ : Value) (members_ : Value) (reads_ : Value) (seen_ : Value) (new : Value)  : Put1 (c_acl_Model people_ groups_ realms_ members_ reads_ seen_) 0 new (c_acl_Model new groups_ realms_ members_ reads_ seen_) := put1_mid (pre := ([] : List Value)) (u := people_) (suf := ([groups_, realms_, members_, reads_, seen_])) (by simp [c_acl_Model]) (by simp) (by simp [c_acl_Model])
instance c_acl_Model.p_groups (people_ : Value) (groups_ : Value) (realms_ : Value) (members_ : Value) (reads_ : Value) (seen_ : Value)  : Cell (c_acl_Model people_ groups_ realms_ members_ reads_ seen_) 1 groups_ := cell_mid (pre := ([people_])) (suf := ([realms_, members_, reads_, seen_])) (by simp [c_acl_Model]) (by simp)
instance c_acl_Model.s_groups (people_ : Value) (groups_ : Value) (realms_ : Value) (members_ : Value) (reads_ : Value) (seen_ : Value) (new : Value)  : Put1 (c_acl_Model people_ groups_ realms_ members_ reads_ seen_) 1 new (c_acl_Model people_ new realms_ members_ reads_ seen_) := put1_mid (pre := ([people_])) (u := groups_) (suf := ([realms_, members_, reads_, seen_])) (by simp [c_acl_Model]) (by simp) (by simp [c_acl_Model])
instance c_acl_Model.p_realms (people_ : Value) (groups_ : Value) (realms_ : Value) (members_ : Value) (reads_ : Value) (seen_ : Value)  : Cell (c_acl_Model people_ groups_ realms_ members_ reads_ seen_) 2 realms_ := cell_mid (pre := ([people_, groups_])) (suf := ([members_, reads_, seen_])) (by simp [c_acl_Model]) (by simp)
instance c_acl_Model.s_realms (people_ : Value) (groups_ : Value) (realms_ : Value) (members_ : Value) (reads_ : Value) (seen_ : Value) (new : Value)  : Put1 (c_acl_Model people_ groups_ realms_ members_ reads_ seen_) 2 new (c_acl_Model people_ groups_ new members_ reads_ seen_) := put1_mid (pre := ([people_, groups_])) (u := realms_) (suf := ([members_, reads_, seen_])) (by simp [c_acl_Model]) (by simp) (by simp [c_acl_Model])
instance c_acl_Model.p_members (people_ : Value) (groups_ : Value) (realms_ : Value) (members_ : Value) (reads_ : Value) (seen_ : Value)  : Cell (c_acl_Model people_ groups_ realms_ members_ reads_ seen_) 3 members_ := cell_mid (pre := ([people_, groups_, realms_])) (suf := ([reads_, seen_])) (by simp [c_acl_Model]) (by simp)
instance c_acl_Model.s_members (people_ : Value) (groups_ : Value) (realms_ : Value) (members_ : Value) (reads_ : Value) (seen_ : Value) (new : Value)  : Put1 (c_acl_Model people_ groups_ realms_ members_ reads_ seen_) 3 new (c_acl_Model people_ groups_ realms_ new reads_ seen_) := put1_mid (pre := ([people_, groups_, realms_])) (u := members_) (suf := ([reads_, seen_])) (by simp [c_acl_Model]) (by simp) (by simp [c_acl_Model])
instance c_acl_Model.p_reads (people_ : Value) (groups_ : Value) (realms_ : Value) (members_ : Value) (reads_ : Value) (seen_ : Value)  : Cell (c_acl_Model people_ groups_ realms_ members_ reads_ seen_) 4 reads_ := cell_mid (pre := ([people_, groups_, realms_, members_])) (suf := ([seen_])) (by simp [c_acl_Model]) (by simp)
instance c_acl_Model.s_reads (people_ : Value) (groups_ : Value) (realms_ : Value) (members_ : Value) (reads_ : Value) (seen_ : Value) (new : Value)  : Put1 (c_acl_Model people_ groups_ realms_ members_ reads_ seen_) 4 new (c_acl_Model people_ groups_ realms_ members_ new seen_) := put1_mid (pre := ([people_, groups_, realms_, members_])) (u := reads_) (suf := ([seen_])) (by simp [c_acl_Model]) (by simp) (by simp [c_acl_Model])
instance c_acl_Model.p_seen (people_ : Value) (groups_ : Value) (realms_ : Value) (members_ : Value) (reads_ : Value) (seen_ : Value)  : Cell (c_acl_Model people_ groups_ realms_ members_ reads_ seen_) 5 seen_ := cell_mid (pre := ([people_, groups_, realms_, members_, reads_])) (suf := ([] : List Value)) (by simp [c_acl_Model]) (by simp)
instance c_acl_Model.s_seen (people_ : Value) (groups_ : Value) (realms_ : Value) (members_ : Value) (reads_ : Value) (seen_ : Value) (new : Value)  : Put1 (c_acl_Model people_ groups_ realms_ members_ reads_ seen_) 5 new (c_acl_Model people_ groups_ realms_ members_ reads_ new) := put1_mid (pre := ([people_, groups_, realms_, members_, reads_])) (u := seen_) (suf := ([] : List Value)) (by simp [c_acl_Model]) (by simp) (by simp [c_acl_Model])

/-- The cells of a tabulariumref21.Group. -/
def c_tabulariumref21_Group (Number_ : Value) (Epoch_ : Value) (Key_ : List Value) (Members_ : Value) : List Value := ([Number_, Epoch_] ++ (Key_ ++ ([Members_])))
instance c_tabulariumref21_Group.row (Number_ : Value) (Epoch_ : Value) (Key_ : List Value) (Members_ : Value) [r2 : Row Key_ 32] [v0 : OneV Number_] [v1 : OneV Epoch_] [v3 : OneV Members_] : Row (c_tabulariumref21_Group Number_ Epoch_ Key_ Members_) 35 := Row.mk' (by simp only [c_tabulariumref21_Group, List.length_append, List.length_cons, List.length_nil, r2.len]) (by
  intro u hu
  simp only [c_tabulariumref21_Group, List.mem_append, List.mem_cons, List.not_mem_nil, or_false, or_assoc] at hu
  rcases hu with hu | hu | hu | hu
  all_goals first | (subst hu; exact v0.one) | (subst hu; exact v1.one) | (exact r2.one u hu) | (subst hu; exact v3.one)) (by omega)
instance c_tabulariumref21_Group.p_Number (Number_ : Value) (Epoch_ : Value) (Key_ : List Value) (Members_ : Value) [r2 : Row Key_ 32] : Cell (c_tabulariumref21_Group Number_ Epoch_ Key_ Members_) 0 Number_ := cell_mid (pre := ([] : List Value)) (suf := ([Epoch_] ++ (Key_ ++ ([Members_])))) (by simp [c_tabulariumref21_Group]) (by simp [r2.len])
instance c_tabulariumref21_Group.s_Number (Number_ : Value) (Epoch_ : Value) (Key_ : List Value) (Members_ : Value) (new : Value) [r2 : Row Key_ 32] : Put1 (c_tabulariumref21_Group Number_ Epoch_ Key_ Members_) 0 new (c_tabulariumref21_Group new Epoch_ Key_ Members_) := put1_mid (pre := ([] : List Value)) (u := Number_) (suf := ([Epoch_] ++ (Key_ ++ ([Members_])))) (by simp [c_tabulariumref21_Group]) (by simp [r2.len]) (by simp [c_tabulariumref21_Group])
instance c_tabulariumref21_Group.p_Epoch (Number_ : Value) (Epoch_ : Value) (Key_ : List Value) (Members_ : Value) [r2 : Row Key_ 32] : Cell (c_tabulariumref21_Group Number_ Epoch_ Key_ Members_) 1 Epoch_ := cell_mid (pre := ([Number_])) (suf := (Key_ ++ ([Members_]))) (by simp [c_tabulariumref21_Group]) (by simp [r2.len])
instance c_tabulariumref21_Group.s_Epoch (Number_ : Value) (Epoch_ : Value) (Key_ : List Value) (Members_ : Value) (new : Value) [r2 : Row Key_ 32] : Put1 (c_tabulariumref21_Group Number_ Epoch_ Key_ Members_) 1 new (c_tabulariumref21_Group Number_ new Key_ Members_) := put1_mid (pre := ([Number_])) (u := Epoch_) (suf := (Key_ ++ ([Members_]))) (by simp [c_tabulariumref21_Group]) (by simp [r2.len]) (by simp [c_tabulariumref21_Group])
instance c_tabulariumref21_Group.p_Key (Number_ : Value) (Epoch_ : Value) (Key_ : List Value) (Members_ : Value) [r2 : Row Key_ 32] : Part (c_tabulariumref21_Group Number_ Epoch_ Key_ Members_) 2 32 Key_ := part_mid (pre := ([Number_, Epoch_])) (suf := ([Members_])) (by simp [c_tabulariumref21_Group]) (by simp [r2.len]) r2.len
instance c_tabulariumref21_Group.s_Key (Number_ : Value) (Epoch_ : Value) (Key_ : List Value) (Members_ : Value) (new : List Value) [r2 : Row Key_ 32] [rn : Row new 32] : PutN (c_tabulariumref21_Group Number_ Epoch_ Key_ Members_) 2 new (c_tabulariumref21_Group Number_ Epoch_ new Members_) := putN_mid (pre := ([Number_, Epoch_])) (suf := ([Members_])) (by simp [c_tabulariumref21_Group]) (by simp [r2.len]) r2.len rn.len (by simp [c_tabulariumref21_Group])
instance c_tabulariumref21_Group.p_Members (Number_ : Value) (Epoch_ : Value) (Key_ : List Value) (Members_ : Value) [r2 : Row Key_ 32] : Cell (c_tabulariumref21_Group Number_ Epoch_ Key_ Members_) 34 Members_ := cell_mid (pre := ([Number_, Epoch_] ++ (Key_))) (suf := ([] : List Value)) (by simp [c_tabulariumref21_Group]) (by simp [r2.len])
instance c_tabulariumref21_Group.s_Members (Number_ : Value) (Epoch_ : Value) (Key_ : List Value) (Members_ : Value) (new : Value) [r2 : Row Key_ 32] : Put1 (c_tabulariumref21_Group Number_ Epoch_ Key_ Members_) 34 new (c_tabulariumref21_Group Number_ Epoch_ Key_ new) := put1_mid (pre := ([Number_, Epoch_] ++ (Key_))) (u := Members_) (suf := ([] : List Value)) (by simp [c_tabulariumref21_Group]) (by simp [r2.len]) (by simp [c_tabulariumref21_Group])

/-- The cells of a tabulariumref21.Ring. -/
def c_tabulariumref21_Ring (S_ : Value) (Persons_ : Value) (Groups_ : Value) (Realms_ : Value) (Boxes_ : Value) (Seen_ : Value) : List Value := ([S_, Persons_, Groups_, Realms_, Boxes_, Seen_])
instance c_tabulariumref21_Ring.row (S_ : Value) (Persons_ : Value) (Groups_ : Value) (Realms_ : Value) (Boxes_ : Value) (Seen_ : Value)  [v0 : OneV S_] [v1 : OneV Persons_] [v2 : OneV Groups_] [v3 : OneV Realms_] [v4 : OneV Boxes_] [v5 : OneV Seen_] : Row (c_tabulariumref21_Ring S_ Persons_ Groups_ Realms_ Boxes_ Seen_) 6 := Row.mk' (by simp only [c_tabulariumref21_Ring, List.length_append, List.length_cons, List.length_nil]) (by
  intro u hu
  simp only [c_tabulariumref21_Ring, List.mem_append, List.mem_cons, List.not_mem_nil, or_false, or_assoc] at hu
  rcases hu with hu | hu | hu | hu | hu | hu
  all_goals first | (subst hu; exact v0.one) | (subst hu; exact v1.one) | (subst hu; exact v2.one) | (subst hu; exact v3.one) | (subst hu; exact v4.one) | (subst hu; exact v5.one)) (by omega)
instance c_tabulariumref21_Ring.p_S (S_ : Value) (Persons_ : Value) (Groups_ : Value) (Realms_ : Value) (Boxes_ : Value) (Seen_ : Value)  : Cell (c_tabulariumref21_Ring S_ Persons_ Groups_ Realms_ Boxes_ Seen_) 0 S_ := cell_mid (pre := ([] : List Value)) (suf := ([Persons_, Groups_, Realms_, Boxes_, Seen_])) (by simp [c_tabulariumref21_Ring]) (by simp)
instance c_tabulariumref21_Ring.s_S (S_ : Value) (Persons_ : Value) (Groups_ : Value) (Realms_ : Value) (Boxes_ : Value) (Seen_ : Value) (new : Value)  : Put1 (c_tabulariumref21_Ring S_ Persons_ Groups_ Realms_ Boxes_ Seen_) 0 new (c_tabulariumref21_Ring new Persons_ Groups_ Realms_ Boxes_ Seen_) := put1_mid (pre := ([] : List Value)) (u := S_) (suf := ([Persons_, Groups_, Realms_, Boxes_, Seen_])) (by simp [c_tabulariumref21_Ring]) (by simp) (by simp [c_tabulariumref21_Ring])
instance c_tabulariumref21_Ring.p_Persons (S_ : Value) (Persons_ : Value) (Groups_ : Value) (Realms_ : Value) (Boxes_ : Value) (Seen_ : Value)  : Cell (c_tabulariumref21_Ring S_ Persons_ Groups_ Realms_ Boxes_ Seen_) 1 Persons_ := cell_mid (pre := ([S_])) (suf := ([Groups_, Realms_, Boxes_, Seen_])) (by simp [c_tabulariumref21_Ring]) (by simp)
instance c_tabulariumref21_Ring.s_Persons (S_ : Value) (Persons_ : Value) (Groups_ : Value) (Realms_ : Value) (Boxes_ : Value) (Seen_ : Value) (new : Value)  : Put1 (c_tabulariumref21_Ring S_ Persons_ Groups_ Realms_ Boxes_ Seen_) 1 new (c_tabulariumref21_Ring S_ new Groups_ Realms_ Boxes_ Seen_) := put1_mid (pre := ([S_])) (u := Persons_) (suf := ([Groups_, Realms_, Boxes_, Seen_])) (by simp [c_tabulariumref21_Ring]) (by simp) (by simp [c_tabulariumref21_Ring])
instance c_tabulariumref21_Ring.p_Groups (S_ : Value) (Persons_ : Value) (Groups_ : Value) (Realms_ : Value) (Boxes_ : Value) (Seen_ : Value)  : Cell (c_tabulariumref21_Ring S_ Persons_ Groups_ Realms_ Boxes_ Seen_) 2 Groups_ := cell_mid (pre := ([S_, Persons_])) (suf := ([Realms_, Boxes_, Seen_])) (by simp [c_tabulariumref21_Ring]) (by simp)
instance c_tabulariumref21_Ring.s_Groups (S_ : Value) (Persons_ : Value) (Groups_ : Value) (Realms_ : Value) (Boxes_ : Value) (Seen_ : Value) (new : Value)  : Put1 (c_tabulariumref21_Ring S_ Persons_ Groups_ Realms_ Boxes_ Seen_) 2 new (c_tabulariumref21_Ring S_ Persons_ new Realms_ Boxes_ Seen_) := put1_mid (pre := ([S_, Persons_])) (u := Groups_) (suf := ([Realms_, Boxes_, Seen_])) (by simp [c_tabulariumref21_Ring]) (by simp) (by simp [c_tabulariumref21_Ring])
instance c_tabulariumref21_Ring.p_Realms (S_ : Value) (Persons_ : Value) (Groups_ : Value) (Realms_ : Value) (Boxes_ : Value) (Seen_ : Value)  : Cell (c_tabulariumref21_Ring S_ Persons_ Groups_ Realms_ Boxes_ Seen_) 3 Realms_ := cell_mid (pre := ([S_, Persons_, Groups_])) (suf := ([Boxes_, Seen_])) (by simp [c_tabulariumref21_Ring]) (by simp)
instance c_tabulariumref21_Ring.s_Realms (S_ : Value) (Persons_ : Value) (Groups_ : Value) (Realms_ : Value) (Boxes_ : Value) (Seen_ : Value) (new : Value)  : Put1 (c_tabulariumref21_Ring S_ Persons_ Groups_ Realms_ Boxes_ Seen_) 3 new (c_tabulariumref21_Ring S_ Persons_ Groups_ new Boxes_ Seen_) := put1_mid (pre := ([S_, Persons_, Groups_])) (u := Realms_) (suf := ([Boxes_, Seen_])) (by simp [c_tabulariumref21_Ring]) (by simp) (by simp [c_tabulariumref21_Ring])
instance c_tabulariumref21_Ring.p_Boxes (S_ : Value) (Persons_ : Value) (Groups_ : Value) (Realms_ : Value) (Boxes_ : Value) (Seen_ : Value)  : Cell (c_tabulariumref21_Ring S_ Persons_ Groups_ Realms_ Boxes_ Seen_) 4 Boxes_ := cell_mid (pre := ([S_, Persons_, Groups_, Realms_])) (suf := ([Seen_])) (by simp [c_tabulariumref21_Ring]) (by simp)
instance c_tabulariumref21_Ring.s_Boxes (S_ : Value) (Persons_ : Value) (Groups_ : Value) (Realms_ : Value) (Boxes_ : Value) (Seen_ : Value) (new : Value)  : Put1 (c_tabulariumref21_Ring S_ Persons_ Groups_ Realms_ Boxes_ Seen_) 4 new (c_tabulariumref21_Ring S_ Persons_ Groups_ Realms_ new Seen_) := put1_mid (pre := ([S_, Persons_, Groups_, Realms_])) (u := Boxes_) (suf := ([Seen_])) (by simp [c_tabulariumref21_Ring]) (by simp) (by simp [c_tabulariumref21_Ring])
instance c_tabulariumref21_Ring.p_Seen (S_ : Value) (Persons_ : Value) (Groups_ : Value) (Realms_ : Value) (Boxes_ : Value) (Seen_ : Value)  : Cell (c_tabulariumref21_Ring S_ Persons_ Groups_ Realms_ Boxes_ Seen_) 5 Seen_ := cell_mid (pre := ([S_, Persons_, Groups_, Realms_, Boxes_])) (suf := ([] : List Value)) (by simp [c_tabulariumref21_Ring]) (by simp)
instance c_tabulariumref21_Ring.s_Seen (S_ : Value) (Persons_ : Value) (Groups_ : Value) (Realms_ : Value) (Boxes_ : Value) (Seen_ : Value) (new : Value)  : Put1 (c_tabulariumref21_Ring S_ Persons_ Groups_ Realms_ Boxes_ Seen_) 5 new (c_tabulariumref21_Ring S_ Persons_ Groups_ Realms_ Boxes_ new) := put1_mid (pre := ([S_, Persons_, Groups_, Realms_, Boxes_])) (u := Seen_) (suf := ([] : List Value)) (by simp [c_tabulariumref21_Ring]) (by simp) (by simp [c_tabulariumref21_Ring])

/-- The cells of a tabulariumref21.Realm. -/
def c_tabulariumref21_Realm (Number_ : Value) (Epoch_ : Value) (Key_ : List Value) (Groups_ : Value) : List Value := ([Number_, Epoch_] ++ (Key_ ++ ([Groups_])))
instance c_tabulariumref21_Realm.row (Number_ : Value) (Epoch_ : Value) (Key_ : List Value) (Groups_ : Value) [r2 : Row Key_ 32] [v0 : OneV Number_] [v1 : OneV Epoch_] [v3 : OneV Groups_] : Row (c_tabulariumref21_Realm Number_ Epoch_ Key_ Groups_) 35 := Row.mk' (by simp only [c_tabulariumref21_Realm, List.length_append, List.length_cons, List.length_nil, r2.len]) (by
  intro u hu
  simp only [c_tabulariumref21_Realm, List.mem_append, List.mem_cons, List.not_mem_nil, or_false, or_assoc] at hu
  rcases hu with hu | hu | hu | hu
  all_goals first | (subst hu; exact v0.one) | (subst hu; exact v1.one) | (exact r2.one u hu) | (subst hu; exact v3.one)) (by omega)
instance c_tabulariumref21_Realm.p_Number (Number_ : Value) (Epoch_ : Value) (Key_ : List Value) (Groups_ : Value) [r2 : Row Key_ 32] : Cell (c_tabulariumref21_Realm Number_ Epoch_ Key_ Groups_) 0 Number_ := cell_mid (pre := ([] : List Value)) (suf := ([Epoch_] ++ (Key_ ++ ([Groups_])))) (by simp [c_tabulariumref21_Realm]) (by simp [r2.len])
instance c_tabulariumref21_Realm.s_Number (Number_ : Value) (Epoch_ : Value) (Key_ : List Value) (Groups_ : Value) (new : Value) [r2 : Row Key_ 32] : Put1 (c_tabulariumref21_Realm Number_ Epoch_ Key_ Groups_) 0 new (c_tabulariumref21_Realm new Epoch_ Key_ Groups_) := put1_mid (pre := ([] : List Value)) (u := Number_) (suf := ([Epoch_] ++ (Key_ ++ ([Groups_])))) (by simp [c_tabulariumref21_Realm]) (by simp [r2.len]) (by simp [c_tabulariumref21_Realm])
instance c_tabulariumref21_Realm.p_Epoch (Number_ : Value) (Epoch_ : Value) (Key_ : List Value) (Groups_ : Value) [r2 : Row Key_ 32] : Cell (c_tabulariumref21_Realm Number_ Epoch_ Key_ Groups_) 1 Epoch_ := cell_mid (pre := ([Number_])) (suf := (Key_ ++ ([Groups_]))) (by simp [c_tabulariumref21_Realm]) (by simp [r2.len])
instance c_tabulariumref21_Realm.s_Epoch (Number_ : Value) (Epoch_ : Value) (Key_ : List Value) (Groups_ : Value) (new : Value) [r2 : Row Key_ 32] : Put1 (c_tabulariumref21_Realm Number_ Epoch_ Key_ Groups_) 1 new (c_tabulariumref21_Realm Number_ new Key_ Groups_) := put1_mid (pre := ([Number_])) (u := Epoch_) (suf := (Key_ ++ ([Groups_]))) (by simp [c_tabulariumref21_Realm]) (by simp [r2.len]) (by simp [c_tabulariumref21_Realm])
instance c_tabulariumref21_Realm.p_Key (Number_ : Value) (Epoch_ : Value) (Key_ : List Value) (Groups_ : Value) [r2 : Row Key_ 32] : Part (c_tabulariumref21_Realm Number_ Epoch_ Key_ Groups_) 2 32 Key_ := part_mid (pre := ([Number_, Epoch_])) (suf := ([Groups_])) (by simp [c_tabulariumref21_Realm]) (by simp [r2.len]) r2.len
instance c_tabulariumref21_Realm.s_Key (Number_ : Value) (Epoch_ : Value) (Key_ : List Value) (Groups_ : Value) (new : List Value) [r2 : Row Key_ 32] [rn : Row new 32] : PutN (c_tabulariumref21_Realm Number_ Epoch_ Key_ Groups_) 2 new (c_tabulariumref21_Realm Number_ Epoch_ new Groups_) := putN_mid (pre := ([Number_, Epoch_])) (suf := ([Groups_])) (by simp [c_tabulariumref21_Realm]) (by simp [r2.len]) r2.len rn.len (by simp [c_tabulariumref21_Realm])
instance c_tabulariumref21_Realm.p_Groups (Number_ : Value) (Epoch_ : Value) (Key_ : List Value) (Groups_ : Value) [r2 : Row Key_ 32] : Cell (c_tabulariumref21_Realm Number_ Epoch_ Key_ Groups_) 34 Groups_ := cell_mid (pre := ([Number_, Epoch_] ++ (Key_))) (suf := ([] : List Value)) (by simp [c_tabulariumref21_Realm]) (by simp [r2.len])
instance c_tabulariumref21_Realm.s_Groups (Number_ : Value) (Epoch_ : Value) (Key_ : List Value) (Groups_ : Value) (new : Value) [r2 : Row Key_ 32] : Put1 (c_tabulariumref21_Realm Number_ Epoch_ Key_ Groups_) 34 new (c_tabulariumref21_Realm Number_ Epoch_ Key_ new) := put1_mid (pre := ([Number_, Epoch_] ++ (Key_))) (u := Groups_) (suf := ([] : List Value)) (by simp [c_tabulariumref21_Realm]) (by simp [r2.len]) (by simp [c_tabulariumref21_Realm])

/-- The cells of a tabulariumref21.Seen. -/
def c_tabulariumref21_Seen (Who_ : Value) (Realm_ : Value) (Epoch_ : Value) : List Value := ([Who_, Realm_, Epoch_])
instance c_tabulariumref21_Seen.row (Who_ : Value) (Realm_ : Value) (Epoch_ : Value)  [v0 : OneV Who_] [v1 : OneV Realm_] [v2 : OneV Epoch_] : Row (c_tabulariumref21_Seen Who_ Realm_ Epoch_) 3 := Row.mk' (by simp only [c_tabulariumref21_Seen, List.length_append, List.length_cons, List.length_nil]) (by
  intro u hu
  simp only [c_tabulariumref21_Seen, List.mem_append, List.mem_cons, List.not_mem_nil, or_false, or_assoc] at hu
  rcases hu with hu | hu | hu
  all_goals first | (subst hu; exact v0.one) | (subst hu; exact v1.one) | (subst hu; exact v2.one)) (by omega)
instance c_tabulariumref21_Seen.p_Who (Who_ : Value) (Realm_ : Value) (Epoch_ : Value)  : Cell (c_tabulariumref21_Seen Who_ Realm_ Epoch_) 0 Who_ := cell_mid (pre := ([] : List Value)) (suf := ([Realm_, Epoch_])) (by simp [c_tabulariumref21_Seen]) (by simp)
instance c_tabulariumref21_Seen.s_Who (Who_ : Value) (Realm_ : Value) (Epoch_ : Value) (new : Value)  : Put1 (c_tabulariumref21_Seen Who_ Realm_ Epoch_) 0 new (c_tabulariumref21_Seen new Realm_ Epoch_) := put1_mid (pre := ([] : List Value)) (u := Who_) (suf := ([Realm_, Epoch_])) (by simp [c_tabulariumref21_Seen]) (by simp) (by simp [c_tabulariumref21_Seen])
instance c_tabulariumref21_Seen.p_Realm (Who_ : Value) (Realm_ : Value) (Epoch_ : Value)  : Cell (c_tabulariumref21_Seen Who_ Realm_ Epoch_) 1 Realm_ := cell_mid (pre := ([Who_])) (suf := ([Epoch_])) (by simp [c_tabulariumref21_Seen]) (by simp)
instance c_tabulariumref21_Seen.s_Realm (Who_ : Value) (Realm_ : Value) (Epoch_ : Value) (new : Value)  : Put1 (c_tabulariumref21_Seen Who_ Realm_ Epoch_) 1 new (c_tabulariumref21_Seen Who_ new Epoch_) := put1_mid (pre := ([Who_])) (u := Realm_) (suf := ([Epoch_])) (by simp [c_tabulariumref21_Seen]) (by simp) (by simp [c_tabulariumref21_Seen])
instance c_tabulariumref21_Seen.p_Epoch (Who_ : Value) (Realm_ : Value) (Epoch_ : Value)  : Cell (c_tabulariumref21_Seen Who_ Realm_ Epoch_) 2 Epoch_ := cell_mid (pre := ([Who_, Realm_])) (suf := ([] : List Value)) (by simp [c_tabulariumref21_Seen]) (by simp)
instance c_tabulariumref21_Seen.s_Epoch (Who_ : Value) (Realm_ : Value) (Epoch_ : Value) (new : Value)  : Put1 (c_tabulariumref21_Seen Who_ Realm_ Epoch_) 2 new (c_tabulariumref21_Seen Who_ Realm_ new) := put1_mid (pre := ([Who_, Realm_])) (u := Epoch_) (suf := ([] : List Value)) (by simp [c_tabulariumref21_Seen]) (by simp) (by simp [c_tabulariumref21_Seen])

/-- The cells of a tabulariumref18.Link. -/
def c_tabulariumref18_Link (Fates_ : Value) (sent_ : Value) (wait_ : Value) : List Value := ([Fates_, sent_, wait_])
instance c_tabulariumref18_Link.row (Fates_ : Value) (sent_ : Value) (wait_ : Value)  [v0 : OneV Fates_] [v1 : OneV sent_] [v2 : OneV wait_] : Row (c_tabulariumref18_Link Fates_ sent_ wait_) 3 := Row.mk' (by simp only [c_tabulariumref18_Link, List.length_append, List.length_cons, List.length_nil]) (by
  intro u hu
  simp only [c_tabulariumref18_Link, List.mem_append, List.mem_cons, List.not_mem_nil, or_false, or_assoc] at hu
  rcases hu with hu | hu | hu
  all_goals first | (subst hu; exact v0.one) | (subst hu; exact v1.one) | (subst hu; exact v2.one)) (by omega)
instance c_tabulariumref18_Link.p_Fates (Fates_ : Value) (sent_ : Value) (wait_ : Value)  : Cell (c_tabulariumref18_Link Fates_ sent_ wait_) 0 Fates_ := cell_mid (pre := ([] : List Value)) (suf := ([sent_, wait_])) (by simp [c_tabulariumref18_Link]) (by simp)
instance c_tabulariumref18_Link.s_Fates (Fates_ : Value) (sent_ : Value) (wait_ : Value) (new : Value)  : Put1 (c_tabulariumref18_Link Fates_ sent_ wait_) 0 new (c_tabulariumref18_Link new sent_ wait_) := put1_mid (pre := ([] : List Value)) (u := Fates_) (suf := ([sent_, wait_])) (by simp [c_tabulariumref18_Link]) (by simp) (by simp [c_tabulariumref18_Link])
instance c_tabulariumref18_Link.p_sent (Fates_ : Value) (sent_ : Value) (wait_ : Value)  : Cell (c_tabulariumref18_Link Fates_ sent_ wait_) 1 sent_ := cell_mid (pre := ([Fates_])) (suf := ([wait_])) (by simp [c_tabulariumref18_Link]) (by simp)
instance c_tabulariumref18_Link.s_sent (Fates_ : Value) (sent_ : Value) (wait_ : Value) (new : Value)  : Put1 (c_tabulariumref18_Link Fates_ sent_ wait_) 1 new (c_tabulariumref18_Link Fates_ new wait_) := put1_mid (pre := ([Fates_])) (u := sent_) (suf := ([wait_])) (by simp [c_tabulariumref18_Link]) (by simp) (by simp [c_tabulariumref18_Link])
instance c_tabulariumref18_Link.p_wait (Fates_ : Value) (sent_ : Value) (wait_ : Value)  : Cell (c_tabulariumref18_Link Fates_ sent_ wait_) 2 wait_ := cell_mid (pre := ([Fates_, sent_])) (suf := ([] : List Value)) (by simp [c_tabulariumref18_Link]) (by simp)
instance c_tabulariumref18_Link.s_wait (Fates_ : Value) (sent_ : Value) (wait_ : Value) (new : Value)  : Put1 (c_tabulariumref18_Link Fates_ sent_ wait_) 2 new (c_tabulariumref18_Link Fates_ sent_ new) := put1_mid (pre := ([Fates_, sent_])) (u := wait_) (suf := ([] : List Value)) (by simp [c_tabulariumref18_Link]) (by simp) (by simp [c_tabulariumref18_Link])

/-- The cells of a lossy.Link. -/
def c_lossy_Link (fates_ : Value) (sent_ : Value) (wait_ : Value) (made_ : Value) : List Value := ([fates_, sent_, wait_, made_])
instance c_lossy_Link.row (fates_ : Value) (sent_ : Value) (wait_ : Value) (made_ : Value)  [v0 : OneV fates_] [v1 : OneV sent_] [v2 : OneV wait_] [v3 : OneV made_] : Row (c_lossy_Link fates_ sent_ wait_ made_) 4 := Row.mk' (by simp only [c_lossy_Link, List.length_append, List.length_cons, List.length_nil]) (by
  intro u hu
  simp only [c_lossy_Link, List.mem_append, List.mem_cons, List.not_mem_nil, or_false, or_assoc] at hu
  rcases hu with hu | hu | hu | hu
  all_goals first | (subst hu; exact v0.one) | (subst hu; exact v1.one) | (subst hu; exact v2.one) | (subst hu; exact v3.one)) (by omega)
instance c_lossy_Link.p_fates (fates_ : Value) (sent_ : Value) (wait_ : Value) (made_ : Value)  : Cell (c_lossy_Link fates_ sent_ wait_ made_) 0 fates_ := cell_mid (pre := ([] : List Value)) (suf := ([sent_, wait_, made_])) (by simp [c_lossy_Link]) (by simp)
instance c_lossy_Link.s_fates (fates_ : Value) (sent_ : Value) (wait_ : Value) (made_ : Value) (new : Value)  : Put1 (c_lossy_Link fates_ sent_ wait_ made_) 0 new (c_lossy_Link new sent_ wait_ made_) := put1_mid (pre := ([] : List Value)) (u := fates_) (suf := ([sent_, wait_, made_])) (by simp [c_lossy_Link]) (by simp) (by simp [c_lossy_Link])
instance c_lossy_Link.p_sent (fates_ : Value) (sent_ : Value) (wait_ : Value) (made_ : Value)  : Cell (c_lossy_Link fates_ sent_ wait_ made_) 1 sent_ := cell_mid (pre := ([fates_])) (suf := ([wait_, made_])) (by simp [c_lossy_Link]) (by simp)
instance c_lossy_Link.s_sent (fates_ : Value) (sent_ : Value) (wait_ : Value) (made_ : Value) (new : Value)  : Put1 (c_lossy_Link fates_ sent_ wait_ made_) 1 new (c_lossy_Link fates_ new wait_ made_) := put1_mid (pre := ([fates_])) (u := sent_) (suf := ([wait_, made_])) (by simp [c_lossy_Link]) (by simp) (by simp [c_lossy_Link])
instance c_lossy_Link.p_wait (fates_ : Value) (sent_ : Value) (wait_ : Value) (made_ : Value)  : Cell (c_lossy_Link fates_ sent_ wait_ made_) 2 wait_ := cell_mid (pre := ([fates_, sent_])) (suf := ([made_])) (by simp [c_lossy_Link]) (by simp)
instance c_lossy_Link.s_wait (fates_ : Value) (sent_ : Value) (wait_ : Value) (made_ : Value) (new : Value)  : Put1 (c_lossy_Link fates_ sent_ wait_ made_) 2 new (c_lossy_Link fates_ sent_ new made_) := put1_mid (pre := ([fates_, sent_])) (u := wait_) (suf := ([made_])) (by simp [c_lossy_Link]) (by simp) (by simp [c_lossy_Link])
instance c_lossy_Link.p_made (fates_ : Value) (sent_ : Value) (wait_ : Value) (made_ : Value)  : Cell (c_lossy_Link fates_ sent_ wait_ made_) 3 made_ := cell_mid (pre := ([fates_, sent_, wait_])) (suf := ([] : List Value)) (by simp [c_lossy_Link]) (by simp)
instance c_lossy_Link.s_made (fates_ : Value) (sent_ : Value) (wait_ : Value) (made_ : Value) (new : Value)  : Put1 (c_lossy_Link fates_ sent_ wait_ made_) 3 new (c_lossy_Link fates_ sent_ wait_ new) := put1_mid (pre := ([fates_, sent_, wait_])) (u := made_) (suf := ([] : List Value)) (by simp [c_lossy_Link]) (by simp) (by simp [c_lossy_Link])

/-- The cells of a acl.edge. -/
def c_acl_edge (from_ : Value) (to_ : Value) : List Value := ([from_, to_])
instance c_acl_edge.row (from_ : Value) (to_ : Value)  [v0 : OneV from_] [v1 : OneV to_] : Row (c_acl_edge from_ to_) 2 := Row.mk' (by simp only [c_acl_edge, List.length_append, List.length_cons, List.length_nil]) (by
  intro u hu
  simp only [c_acl_edge, List.mem_append, List.mem_cons, List.not_mem_nil, or_false, or_assoc] at hu
  rcases hu with hu | hu
  all_goals first | (subst hu; exact v0.one) | (subst hu; exact v1.one)) (by omega)
instance c_acl_edge.p_from (from_ : Value) (to_ : Value)  : Cell (c_acl_edge from_ to_) 0 from_ := cell_mid (pre := ([] : List Value)) (suf := ([to_])) (by simp [c_acl_edge]) (by simp)
instance c_acl_edge.s_from (from_ : Value) (to_ : Value) (new : Value)  : Put1 (c_acl_edge from_ to_) 0 new (c_acl_edge new to_) := put1_mid (pre := ([] : List Value)) (u := from_) (suf := ([to_])) (by simp [c_acl_edge]) (by simp) (by simp [c_acl_edge])
instance c_acl_edge.p_to (from_ : Value) (to_ : Value)  : Cell (c_acl_edge from_ to_) 1 to_ := cell_mid (pre := ([from_])) (suf := ([] : List Value)) (by simp [c_acl_edge]) (by simp)
instance c_acl_edge.s_to (from_ : Value) (to_ : Value) (new : Value)  : Put1 (c_acl_edge from_ to_) 1 new (c_acl_edge from_ new) := put1_mid (pre := ([from_])) (u := to_) (suf := ([] : List Value)) (by simp [c_acl_edge]) (by simp) (by simp [c_acl_edge])

/-- The cells of a acl.span. -/
def c_acl_span (realm_ : Value) (epoch_ : Value) : List Value := ([realm_, epoch_])
instance c_acl_span.row (realm_ : Value) (epoch_ : Value)  [v0 : OneV realm_] [v1 : OneV epoch_] : Row (c_acl_span realm_ epoch_) 2 := Row.mk' (by simp only [c_acl_span, List.length_append, List.length_cons, List.length_nil]) (by
  intro u hu
  simp only [c_acl_span, List.mem_append, List.mem_cons, List.not_mem_nil, or_false, or_assoc] at hu
  rcases hu with hu | hu
  all_goals first | (subst hu; exact v0.one) | (subst hu; exact v1.one)) (by omega)
instance c_acl_span.p_realm (realm_ : Value) (epoch_ : Value)  : Cell (c_acl_span realm_ epoch_) 0 realm_ := cell_mid (pre := ([] : List Value)) (suf := ([epoch_])) (by simp [c_acl_span]) (by simp)
instance c_acl_span.s_realm (realm_ : Value) (epoch_ : Value) (new : Value)  : Put1 (c_acl_span realm_ epoch_) 0 new (c_acl_span new epoch_) := put1_mid (pre := ([] : List Value)) (u := realm_) (suf := ([epoch_])) (by simp [c_acl_span]) (by simp) (by simp [c_acl_span])
instance c_acl_span.p_epoch (realm_ : Value) (epoch_ : Value)  : Cell (c_acl_span realm_ epoch_) 1 epoch_ := cell_mid (pre := ([realm_])) (suf := ([] : List Value)) (by simp [c_acl_span]) (by simp)
instance c_acl_span.s_epoch (realm_ : Value) (epoch_ : Value) (new : Value)  : Put1 (c_acl_span realm_ epoch_) 1 new (c_acl_span realm_ new) := put1_mid (pre := ([realm_])) (u := epoch_) (suf := ([] : List Value)) (by simp [c_acl_span]) (by simp) (by simp [c_acl_span])

/-- The cells of a api.Fate. -/
def c_api_Fate (Times_ : Value) (Delay_ : Value) : List Value := ([Times_, Delay_])
instance c_api_Fate.row (Times_ : Value) (Delay_ : Value)  [v0 : OneV Times_] [v1 : OneV Delay_] : Row (c_api_Fate Times_ Delay_) 2 := Row.mk' (by simp only [c_api_Fate, List.length_append, List.length_cons, List.length_nil]) (by
  intro u hu
  simp only [c_api_Fate, List.mem_append, List.mem_cons, List.not_mem_nil, or_false, or_assoc] at hu
  rcases hu with hu | hu
  all_goals first | (subst hu; exact v0.one) | (subst hu; exact v1.one)) (by omega)
instance c_api_Fate.p_Times (Times_ : Value) (Delay_ : Value)  : Cell (c_api_Fate Times_ Delay_) 0 Times_ := cell_mid (pre := ([] : List Value)) (suf := ([Delay_])) (by simp [c_api_Fate]) (by simp)
instance c_api_Fate.s_Times (Times_ : Value) (Delay_ : Value) (new : Value)  : Put1 (c_api_Fate Times_ Delay_) 0 new (c_api_Fate new Delay_) := put1_mid (pre := ([] : List Value)) (u := Times_) (suf := ([Delay_])) (by simp [c_api_Fate]) (by simp) (by simp [c_api_Fate])
instance c_api_Fate.p_Delay (Times_ : Value) (Delay_ : Value)  : Cell (c_api_Fate Times_ Delay_) 1 Delay_ := cell_mid (pre := ([Times_])) (suf := ([] : List Value)) (by simp [c_api_Fate]) (by simp)
instance c_api_Fate.s_Delay (Times_ : Value) (Delay_ : Value) (new : Value)  : Put1 (c_api_Fate Times_ Delay_) 1 new (c_api_Fate Times_ new) := put1_mid (pre := ([Times_])) (u := Delay_) (suf := ([] : List Value)) (by simp [c_api_Fate]) (by simp) (by simp [c_api_Fate])

/-- The cells of a lossy.message. -/
def c_lossy_message (b_ : Value) (due_ : Value) : List Value := ([b_, due_])
instance c_lossy_message.row (b_ : Value) (due_ : Value)  [v0 : OneV b_] [v1 : OneV due_] : Row (c_lossy_message b_ due_) 2 := Row.mk' (by simp only [c_lossy_message, List.length_append, List.length_cons, List.length_nil]) (by
  intro u hu
  simp only [c_lossy_message, List.mem_append, List.mem_cons, List.not_mem_nil, or_false, or_assoc] at hu
  rcases hu with hu | hu
  all_goals first | (subst hu; exact v0.one) | (subst hu; exact v1.one)) (by omega)
instance c_lossy_message.p_b (b_ : Value) (due_ : Value)  : Cell (c_lossy_message b_ due_) 0 b_ := cell_mid (pre := ([] : List Value)) (suf := ([due_])) (by simp [c_lossy_message]) (by simp)
instance c_lossy_message.s_b (b_ : Value) (due_ : Value) (new : Value)  : Put1 (c_lossy_message b_ due_) 0 new (c_lossy_message new due_) := put1_mid (pre := ([] : List Value)) (u := b_) (suf := ([due_])) (by simp [c_lossy_message]) (by simp) (by simp [c_lossy_message])
instance c_lossy_message.p_due (b_ : Value) (due_ : Value)  : Cell (c_lossy_message b_ due_) 1 due_ := cell_mid (pre := ([b_])) (suf := ([] : List Value)) (by simp [c_lossy_message]) (by simp)
instance c_lossy_message.s_due (b_ : Value) (due_ : Value) (new : Value)  : Put1 (c_lossy_message b_ due_) 1 new (c_lossy_message b_ new) := put1_mid (pre := ([b_])) (u := due_) (suf := ([] : List Value)) (by simp [c_lossy_message]) (by simp) (by simp [c_lossy_message])

/-- The cells of a tabulariumref18.message. -/
def c_tabulariumref18_message (b_ : Value) (due_ : Value) : List Value := ([b_, due_])
instance c_tabulariumref18_message.row (b_ : Value) (due_ : Value)  [v0 : OneV b_] [v1 : OneV due_] : Row (c_tabulariumref18_message b_ due_) 2 := Row.mk' (by simp only [c_tabulariumref18_message, List.length_append, List.length_cons, List.length_nil]) (by
  intro u hu
  simp only [c_tabulariumref18_message, List.mem_append, List.mem_cons, List.not_mem_nil, or_false, or_assoc] at hu
  rcases hu with hu | hu
  all_goals first | (subst hu; exact v0.one) | (subst hu; exact v1.one)) (by omega)
instance c_tabulariumref18_message.p_b (b_ : Value) (due_ : Value)  : Cell (c_tabulariumref18_message b_ due_) 0 b_ := cell_mid (pre := ([] : List Value)) (suf := ([due_])) (by simp [c_tabulariumref18_message]) (by simp)
instance c_tabulariumref18_message.s_b (b_ : Value) (due_ : Value) (new : Value)  : Put1 (c_tabulariumref18_message b_ due_) 0 new (c_tabulariumref18_message new due_) := put1_mid (pre := ([] : List Value)) (u := b_) (suf := ([due_])) (by simp [c_tabulariumref18_message]) (by simp) (by simp [c_tabulariumref18_message])
instance c_tabulariumref18_message.p_due (b_ : Value) (due_ : Value)  : Cell (c_tabulariumref18_message b_ due_) 1 due_ := cell_mid (pre := ([b_])) (suf := ([] : List Value)) (by simp [c_tabulariumref18_message]) (by simp)
instance c_tabulariumref18_message.s_due (b_ : Value) (due_ : Value) (new : Value)  : Put1 (c_tabulariumref18_message b_ due_) 1 new (c_tabulariumref18_message b_ new) := put1_mid (pre := ([b_])) (u := due_) (suf := ([] : List Value)) (by simp [c_tabulariumref18_message]) (by simp) (by simp [c_tabulariumref18_message])

/-- The cells of a tabulariumref21.Person. -/
def c_tabulariumref21_Person (Number_ : Value) (Secret_ : List Value) : List Value := ([Number_] ++ (Secret_))
instance c_tabulariumref21_Person.row (Number_ : Value) (Secret_ : List Value) [r1 : Row Secret_ 32] [v0 : OneV Number_] : Row (c_tabulariumref21_Person Number_ Secret_) 33 := Row.mk' (by simp only [c_tabulariumref21_Person, List.length_append, List.length_cons, List.length_nil, r1.len]) (by
  intro u hu
  simp only [c_tabulariumref21_Person, List.mem_append, List.mem_cons, List.not_mem_nil, or_false, or_assoc] at hu
  rcases hu with hu | hu
  all_goals first | (subst hu; exact v0.one) | (exact r1.one u hu)) (by omega)
instance c_tabulariumref21_Person.p_Number (Number_ : Value) (Secret_ : List Value) [r1 : Row Secret_ 32] : Cell (c_tabulariumref21_Person Number_ Secret_) 0 Number_ := cell_mid (pre := ([] : List Value)) (suf := (Secret_)) (by simp [c_tabulariumref21_Person]) (by simp [r1.len])
instance c_tabulariumref21_Person.s_Number (Number_ : Value) (Secret_ : List Value) (new : Value) [r1 : Row Secret_ 32] : Put1 (c_tabulariumref21_Person Number_ Secret_) 0 new (c_tabulariumref21_Person new Secret_) := put1_mid (pre := ([] : List Value)) (u := Number_) (suf := (Secret_)) (by simp [c_tabulariumref21_Person]) (by simp [r1.len]) (by simp [c_tabulariumref21_Person])
instance c_tabulariumref21_Person.p_Secret (Number_ : Value) (Secret_ : List Value) [r1 : Row Secret_ 32] : Part (c_tabulariumref21_Person Number_ Secret_) 1 32 Secret_ := part_mid (pre := ([Number_])) (suf := ([] : List Value)) (by simp [c_tabulariumref21_Person]) (by simp [r1.len]) r1.len
instance c_tabulariumref21_Person.s_Secret (Number_ : Value) (Secret_ : List Value) (new : List Value) [r1 : Row Secret_ 32] [rn : Row new 32] : PutN (c_tabulariumref21_Person Number_ Secret_) 1 new (c_tabulariumref21_Person Number_ new) := putN_mid (pre := ([Number_])) (suf := ([] : List Value)) (by simp [c_tabulariumref21_Person]) (by simp [r1.len]) r1.len rn.len (by simp [c_tabulariumref21_Person])

/-- The cells of a api.Box. -/
def c_api_Box (Kind_ : Value) (Of_ : Value) (Epoch_ : Value) (For_ : Value) (At_ : Value) (Ct_ : Value) : List Value := ([Kind_, Of_, Epoch_, For_, At_, Ct_])
instance c_api_Box.row (Kind_ : Value) (Of_ : Value) (Epoch_ : Value) (For_ : Value) (At_ : Value) (Ct_ : Value)  [v0 : OneV Kind_] [v1 : OneV Of_] [v2 : OneV Epoch_] [v3 : OneV For_] [v4 : OneV At_] [v5 : OneV Ct_] : Row (c_api_Box Kind_ Of_ Epoch_ For_ At_ Ct_) 6 := Row.mk' (by simp only [c_api_Box, List.length_append, List.length_cons, List.length_nil]) (by
  intro u hu
  simp only [c_api_Box, List.mem_append, List.mem_cons, List.not_mem_nil, or_false, or_assoc] at hu
  rcases hu with hu | hu | hu | hu | hu | hu
  all_goals first | (subst hu; exact v0.one) | (subst hu; exact v1.one) | (subst hu; exact v2.one) | (subst hu; exact v3.one) | (subst hu; exact v4.one) | (subst hu; exact v5.one)) (by omega)
instance c_api_Box.p_Kind (Kind_ : Value) (Of_ : Value) (Epoch_ : Value) (For_ : Value) (At_ : Value) (Ct_ : Value)  : Cell (c_api_Box Kind_ Of_ Epoch_ For_ At_ Ct_) 0 Kind_ := cell_mid (pre := ([] : List Value)) (suf := ([Of_, Epoch_, For_, At_, Ct_])) (by simp [c_api_Box]) (by simp)
instance c_api_Box.s_Kind (Kind_ : Value) (Of_ : Value) (Epoch_ : Value) (For_ : Value) (At_ : Value) (Ct_ : Value) (new : Value)  : Put1 (c_api_Box Kind_ Of_ Epoch_ For_ At_ Ct_) 0 new (c_api_Box new Of_ Epoch_ For_ At_ Ct_) := put1_mid (pre := ([] : List Value)) (u := Kind_) (suf := ([Of_, Epoch_, For_, At_, Ct_])) (by simp [c_api_Box]) (by simp) (by simp [c_api_Box])
instance c_api_Box.p_Of (Kind_ : Value) (Of_ : Value) (Epoch_ : Value) (For_ : Value) (At_ : Value) (Ct_ : Value)  : Cell (c_api_Box Kind_ Of_ Epoch_ For_ At_ Ct_) 1 Of_ := cell_mid (pre := ([Kind_])) (suf := ([Epoch_, For_, At_, Ct_])) (by simp [c_api_Box]) (by simp)
instance c_api_Box.s_Of (Kind_ : Value) (Of_ : Value) (Epoch_ : Value) (For_ : Value) (At_ : Value) (Ct_ : Value) (new : Value)  : Put1 (c_api_Box Kind_ Of_ Epoch_ For_ At_ Ct_) 1 new (c_api_Box Kind_ new Epoch_ For_ At_ Ct_) := put1_mid (pre := ([Kind_])) (u := Of_) (suf := ([Epoch_, For_, At_, Ct_])) (by simp [c_api_Box]) (by simp) (by simp [c_api_Box])
instance c_api_Box.p_Epoch (Kind_ : Value) (Of_ : Value) (Epoch_ : Value) (For_ : Value) (At_ : Value) (Ct_ : Value)  : Cell (c_api_Box Kind_ Of_ Epoch_ For_ At_ Ct_) 2 Epoch_ := cell_mid (pre := ([Kind_, Of_])) (suf := ([For_, At_, Ct_])) (by simp [c_api_Box]) (by simp)
instance c_api_Box.s_Epoch (Kind_ : Value) (Of_ : Value) (Epoch_ : Value) (For_ : Value) (At_ : Value) (Ct_ : Value) (new : Value)  : Put1 (c_api_Box Kind_ Of_ Epoch_ For_ At_ Ct_) 2 new (c_api_Box Kind_ Of_ new For_ At_ Ct_) := put1_mid (pre := ([Kind_, Of_])) (u := Epoch_) (suf := ([For_, At_, Ct_])) (by simp [c_api_Box]) (by simp) (by simp [c_api_Box])
instance c_api_Box.p_For (Kind_ : Value) (Of_ : Value) (Epoch_ : Value) (For_ : Value) (At_ : Value) (Ct_ : Value)  : Cell (c_api_Box Kind_ Of_ Epoch_ For_ At_ Ct_) 3 For_ := cell_mid (pre := ([Kind_, Of_, Epoch_])) (suf := ([At_, Ct_])) (by simp [c_api_Box]) (by simp)
instance c_api_Box.s_For (Kind_ : Value) (Of_ : Value) (Epoch_ : Value) (For_ : Value) (At_ : Value) (Ct_ : Value) (new : Value)  : Put1 (c_api_Box Kind_ Of_ Epoch_ For_ At_ Ct_) 3 new (c_api_Box Kind_ Of_ Epoch_ new At_ Ct_) := put1_mid (pre := ([Kind_, Of_, Epoch_])) (u := For_) (suf := ([At_, Ct_])) (by simp [c_api_Box]) (by simp) (by simp [c_api_Box])
instance c_api_Box.p_At (Kind_ : Value) (Of_ : Value) (Epoch_ : Value) (For_ : Value) (At_ : Value) (Ct_ : Value)  : Cell (c_api_Box Kind_ Of_ Epoch_ For_ At_ Ct_) 4 At_ := cell_mid (pre := ([Kind_, Of_, Epoch_, For_])) (suf := ([Ct_])) (by simp [c_api_Box]) (by simp)
instance c_api_Box.s_At (Kind_ : Value) (Of_ : Value) (Epoch_ : Value) (For_ : Value) (At_ : Value) (Ct_ : Value) (new : Value)  : Put1 (c_api_Box Kind_ Of_ Epoch_ For_ At_ Ct_) 4 new (c_api_Box Kind_ Of_ Epoch_ For_ new Ct_) := put1_mid (pre := ([Kind_, Of_, Epoch_, For_])) (u := At_) (suf := ([Ct_])) (by simp [c_api_Box]) (by simp) (by simp [c_api_Box])
instance c_api_Box.p_Ct (Kind_ : Value) (Of_ : Value) (Epoch_ : Value) (For_ : Value) (At_ : Value) (Ct_ : Value)  : Cell (c_api_Box Kind_ Of_ Epoch_ For_ At_ Ct_) 5 Ct_ := cell_mid (pre := ([Kind_, Of_, Epoch_, For_, At_])) (suf := ([] : List Value)) (by simp [c_api_Box]) (by simp)
instance c_api_Box.s_Ct (Kind_ : Value) (Of_ : Value) (Epoch_ : Value) (For_ : Value) (At_ : Value) (Ct_ : Value) (new : Value)  : Put1 (c_api_Box Kind_ Of_ Epoch_ For_ At_ Ct_) 5 new (c_api_Box Kind_ Of_ Epoch_ For_ At_ new) := put1_mid (pre := ([Kind_, Of_, Epoch_, For_, At_])) (u := Ct_) (suf := ([] : List Value)) (by simp [c_api_Box]) (by simp) (by simp [c_api_Box])

/-- The cells of a tabulariumref07.Suite. -/
def c_tabulariumref07_Suite (Mode_ : Value) (Tape_ : Value) (rows_ : Value) (A_ : Value) (B_ : Value) (Clash_ : Value) : List Value := ([Mode_, Tape_, rows_, A_, B_, Clash_])
instance c_tabulariumref07_Suite.row (Mode_ : Value) (Tape_ : Value) (rows_ : Value) (A_ : Value) (B_ : Value) (Clash_ : Value)  [v0 : OneV Mode_] [v1 : OneV Tape_] [v2 : OneV rows_] [v3 : OneV A_] [v4 : OneV B_] [v5 : OneV Clash_] : Row (c_tabulariumref07_Suite Mode_ Tape_ rows_ A_ B_ Clash_) 6 := Row.mk' (by simp only [c_tabulariumref07_Suite, List.length_append, List.length_cons, List.length_nil]) (by
  intro u hu
  simp only [c_tabulariumref07_Suite, List.mem_append, List.mem_cons, List.not_mem_nil, or_false, or_assoc] at hu
  rcases hu with hu | hu | hu | hu | hu | hu
  all_goals first | (subst hu; exact v0.one) | (subst hu; exact v1.one) | (subst hu; exact v2.one) | (subst hu; exact v3.one) | (subst hu; exact v4.one) | (subst hu; exact v5.one)) (by omega)
instance c_tabulariumref07_Suite.p_Mode (Mode_ : Value) (Tape_ : Value) (rows_ : Value) (A_ : Value) (B_ : Value) (Clash_ : Value)  : Cell (c_tabulariumref07_Suite Mode_ Tape_ rows_ A_ B_ Clash_) 0 Mode_ := cell_mid (pre := ([] : List Value)) (suf := ([Tape_, rows_, A_, B_, Clash_])) (by simp [c_tabulariumref07_Suite]) (by simp)
instance c_tabulariumref07_Suite.s_Mode (Mode_ : Value) (Tape_ : Value) (rows_ : Value) (A_ : Value) (B_ : Value) (Clash_ : Value) (new : Value)  : Put1 (c_tabulariumref07_Suite Mode_ Tape_ rows_ A_ B_ Clash_) 0 new (c_tabulariumref07_Suite new Tape_ rows_ A_ B_ Clash_) := put1_mid (pre := ([] : List Value)) (u := Mode_) (suf := ([Tape_, rows_, A_, B_, Clash_])) (by simp [c_tabulariumref07_Suite]) (by simp) (by simp [c_tabulariumref07_Suite])
instance c_tabulariumref07_Suite.p_Tape (Mode_ : Value) (Tape_ : Value) (rows_ : Value) (A_ : Value) (B_ : Value) (Clash_ : Value)  : Cell (c_tabulariumref07_Suite Mode_ Tape_ rows_ A_ B_ Clash_) 1 Tape_ := cell_mid (pre := ([Mode_])) (suf := ([rows_, A_, B_, Clash_])) (by simp [c_tabulariumref07_Suite]) (by simp)
instance c_tabulariumref07_Suite.s_Tape (Mode_ : Value) (Tape_ : Value) (rows_ : Value) (A_ : Value) (B_ : Value) (Clash_ : Value) (new : Value)  : Put1 (c_tabulariumref07_Suite Mode_ Tape_ rows_ A_ B_ Clash_) 1 new (c_tabulariumref07_Suite Mode_ new rows_ A_ B_ Clash_) := put1_mid (pre := ([Mode_])) (u := Tape_) (suf := ([rows_, A_, B_, Clash_])) (by simp [c_tabulariumref07_Suite]) (by simp) (by simp [c_tabulariumref07_Suite])
instance c_tabulariumref07_Suite.p_rows (Mode_ : Value) (Tape_ : Value) (rows_ : Value) (A_ : Value) (B_ : Value) (Clash_ : Value)  : Cell (c_tabulariumref07_Suite Mode_ Tape_ rows_ A_ B_ Clash_) 2 rows_ := cell_mid (pre := ([Mode_, Tape_])) (suf := ([A_, B_, Clash_])) (by simp [c_tabulariumref07_Suite]) (by simp)
instance c_tabulariumref07_Suite.s_rows (Mode_ : Value) (Tape_ : Value) (rows_ : Value) (A_ : Value) (B_ : Value) (Clash_ : Value) (new : Value)  : Put1 (c_tabulariumref07_Suite Mode_ Tape_ rows_ A_ B_ Clash_) 2 new (c_tabulariumref07_Suite Mode_ Tape_ new A_ B_ Clash_) := put1_mid (pre := ([Mode_, Tape_])) (u := rows_) (suf := ([A_, B_, Clash_])) (by simp [c_tabulariumref07_Suite]) (by simp) (by simp [c_tabulariumref07_Suite])
instance c_tabulariumref07_Suite.p_A (Mode_ : Value) (Tape_ : Value) (rows_ : Value) (A_ : Value) (B_ : Value) (Clash_ : Value)  : Cell (c_tabulariumref07_Suite Mode_ Tape_ rows_ A_ B_ Clash_) 3 A_ := cell_mid (pre := ([Mode_, Tape_, rows_])) (suf := ([B_, Clash_])) (by simp [c_tabulariumref07_Suite]) (by simp)
instance c_tabulariumref07_Suite.s_A (Mode_ : Value) (Tape_ : Value) (rows_ : Value) (A_ : Value) (B_ : Value) (Clash_ : Value) (new : Value)  : Put1 (c_tabulariumref07_Suite Mode_ Tape_ rows_ A_ B_ Clash_) 3 new (c_tabulariumref07_Suite Mode_ Tape_ rows_ new B_ Clash_) := put1_mid (pre := ([Mode_, Tape_, rows_])) (u := A_) (suf := ([B_, Clash_])) (by simp [c_tabulariumref07_Suite]) (by simp) (by simp [c_tabulariumref07_Suite])
instance c_tabulariumref07_Suite.p_B (Mode_ : Value) (Tape_ : Value) (rows_ : Value) (A_ : Value) (B_ : Value) (Clash_ : Value)  : Cell (c_tabulariumref07_Suite Mode_ Tape_ rows_ A_ B_ Clash_) 4 B_ := cell_mid (pre := ([Mode_, Tape_, rows_, A_])) (suf := ([Clash_])) (by simp [c_tabulariumref07_Suite]) (by simp)
instance c_tabulariumref07_Suite.s_B (Mode_ : Value) (Tape_ : Value) (rows_ : Value) (A_ : Value) (B_ : Value) (Clash_ : Value) (new : Value)  : Put1 (c_tabulariumref07_Suite Mode_ Tape_ rows_ A_ B_ Clash_) 4 new (c_tabulariumref07_Suite Mode_ Tape_ rows_ A_ new Clash_) := put1_mid (pre := ([Mode_, Tape_, rows_, A_])) (u := B_) (suf := ([Clash_])) (by simp [c_tabulariumref07_Suite]) (by simp) (by simp [c_tabulariumref07_Suite])
instance c_tabulariumref07_Suite.p_Clash (Mode_ : Value) (Tape_ : Value) (rows_ : Value) (A_ : Value) (B_ : Value) (Clash_ : Value)  : Cell (c_tabulariumref07_Suite Mode_ Tape_ rows_ A_ B_ Clash_) 5 Clash_ := cell_mid (pre := ([Mode_, Tape_, rows_, A_, B_])) (suf := ([] : List Value)) (by simp [c_tabulariumref07_Suite]) (by simp)
instance c_tabulariumref07_Suite.s_Clash (Mode_ : Value) (Tape_ : Value) (rows_ : Value) (A_ : Value) (B_ : Value) (Clash_ : Value) (new : Value)  : Put1 (c_tabulariumref07_Suite Mode_ Tape_ rows_ A_ B_ Clash_) 5 new (c_tabulariumref07_Suite Mode_ Tape_ rows_ A_ B_ new) := put1_mid (pre := ([Mode_, Tape_, rows_, A_, B_])) (u := Clash_) (suf := ([] : List Value)) (by simp [c_tabulariumref07_Suite]) (by simp) (by simp [c_tabulariumref07_Suite])

/-- The cells of a tabulariumref07.row. -/
def c_tabulariumref07_row (kind_ : Value) (k_ : List Value) (label_ : Value) (in_ : Value) (out_ : Value) : List Value := ([kind_] ++ (k_ ++ ([label_, in_, out_])))
instance c_tabulariumref07_row.row (kind_ : Value) (k_ : List Value) (label_ : Value) (in_ : Value) (out_ : Value) [r1 : Row k_ 32] [v0 : OneV kind_] [v2 : OneV label_] [v3 : OneV in_] [v4 : OneV out_] : Row (c_tabulariumref07_row kind_ k_ label_ in_ out_) 36 := Row.mk' (by simp only [c_tabulariumref07_row, List.length_append, List.length_cons, List.length_nil, r1.len]) (by
  intro u hu
  simp only [c_tabulariumref07_row, List.mem_append, List.mem_cons, List.not_mem_nil, or_false, or_assoc] at hu
  rcases hu with hu | hu | hu | hu | hu
  all_goals first | (subst hu; exact v0.one) | (exact r1.one u hu) | (subst hu; exact v2.one) | (subst hu; exact v3.one) | (subst hu; exact v4.one)) (by omega)
instance c_tabulariumref07_row.p_kind (kind_ : Value) (k_ : List Value) (label_ : Value) (in_ : Value) (out_ : Value) [r1 : Row k_ 32] : Cell (c_tabulariumref07_row kind_ k_ label_ in_ out_) 0 kind_ := cell_mid (pre := ([] : List Value)) (suf := (k_ ++ ([label_, in_, out_]))) (by simp [c_tabulariumref07_row]) (by simp [r1.len])
instance c_tabulariumref07_row.s_kind (kind_ : Value) (k_ : List Value) (label_ : Value) (in_ : Value) (out_ : Value) (new : Value) [r1 : Row k_ 32] : Put1 (c_tabulariumref07_row kind_ k_ label_ in_ out_) 0 new (c_tabulariumref07_row new k_ label_ in_ out_) := put1_mid (pre := ([] : List Value)) (u := kind_) (suf := (k_ ++ ([label_, in_, out_]))) (by simp [c_tabulariumref07_row]) (by simp [r1.len]) (by simp [c_tabulariumref07_row])
instance c_tabulariumref07_row.p_k (kind_ : Value) (k_ : List Value) (label_ : Value) (in_ : Value) (out_ : Value) [r1 : Row k_ 32] : Part (c_tabulariumref07_row kind_ k_ label_ in_ out_) 1 32 k_ := part_mid (pre := ([kind_])) (suf := ([label_, in_, out_])) (by simp [c_tabulariumref07_row]) (by simp [r1.len]) r1.len
instance c_tabulariumref07_row.s_k (kind_ : Value) (k_ : List Value) (label_ : Value) (in_ : Value) (out_ : Value) (new : List Value) [r1 : Row k_ 32] [rn : Row new 32] : PutN (c_tabulariumref07_row kind_ k_ label_ in_ out_) 1 new (c_tabulariumref07_row kind_ new label_ in_ out_) := putN_mid (pre := ([kind_])) (suf := ([label_, in_, out_])) (by simp [c_tabulariumref07_row]) (by simp [r1.len]) r1.len rn.len (by simp [c_tabulariumref07_row])
instance c_tabulariumref07_row.p_label (kind_ : Value) (k_ : List Value) (label_ : Value) (in_ : Value) (out_ : Value) [r1 : Row k_ 32] : Cell (c_tabulariumref07_row kind_ k_ label_ in_ out_) 33 label_ := cell_mid (pre := ([kind_] ++ (k_))) (suf := ([in_, out_])) (by simp [c_tabulariumref07_row]) (by simp [r1.len])
instance c_tabulariumref07_row.s_label (kind_ : Value) (k_ : List Value) (label_ : Value) (in_ : Value) (out_ : Value) (new : Value) [r1 : Row k_ 32] : Put1 (c_tabulariumref07_row kind_ k_ label_ in_ out_) 33 new (c_tabulariumref07_row kind_ k_ new in_ out_) := put1_mid (pre := ([kind_] ++ (k_))) (u := label_) (suf := ([in_, out_])) (by simp [c_tabulariumref07_row]) (by simp [r1.len]) (by simp [c_tabulariumref07_row])
instance c_tabulariumref07_row.p_in (kind_ : Value) (k_ : List Value) (label_ : Value) (in_ : Value) (out_ : Value) [r1 : Row k_ 32] : Cell (c_tabulariumref07_row kind_ k_ label_ in_ out_) 34 in_ := cell_mid (pre := ([kind_] ++ (k_ ++ ([label_])))) (suf := ([out_])) (by simp [c_tabulariumref07_row]) (by simp [r1.len])
instance c_tabulariumref07_row.s_in (kind_ : Value) (k_ : List Value) (label_ : Value) (in_ : Value) (out_ : Value) (new : Value) [r1 : Row k_ 32] : Put1 (c_tabulariumref07_row kind_ k_ label_ in_ out_) 34 new (c_tabulariumref07_row kind_ k_ label_ new out_) := put1_mid (pre := ([kind_] ++ (k_ ++ ([label_])))) (u := in_) (suf := ([out_])) (by simp [c_tabulariumref07_row]) (by simp [r1.len]) (by simp [c_tabulariumref07_row])
instance c_tabulariumref07_row.p_out (kind_ : Value) (k_ : List Value) (label_ : Value) (in_ : Value) (out_ : Value) [r1 : Row k_ 32] : Cell (c_tabulariumref07_row kind_ k_ label_ in_ out_) 35 out_ := cell_mid (pre := ([kind_] ++ (k_ ++ ([label_, in_])))) (suf := ([] : List Value)) (by simp [c_tabulariumref07_row]) (by simp [r1.len])
instance c_tabulariumref07_row.s_out (kind_ : Value) (k_ : List Value) (label_ : Value) (in_ : Value) (out_ : Value) (new : Value) [r1 : Row k_ 32] : Put1 (c_tabulariumref07_row kind_ k_ label_ in_ out_) 35 new (c_tabulariumref07_row kind_ k_ label_ in_ new) := put1_mid (pre := ([kind_] ++ (k_ ++ ([label_, in_])))) (u := out_) (suf := ([] : List Value)) (by simp [c_tabulariumref07_row]) (by simp [r1.len]) (by simp [c_tabulariumref07_row])

instance : One Try.prog 1 := ⟨⟨_, Try.underlying1, rfl⟩, by kernel_rfl⟩
instance : Siz Try.prog 1 1 := ⟨by kernel_rfl⟩
set_option maxRecDepth 100000 in
instance : Zer Try.prog 1 [.nilFunc] := ⟨.nilFunc, by kernel_rfl, rfl⟩
instance : One Try.prog 2 := ⟨⟨_, Try.underlying2, rfl⟩, by kernel_rfl⟩
instance : Siz Try.prog 2 1 := ⟨by kernel_rfl⟩
set_option maxRecDepth 100000 in
instance : Zer Try.prog 2 [.int .i64 0] := ⟨(.int .i64 0), by kernel_rfl, rfl⟩
instance : One Try.prog 3 := ⟨⟨_, Try.underlying3, rfl⟩, by kernel_rfl⟩
instance : Siz Try.prog 3 1 := ⟨by kernel_rfl⟩
set_option maxRecDepth 100000 in
instance : Zer Try.prog 3 [.int .i64 0] := ⟨(.int .i64 0), by kernel_rfl, rfl⟩
instance : One Try.prog 4 := ⟨⟨_, Try.underlying4, rfl⟩, by kernel_rfl⟩
instance : Siz Try.prog 4 1 := ⟨by kernel_rfl⟩
set_option maxRecDepth 100000 in
instance : Zer Try.prog 4 [.bool false] := ⟨(.bool false), by kernel_rfl, rfl⟩
instance : One Try.prog 5 := ⟨⟨_, Try.underlying5, rfl⟩, by kernel_rfl⟩
instance : Siz Try.prog 5 1 := ⟨by kernel_rfl⟩
set_option maxRecDepth 100000 in
instance : Zer Try.prog 5 [.int .u8 0] := ⟨(.int .u8 0), by kernel_rfl, rfl⟩
instance : One Try.prog 6 := ⟨⟨_, Try.underlying6, rfl⟩, by kernel_rfl⟩
instance : Siz Try.prog 6 1 := ⟨by kernel_rfl⟩
set_option maxRecDepth 100000 in
instance : Zer Try.prog 6 [.int .u8 0] := ⟨(.int .u8 0), by kernel_rfl, rfl⟩
instance : Siz Try.prog 7 4 := ⟨by kernel_rfl⟩
instance : Agg Try.prog 7 := ⟨_, Try.underlying7, rfl⟩
instance : Siz Try.prog 8 4 := ⟨by kernel_rfl⟩
instance : Agg Try.prog 8 := ⟨_, Try.underlying8, rfl⟩
instance : One Try.prog 9 := ⟨⟨_, Try.underlying9, rfl⟩, by kernel_rfl⟩
instance : Siz Try.prog 9 1 := ⟨by kernel_rfl⟩
set_option maxRecDepth 100000 in
instance : Zer Try.prog 9 [.string ByteArray.empty] := ⟨(.string ByteArray.empty), by kernel_rfl, rfl⟩
instance : One Try.prog 10 := ⟨⟨_, Try.underlying10, rfl⟩, by kernel_rfl⟩
instance : Siz Try.prog 10 1 := ⟨by kernel_rfl⟩
set_option maxRecDepth 100000 in
instance : Zer Try.prog 10 [.string ByteArray.empty] := ⟨(.string ByteArray.empty), by kernel_rfl, rfl⟩
instance : One Try.prog 11 := ⟨⟨_, Try.underlying11, rfl⟩, by kernel_rfl⟩
instance : Siz Try.prog 11 1 := ⟨by kernel_rfl⟩
set_option maxRecDepth 100000 in
instance : Zer Try.prog 11 [.string ByteArray.empty] := ⟨(.string ByteArray.empty), by kernel_rfl, rfl⟩
instance : One Try.prog 12 := ⟨⟨_, Try.underlying12, rfl⟩, by kernel_rfl⟩
instance : Siz Try.prog 12 1 := ⟨by kernel_rfl⟩
set_option maxRecDepth 100000 in
instance : Zer Try.prog 12 [.int .u64 0] := ⟨(.int .u64 0), by kernel_rfl, rfl⟩
instance : Siz Try.prog 13 2 := ⟨by kernel_rfl⟩
instance : Agg Try.prog 13 := ⟨_, Try.underlying13, rfl⟩
instance : Siz Try.prog 14 2 := ⟨by kernel_rfl⟩
instance : Agg Try.prog 14 := ⟨_, Try.underlying14, rfl⟩
instance : One Try.prog 15 := ⟨⟨_, Try.underlying15, rfl⟩, by kernel_rfl⟩
instance : Siz Try.prog 15 1 := ⟨by kernel_rfl⟩
set_option maxRecDepth 100000 in
instance : Zer Try.prog 15 [.pointer none] := ⟨(.pointer none), by kernel_rfl, rfl⟩
instance : One Try.prog 16 := ⟨⟨_, Try.underlying16, rfl⟩, by kernel_rfl⟩
instance : Siz Try.prog 16 1 := ⟨by kernel_rfl⟩
set_option maxRecDepth 100000 in
instance : Zer Try.prog 16 [.pointer none] := ⟨(.pointer none), by kernel_rfl, rfl⟩
instance : One Try.prog 17 := ⟨⟨_, Try.underlying17, rfl⟩, by kernel_rfl⟩
instance : Siz Try.prog 17 1 := ⟨by kernel_rfl⟩
set_option maxRecDepth 100000 in
instance : Zer Try.prog 17 [.pointer none] := ⟨(.pointer none), by kernel_rfl, rfl⟩
instance : Siz Try.prog 18 1 := ⟨by kernel_rfl⟩
instance : Agg Try.prog 18 := ⟨_, Try.underlying18, rfl⟩
instance : Siz Try.prog 19 1 := ⟨by kernel_rfl⟩
instance : Agg Try.prog 19 := ⟨_, Try.underlying19, rfl⟩
instance : One Try.prog 20 := ⟨⟨_, Try.underlying20, rfl⟩, by kernel_rfl⟩
instance : Siz Try.prog 20 1 := ⟨by kernel_rfl⟩
set_option maxRecDepth 100000 in
instance : Zer Try.prog 20 [.nilIface] := ⟨.nilIface, by kernel_rfl, rfl⟩
instance : One Try.prog 21 := ⟨⟨_, Try.underlying21, rfl⟩, by kernel_rfl⟩
instance : Siz Try.prog 21 1 := ⟨by kernel_rfl⟩
set_option maxRecDepth 100000 in
instance : Zer Try.prog 21 [.int .i32 0] := ⟨(.int .i32 0), by kernel_rfl, rfl⟩
instance : One Try.prog 22 := ⟨⟨_, Try.underlying22, rfl⟩, by kernel_rfl⟩
instance : Siz Try.prog 22 1 := ⟨by kernel_rfl⟩
set_option maxRecDepth 100000 in
instance : Zer Try.prog 22 [.slice none 0 0] := ⟨(.slice none 0 0), by kernel_rfl, rfl⟩
instance : Elm Try.prog 22 25 4 24 := elm_mk (z := .agg (c_api_Change (.int .i64 0) (.int .u32 0) (.int .u32 0) (.int .u32 0)).toArray) Try.underlying22 (by kernel_rfl) (by kernel_rfl) (by decide)
instance : One Try.prog 23 := ⟨⟨_, Try.underlying23, rfl⟩, by kernel_rfl⟩
instance : Siz Try.prog 23 1 := ⟨by kernel_rfl⟩
set_option maxRecDepth 100000 in
instance : Zer Try.prog 23 [.int .u32 0] := ⟨(.int .u32 0), by kernel_rfl, rfl⟩
instance : Siz Try.prog 24 4 := ⟨by kernel_rfl⟩
instance : Agg Try.prog 24 := ⟨_, Try.underlying24, rfl⟩
set_option maxRecDepth 100000 in
instance : Zer Try.prog 24 (c_api_Change (.int .i64 0) (.int .u32 0) (.int .u32 0) (.int .u32 0)) := ⟨.agg (c_api_Change (.int .i64 0) (.int .u32 0) (.int .u32 0) (.int .u32 0)).toArray, by kernel_rfl, rfl⟩
set_option maxRecDepth 100000 in
instance : Blt0 Try.prog 24 (c_api_Change (.int .i64 0) (.int .u32 0) (.int .u32 0) (.int .u32 0)) := ⟨by kernel_rfl⟩
set_option maxRecDepth 100000 in
instance : Places Try.prog 24 [(0, 1), (1, 1), (2, 1), (3, 1)] (c_api_Change (.int .i64 0) (.int .u32 0) (.int .u32 0) (.int .u32 0)) := ⟨fun parts => by kernel_rfl⟩
instance : Siz Try.prog 25 4 := ⟨by kernel_rfl⟩
instance : Agg Try.prog 25 := ⟨_, Try.underlying25, rfl⟩
set_option maxRecDepth 100000 in
instance : Zer Try.prog 25 (c_api_Change (.int .i64 0) (.int .u32 0) (.int .u32 0) (.int .u32 0)) := ⟨.agg (c_api_Change (.int .i64 0) (.int .u32 0) (.int .u32 0) (.int .u32 0)).toArray, by kernel_rfl, rfl⟩
set_option maxRecDepth 100000 in
instance : Blt0 Try.prog 25 (c_api_Change (.int .i64 0) (.int .u32 0) (.int .u32 0) (.int .u32 0)) := ⟨by kernel_rfl⟩
set_option maxRecDepth 100000 in
instance : Places Try.prog 25 [(0, 1), (1, 1), (2, 1), (3, 1)] (c_api_Change (.int .i64 0) (.int .u32 0) (.int .u32 0) (.int .u32 0)) := ⟨fun parts => by kernel_rfl⟩
instance : One Try.prog 26 := ⟨⟨_, Try.underlying26, rfl⟩, by kernel_rfl⟩
instance : Siz Try.prog 26 1 := ⟨by kernel_rfl⟩
set_option maxRecDepth 100000 in
instance : Zer Try.prog 26 [.nilFunc] := ⟨.nilFunc, by kernel_rfl, rfl⟩
instance : One Try.prog 27 := ⟨⟨_, Try.underlying27, rfl⟩, by kernel_rfl⟩
instance : Siz Try.prog 27 1 := ⟨by kernel_rfl⟩
set_option maxRecDepth 100000 in
instance : Zer Try.prog 27 [.pointer none] := ⟨(.pointer none), by kernel_rfl, rfl⟩
instance : One Try.prog 28 := ⟨⟨_, Try.underlying28, rfl⟩, by kernel_rfl⟩
instance : Siz Try.prog 28 1 := ⟨by kernel_rfl⟩
set_option maxRecDepth 100000 in
instance : Zer Try.prog 28 [.pointer none] := ⟨(.pointer none), by kernel_rfl, rfl⟩
instance : One Try.prog 30 := ⟨⟨_, Try.underlying30, rfl⟩, by kernel_rfl⟩
instance : Siz Try.prog 30 1 := ⟨by kernel_rfl⟩
set_option maxRecDepth 100000 in
instance : Zer Try.prog 30 [.nilFunc] := ⟨.nilFunc, by kernel_rfl, rfl⟩
instance : One Try.prog 32 := ⟨⟨_, Try.underlying32, rfl⟩, by kernel_rfl⟩
instance : Siz Try.prog 32 1 := ⟨by kernel_rfl⟩
set_option maxRecDepth 100000 in
instance : Zer Try.prog 32 [.nilFunc] := ⟨.nilFunc, by kernel_rfl, rfl⟩
instance : One Try.prog 33 := ⟨⟨_, Try.underlying33, rfl⟩, by kernel_rfl⟩
instance : Siz Try.prog 33 1 := ⟨by kernel_rfl⟩
set_option maxRecDepth 100000 in
instance : Zer Try.prog 33 [.nilFunc] := ⟨.nilFunc, by kernel_rfl, rfl⟩
instance : One Try.prog 34 := ⟨⟨_, Try.underlying34, rfl⟩, by kernel_rfl⟩
instance : Siz Try.prog 34 1 := ⟨by kernel_rfl⟩
set_option maxRecDepth 100000 in
instance : Zer Try.prog 34 [.int .i64 0] := ⟨(.int .i64 0), by kernel_rfl, rfl⟩
instance : One Try.prog 35 := ⟨⟨_, Try.underlying35, rfl⟩, by kernel_rfl⟩
instance : Siz Try.prog 35 1 := ⟨by kernel_rfl⟩
set_option maxRecDepth 100000 in
instance : Zer Try.prog 35 [.nilFunc] := ⟨.nilFunc, by kernel_rfl, rfl⟩
instance : One Try.prog 36 := ⟨⟨_, Try.underlying36, rfl⟩, by kernel_rfl⟩
instance : Siz Try.prog 36 1 := ⟨by kernel_rfl⟩
set_option maxRecDepth 100000 in
instance : Zer Try.prog 36 [.nilFunc] := ⟨.nilFunc, by kernel_rfl, rfl⟩
instance : One Try.prog 37 := ⟨⟨_, Try.underlying37, rfl⟩, by kernel_rfl⟩
instance : Siz Try.prog 37 1 := ⟨by kernel_rfl⟩
set_option maxRecDepth 100000 in
instance : Zer Try.prog 37 [.nilFunc] := ⟨.nilFunc, by kernel_rfl, rfl⟩
instance : One Try.prog 38 := ⟨⟨_, Try.underlying38, rfl⟩, by kernel_rfl⟩
instance : Siz Try.prog 38 1 := ⟨by kernel_rfl⟩
set_option maxRecDepth 100000 in
instance : Zer Try.prog 38 [.map none] := ⟨(.map none), by kernel_rfl, rfl⟩
instance : One Try.prog 39 := ⟨⟨_, Try.underlying39, rfl⟩, by kernel_rfl⟩
instance : Siz Try.prog 39 1 := ⟨by kernel_rfl⟩
set_option maxRecDepth 100000 in
instance : Zer Try.prog 39 [.map none] := ⟨(.map none), by kernel_rfl, rfl⟩
instance : One Try.prog 40 := ⟨⟨_, Try.underlying40, rfl⟩, by kernel_rfl⟩
instance : Siz Try.prog 40 1 := ⟨by kernel_rfl⟩
set_option maxRecDepth 100000 in
instance : Zer Try.prog 40 [.map none] := ⟨(.map none), by kernel_rfl, rfl⟩
instance : One Try.prog 41 := ⟨⟨_, Try.underlying41, rfl⟩, by kernel_rfl⟩
instance : Siz Try.prog 41 1 := ⟨by kernel_rfl⟩
set_option maxRecDepth 100000 in
instance : Zer Try.prog 41 [.map none] := ⟨(.map none), by kernel_rfl, rfl⟩
instance : Siz Try.prog 42 6 := ⟨by kernel_rfl⟩
instance : Agg Try.prog 42 := ⟨_, Try.underlying42, rfl⟩
set_option maxRecDepth 100000 in
instance : Zer Try.prog 42 (c_acl_Model (.map none) (.map none) (.map none) (.map none) (.map none) (.map none)) := ⟨.agg (c_acl_Model (.map none) (.map none) (.map none) (.map none) (.map none) (.map none)).toArray, by kernel_rfl, rfl⟩
set_option maxRecDepth 100000 in
instance : Blt0 Try.prog 42 (c_acl_Model (.map none) (.map none) (.map none) (.map none) (.map none) (.map none)) := ⟨by kernel_rfl⟩
set_option maxRecDepth 100000 in
instance : Places Try.prog 42 [(0, 1), (1, 1), (2, 1), (3, 1), (4, 1), (5, 1)] (c_acl_Model (.map none) (.map none) (.map none) (.map none) (.map none) (.map none)) := ⟨fun parts => by kernel_rfl⟩
instance : Siz Try.prog 43 6 := ⟨by kernel_rfl⟩
instance : Agg Try.prog 43 := ⟨_, Try.underlying43, rfl⟩
set_option maxRecDepth 100000 in
instance : Zer Try.prog 43 (c_acl_Model (.map none) (.map none) (.map none) (.map none) (.map none) (.map none)) := ⟨.agg (c_acl_Model (.map none) (.map none) (.map none) (.map none) (.map none) (.map none)).toArray, by kernel_rfl, rfl⟩
set_option maxRecDepth 100000 in
instance : Blt0 Try.prog 43 (c_acl_Model (.map none) (.map none) (.map none) (.map none) (.map none) (.map none)) := ⟨by kernel_rfl⟩
set_option maxRecDepth 100000 in
instance : Places Try.prog 43 [(0, 1), (1, 1), (2, 1), (3, 1), (4, 1), (5, 1)] (c_acl_Model (.map none) (.map none) (.map none) (.map none) (.map none) (.map none)) := ⟨fun parts => by kernel_rfl⟩
instance : One Try.prog 44 := ⟨⟨_, Try.underlying44, rfl⟩, by kernel_rfl⟩
instance : Siz Try.prog 44 1 := ⟨by kernel_rfl⟩
set_option maxRecDepth 100000 in
instance : Zer Try.prog 44 [.nilFunc] := ⟨.nilFunc, by kernel_rfl, rfl⟩
instance : One Try.prog 45 := ⟨⟨_, Try.underlying45, rfl⟩, by kernel_rfl⟩
instance : Siz Try.prog 45 1 := ⟨by kernel_rfl⟩
set_option maxRecDepth 100000 in
instance : Zer Try.prog 45 [.nilFunc] := ⟨.nilFunc, by kernel_rfl, rfl⟩
instance : One Try.prog 46 := ⟨⟨_, Try.underlying46, rfl⟩, by kernel_rfl⟩
instance : Siz Try.prog 46 1 := ⟨by kernel_rfl⟩
set_option maxRecDepth 100000 in
instance : Zer Try.prog 46 [.nilFunc] := ⟨.nilFunc, by kernel_rfl, rfl⟩
instance : Siz Try.prog 47 32 := ⟨by kernel_rfl⟩
instance : Agg Try.prog 47 := ⟨_, Try.underlying47, rfl⟩
set_option maxRecDepth 100000 in
instance : Arr8 Try.prog 47 32 := ⟨⟨_, _, Try.underlying47, Try.underlying5, rfl, rfl⟩, by kernel_rfl⟩
set_option maxRecDepth 100000 in
instance : Zer Try.prog 47 (u8s (zeros 32)) := ⟨.agg (u8s (zeros 32)).toArray, by kernel_rfl, rfl⟩
set_option maxRecDepth 100000 in
instance : Blt0 Try.prog 47 (u8s (zeros 32)) := ⟨by kernel_rfl⟩
instance : Siz Try.prog 48 32 := ⟨by kernel_rfl⟩
instance : Agg Try.prog 48 := ⟨_, Try.underlying48, rfl⟩
set_option maxRecDepth 100000 in
instance : Arr8 Try.prog 48 32 := ⟨⟨_, _, Try.underlying48, Try.underlying5, rfl, rfl⟩, by kernel_rfl⟩
set_option maxRecDepth 100000 in
instance : Zer Try.prog 48 (u8s (zeros 32)) := ⟨.agg (u8s (zeros 32)).toArray, by kernel_rfl, rfl⟩
set_option maxRecDepth 100000 in
instance : Blt0 Try.prog 48 (u8s (zeros 32)) := ⟨by kernel_rfl⟩
instance : One Try.prog 49 := ⟨⟨_, Try.underlying49, rfl⟩, by kernel_rfl⟩
instance : Siz Try.prog 49 1 := ⟨by kernel_rfl⟩
set_option maxRecDepth 100000 in
instance : Zer Try.prog 49 [.slice none 0 0] := ⟨(.slice none 0 0), by kernel_rfl, rfl⟩
instance : Elm Try.prog 49 23 1 4 := elm_mk (z := (.int .u32 0)) Try.underlying49 (by kernel_rfl) (by kernel_rfl) (by decide)
instance : Siz Try.prog 50 35 := ⟨by kernel_rfl⟩
instance : Agg Try.prog 50 := ⟨_, Try.underlying50, rfl⟩
set_option maxRecDepth 100000 in
instance : Zer Try.prog 50 (c_tabulariumref21_Group (.int .u32 0) (.int .u32 0) (u8s (zeros 32)) (.slice none 0 0)) := ⟨.agg (c_tabulariumref21_Group (.int .u32 0) (.int .u32 0) (u8s (zeros 32)) (.slice none 0 0)).toArray, by kernel_rfl, rfl⟩
set_option maxRecDepth 100000 in
instance : Blt0 Try.prog 50 (c_tabulariumref21_Group (.int .u32 0) (.int .u32 0) (u8s (zeros 32)) (.slice none 0 0)) := ⟨by kernel_rfl⟩
set_option maxRecDepth 100000 in
instance : Places Try.prog 50 [(0, 1), (1, 1), (2, 32), (34, 1)] (c_tabulariumref21_Group (.int .u32 0) (.int .u32 0) (u8s (zeros 32)) (.slice none 0 0)) := ⟨fun parts => by kernel_rfl⟩
instance : Siz Try.prog 51 35 := ⟨by kernel_rfl⟩
instance : Agg Try.prog 51 := ⟨_, Try.underlying51, rfl⟩
set_option maxRecDepth 100000 in
instance : Zer Try.prog 51 (c_tabulariumref21_Group (.int .u32 0) (.int .u32 0) (u8s (zeros 32)) (.slice none 0 0)) := ⟨.agg (c_tabulariumref21_Group (.int .u32 0) (.int .u32 0) (u8s (zeros 32)) (.slice none 0 0)).toArray, by kernel_rfl, rfl⟩
set_option maxRecDepth 100000 in
instance : Blt0 Try.prog 51 (c_tabulariumref21_Group (.int .u32 0) (.int .u32 0) (u8s (zeros 32)) (.slice none 0 0)) := ⟨by kernel_rfl⟩
set_option maxRecDepth 100000 in
instance : Places Try.prog 51 [(0, 1), (1, 1), (2, 32), (34, 1)] (c_tabulariumref21_Group (.int .u32 0) (.int .u32 0) (u8s (zeros 32)) (.slice none 0 0)) := ⟨fun parts => by kernel_rfl⟩
instance : One Try.prog 52 := ⟨⟨_, Try.underlying52, rfl⟩, by kernel_rfl⟩
instance : Siz Try.prog 52 1 := ⟨by kernel_rfl⟩
set_option maxRecDepth 100000 in
instance : Zer Try.prog 52 [.pointer none] := ⟨(.pointer none), by kernel_rfl, rfl⟩
instance : One Try.prog 53 := ⟨⟨_, Try.underlying53, rfl⟩, by kernel_rfl⟩
instance : Siz Try.prog 53 1 := ⟨by kernel_rfl⟩
set_option maxRecDepth 100000 in
instance : Zer Try.prog 53 [.slice none 0 0] := ⟨(.slice none 0 0), by kernel_rfl, rfl⟩
instance : Elm Try.prog 53 123 33 36 := elm_mk (z := .agg (c_tabulariumref21_Person (.int .u32 0) (u8s (zeros 32))).toArray) Try.underlying53 (by kernel_rfl) (by kernel_rfl) (by decide)
instance : One Try.prog 54 := ⟨⟨_, Try.underlying54, rfl⟩, by kernel_rfl⟩
instance : Siz Try.prog 54 1 := ⟨by kernel_rfl⟩
set_option maxRecDepth 100000 in
instance : Zer Try.prog 54 [.slice none 0 0] := ⟨(.slice none 0 0), by kernel_rfl, rfl⟩
instance : Elm Try.prog 54 51 35 64 := elm_mk (z := .agg (c_tabulariumref21_Group (.int .u32 0) (.int .u32 0) (u8s (zeros 32)) (.slice none 0 0)).toArray) Try.underlying54 (by kernel_rfl) (by kernel_rfl) (by decide)
instance : One Try.prog 55 := ⟨⟨_, Try.underlying55, rfl⟩, by kernel_rfl⟩
instance : Siz Try.prog 55 1 := ⟨by kernel_rfl⟩
set_option maxRecDepth 100000 in
instance : Zer Try.prog 55 [.slice none 0 0] := ⟨(.slice none 0 0), by kernel_rfl, rfl⟩
instance : Elm Try.prog 55 61 35 64 := elm_mk (z := .agg (c_tabulariumref21_Realm (.int .u32 0) (.int .u32 0) (u8s (zeros 32)) (.slice none 0 0)).toArray) Try.underlying55 (by kernel_rfl) (by kernel_rfl) (by decide)
instance : One Try.prog 56 := ⟨⟨_, Try.underlying56, rfl⟩, by kernel_rfl⟩
instance : Siz Try.prog 56 1 := ⟨by kernel_rfl⟩
set_option maxRecDepth 100000 in
instance : Zer Try.prog 56 [.slice none 0 0] := ⟨(.slice none 0 0), by kernel_rfl, rfl⟩
instance : Elm Try.prog 56 137 6 48 := elm_mk (z := .agg (c_api_Box (.int .i64 0) (.int .u32 0) (.int .u32 0) (.int .u32 0) (.int .u32 0) (.slice none 0 0)).toArray) Try.underlying56 (by kernel_rfl) (by kernel_rfl) (by decide)
instance : One Try.prog 57 := ⟨⟨_, Try.underlying57, rfl⟩, by kernel_rfl⟩
instance : Siz Try.prog 57 1 := ⟨by kernel_rfl⟩
set_option maxRecDepth 100000 in
instance : Zer Try.prog 57 [.slice none 0 0] := ⟨(.slice none 0 0), by kernel_rfl, rfl⟩
instance : Elm Try.prog 57 67 3 12 := elm_mk (z := .agg (c_tabulariumref21_Seen (.int .u32 0) (.int .u32 0) (.int .u32 0)).toArray) Try.underlying57 (by kernel_rfl) (by kernel_rfl) (by decide)
instance : Siz Try.prog 58 6 := ⟨by kernel_rfl⟩
instance : Agg Try.prog 58 := ⟨_, Try.underlying58, rfl⟩
set_option maxRecDepth 100000 in
instance : Zer Try.prog 58 (c_tabulariumref21_Ring (.pointer none) (.slice none 0 0) (.slice none 0 0) (.slice none 0 0) (.slice none 0 0) (.slice none 0 0)) := ⟨.agg (c_tabulariumref21_Ring (.pointer none) (.slice none 0 0) (.slice none 0 0) (.slice none 0 0) (.slice none 0 0) (.slice none 0 0)).toArray, by kernel_rfl, rfl⟩
set_option maxRecDepth 100000 in
instance : Blt0 Try.prog 58 (c_tabulariumref21_Ring (.pointer none) (.slice none 0 0) (.slice none 0 0) (.slice none 0 0) (.slice none 0 0) (.slice none 0 0)) := ⟨by kernel_rfl⟩
set_option maxRecDepth 100000 in
instance : Places Try.prog 58 [(0, 1), (1, 1), (2, 1), (3, 1), (4, 1), (5, 1)] (c_tabulariumref21_Ring (.pointer none) (.slice none 0 0) (.slice none 0 0) (.slice none 0 0) (.slice none 0 0) (.slice none 0 0)) := ⟨fun parts => by kernel_rfl⟩
instance : Siz Try.prog 59 6 := ⟨by kernel_rfl⟩
instance : Agg Try.prog 59 := ⟨_, Try.underlying59, rfl⟩
set_option maxRecDepth 100000 in
instance : Zer Try.prog 59 (c_tabulariumref21_Ring (.pointer none) (.slice none 0 0) (.slice none 0 0) (.slice none 0 0) (.slice none 0 0) (.slice none 0 0)) := ⟨.agg (c_tabulariumref21_Ring (.pointer none) (.slice none 0 0) (.slice none 0 0) (.slice none 0 0) (.slice none 0 0) (.slice none 0 0)).toArray, by kernel_rfl, rfl⟩
set_option maxRecDepth 100000 in
instance : Blt0 Try.prog 59 (c_tabulariumref21_Ring (.pointer none) (.slice none 0 0) (.slice none 0 0) (.slice none 0 0) (.slice none 0 0) (.slice none 0 0)) := ⟨by kernel_rfl⟩
set_option maxRecDepth 100000 in
instance : Places Try.prog 59 [(0, 1), (1, 1), (2, 1), (3, 1), (4, 1), (5, 1)] (c_tabulariumref21_Ring (.pointer none) (.slice none 0 0) (.slice none 0 0) (.slice none 0 0) (.slice none 0 0) (.slice none 0 0)) := ⟨fun parts => by kernel_rfl⟩
instance : Siz Try.prog 60 35 := ⟨by kernel_rfl⟩
instance : Agg Try.prog 60 := ⟨_, Try.underlying60, rfl⟩
set_option maxRecDepth 100000 in
instance : Zer Try.prog 60 (c_tabulariumref21_Realm (.int .u32 0) (.int .u32 0) (u8s (zeros 32)) (.slice none 0 0)) := ⟨.agg (c_tabulariumref21_Realm (.int .u32 0) (.int .u32 0) (u8s (zeros 32)) (.slice none 0 0)).toArray, by kernel_rfl, rfl⟩
set_option maxRecDepth 100000 in
instance : Blt0 Try.prog 60 (c_tabulariumref21_Realm (.int .u32 0) (.int .u32 0) (u8s (zeros 32)) (.slice none 0 0)) := ⟨by kernel_rfl⟩
set_option maxRecDepth 100000 in
instance : Places Try.prog 60 [(0, 1), (1, 1), (2, 32), (34, 1)] (c_tabulariumref21_Realm (.int .u32 0) (.int .u32 0) (u8s (zeros 32)) (.slice none 0 0)) := ⟨fun parts => by kernel_rfl⟩
instance : Siz Try.prog 61 35 := ⟨by kernel_rfl⟩
instance : Agg Try.prog 61 := ⟨_, Try.underlying61, rfl⟩
set_option maxRecDepth 100000 in
instance : Zer Try.prog 61 (c_tabulariumref21_Realm (.int .u32 0) (.int .u32 0) (u8s (zeros 32)) (.slice none 0 0)) := ⟨.agg (c_tabulariumref21_Realm (.int .u32 0) (.int .u32 0) (u8s (zeros 32)) (.slice none 0 0)).toArray, by kernel_rfl, rfl⟩
set_option maxRecDepth 100000 in
instance : Blt0 Try.prog 61 (c_tabulariumref21_Realm (.int .u32 0) (.int .u32 0) (u8s (zeros 32)) (.slice none 0 0)) := ⟨by kernel_rfl⟩
set_option maxRecDepth 100000 in
instance : Places Try.prog 61 [(0, 1), (1, 1), (2, 32), (34, 1)] (c_tabulariumref21_Realm (.int .u32 0) (.int .u32 0) (u8s (zeros 32)) (.slice none 0 0)) := ⟨fun parts => by kernel_rfl⟩
instance : One Try.prog 62 := ⟨⟨_, Try.underlying62, rfl⟩, by kernel_rfl⟩
instance : Siz Try.prog 62 1 := ⟨by kernel_rfl⟩
set_option maxRecDepth 100000 in
instance : Zer Try.prog 62 [.nilFunc] := ⟨.nilFunc, by kernel_rfl, rfl⟩
instance : One Try.prog 63 := ⟨⟨_, Try.underlying63, rfl⟩, by kernel_rfl⟩
instance : Siz Try.prog 63 1 := ⟨by kernel_rfl⟩
set_option maxRecDepth 100000 in
instance : Zer Try.prog 63 [.nilFunc] := ⟨.nilFunc, by kernel_rfl, rfl⟩
instance : One Try.prog 64 := ⟨⟨_, Try.underlying64, rfl⟩, by kernel_rfl⟩
instance : Siz Try.prog 64 1 := ⟨by kernel_rfl⟩
set_option maxRecDepth 100000 in
instance : Zer Try.prog 64 [.nilFunc] := ⟨.nilFunc, by kernel_rfl, rfl⟩
instance : One Try.prog 65 := ⟨⟨_, Try.underlying65, rfl⟩, by kernel_rfl⟩
instance : Siz Try.prog 65 1 := ⟨by kernel_rfl⟩
set_option maxRecDepth 100000 in
instance : Zer Try.prog 65 [.nilFunc] := ⟨.nilFunc, by kernel_rfl, rfl⟩
instance : Siz Try.prog 66 3 := ⟨by kernel_rfl⟩
instance : Agg Try.prog 66 := ⟨_, Try.underlying66, rfl⟩
set_option maxRecDepth 100000 in
instance : Zer Try.prog 66 (c_tabulariumref21_Seen (.int .u32 0) (.int .u32 0) (.int .u32 0)) := ⟨.agg (c_tabulariumref21_Seen (.int .u32 0) (.int .u32 0) (.int .u32 0)).toArray, by kernel_rfl, rfl⟩
set_option maxRecDepth 100000 in
instance : Blt0 Try.prog 66 (c_tabulariumref21_Seen (.int .u32 0) (.int .u32 0) (.int .u32 0)) := ⟨by kernel_rfl⟩
set_option maxRecDepth 100000 in
instance : Places Try.prog 66 [(0, 1), (1, 1), (2, 1)] (c_tabulariumref21_Seen (.int .u32 0) (.int .u32 0) (.int .u32 0)) := ⟨fun parts => by kernel_rfl⟩
instance : Siz Try.prog 67 3 := ⟨by kernel_rfl⟩
instance : Agg Try.prog 67 := ⟨_, Try.underlying67, rfl⟩
set_option maxRecDepth 100000 in
instance : Zer Try.prog 67 (c_tabulariumref21_Seen (.int .u32 0) (.int .u32 0) (.int .u32 0)) := ⟨.agg (c_tabulariumref21_Seen (.int .u32 0) (.int .u32 0) (.int .u32 0)).toArray, by kernel_rfl, rfl⟩
set_option maxRecDepth 100000 in
instance : Blt0 Try.prog 67 (c_tabulariumref21_Seen (.int .u32 0) (.int .u32 0) (.int .u32 0)) := ⟨by kernel_rfl⟩
set_option maxRecDepth 100000 in
instance : Places Try.prog 67 [(0, 1), (1, 1), (2, 1)] (c_tabulariumref21_Seen (.int .u32 0) (.int .u32 0) (.int .u32 0)) := ⟨fun parts => by kernel_rfl⟩
instance : One Try.prog 68 := ⟨⟨_, Try.underlying68, rfl⟩, by kernel_rfl⟩
instance : Siz Try.prog 68 1 := ⟨by kernel_rfl⟩
set_option maxRecDepth 100000 in
instance : Zer Try.prog 68 [.nilFunc] := ⟨.nilFunc, by kernel_rfl, rfl⟩
instance : One Try.prog 69 := ⟨⟨_, Try.underlying69, rfl⟩, by kernel_rfl⟩
instance : Siz Try.prog 69 1 := ⟨by kernel_rfl⟩
set_option maxRecDepth 100000 in
instance : Zer Try.prog 69 [.slice none 0 0] := ⟨(.slice none 0 0), by kernel_rfl, rfl⟩
instance : Elm Try.prog 69 102 2 16 := elm_mk (z := .agg (c_api_Fate (.int .i64 0) (.int .i64 0)).toArray) Try.underlying69 (by kernel_rfl) (by kernel_rfl) (by decide)
instance : One Try.prog 70 := ⟨⟨_, Try.underlying70, rfl⟩, by kernel_rfl⟩
instance : Siz Try.prog 70 1 := ⟨by kernel_rfl⟩
set_option maxRecDepth 100000 in
instance : Zer Try.prog 70 [.slice none 0 0] := ⟨(.slice none 0 0), by kernel_rfl, rfl⟩
instance : Elm Try.prog 70 78 1 24 := elm_mk (z := (.slice none 0 0)) Try.underlying70 (by kernel_rfl) (by kernel_rfl) (by decide)
instance : One Try.prog 71 := ⟨⟨_, Try.underlying71, rfl⟩, by kernel_rfl⟩
instance : Siz Try.prog 71 1 := ⟨by kernel_rfl⟩
set_option maxRecDepth 100000 in
instance : Zer Try.prog 71 [.slice none 0 0] := ⟨(.slice none 0 0), by kernel_rfl, rfl⟩
instance : Elm Try.prog 71 4 1 1 := elm_mk (z := (.bool false)) Try.underlying71 (by kernel_rfl) (by kernel_rfl) (by decide)
instance : One Try.prog 72 := ⟨⟨_, Try.underlying72, rfl⟩, by kernel_rfl⟩
instance : Siz Try.prog 72 1 := ⟨by kernel_rfl⟩
set_option maxRecDepth 100000 in
instance : Zer Try.prog 72 [.pointer none] := ⟨(.pointer none), by kernel_rfl, rfl⟩
instance : One Try.prog 73 := ⟨⟨_, Try.underlying73, rfl⟩, by kernel_rfl⟩
instance : Siz Try.prog 73 1 := ⟨by kernel_rfl⟩
set_option maxRecDepth 100000 in
instance : Zer Try.prog 73 [.nilFunc] := ⟨.nilFunc, by kernel_rfl, rfl⟩
instance : One Try.prog 74 := ⟨⟨_, Try.underlying74, rfl⟩, by kernel_rfl⟩
instance : Siz Try.prog 74 1 := ⟨by kernel_rfl⟩
set_option maxRecDepth 100000 in
instance : Zer Try.prog 74 [.pointer none] := ⟨(.pointer none), by kernel_rfl, rfl⟩
instance : One Try.prog 75 := ⟨⟨_, Try.underlying75, rfl⟩, by kernel_rfl⟩
instance : Siz Try.prog 75 1 := ⟨by kernel_rfl⟩
set_option maxRecDepth 100000 in
instance : Zer Try.prog 75 [.slice none 0 0] := ⟨(.slice none 0 0), by kernel_rfl, rfl⟩
instance : Elm Try.prog 75 113 2 32 := elm_mk (z := .agg (c_tabulariumref18_message (.slice none 0 0) (.int .i64 0)).toArray) Try.underlying75 (by kernel_rfl) (by kernel_rfl) (by decide)
instance : Siz Try.prog 76 3 := ⟨by kernel_rfl⟩
instance : Agg Try.prog 76 := ⟨_, Try.underlying76, rfl⟩
set_option maxRecDepth 100000 in
instance : Zer Try.prog 76 (c_tabulariumref18_Link (.slice none 0 0) (.int .i64 0) (.slice none 0 0)) := ⟨.agg (c_tabulariumref18_Link (.slice none 0 0) (.int .i64 0) (.slice none 0 0)).toArray, by kernel_rfl, rfl⟩
set_option maxRecDepth 100000 in
instance : Blt0 Try.prog 76 (c_tabulariumref18_Link (.slice none 0 0) (.int .i64 0) (.slice none 0 0)) := ⟨by kernel_rfl⟩
set_option maxRecDepth 100000 in
instance : Places Try.prog 76 [(0, 1), (1, 1), (2, 1)] (c_tabulariumref18_Link (.slice none 0 0) (.int .i64 0) (.slice none 0 0)) := ⟨fun parts => by kernel_rfl⟩
instance : Siz Try.prog 77 3 := ⟨by kernel_rfl⟩
instance : Agg Try.prog 77 := ⟨_, Try.underlying77, rfl⟩
set_option maxRecDepth 100000 in
instance : Zer Try.prog 77 (c_tabulariumref18_Link (.slice none 0 0) (.int .i64 0) (.slice none 0 0)) := ⟨.agg (c_tabulariumref18_Link (.slice none 0 0) (.int .i64 0) (.slice none 0 0)).toArray, by kernel_rfl, rfl⟩
set_option maxRecDepth 100000 in
instance : Blt0 Try.prog 77 (c_tabulariumref18_Link (.slice none 0 0) (.int .i64 0) (.slice none 0 0)) := ⟨by kernel_rfl⟩
set_option maxRecDepth 100000 in
instance : Places Try.prog 77 [(0, 1), (1, 1), (2, 1)] (c_tabulariumref18_Link (.slice none 0 0) (.int .i64 0) (.slice none 0 0)) := ⟨fun parts => by kernel_rfl⟩
instance : One Try.prog 78 := ⟨⟨_, Try.underlying78, rfl⟩, by kernel_rfl⟩
instance : Siz Try.prog 78 1 := ⟨by kernel_rfl⟩
set_option maxRecDepth 100000 in
instance : Zer Try.prog 78 [.slice none 0 0] := ⟨(.slice none 0 0), by kernel_rfl, rfl⟩
instance : Elm Try.prog 78 5 1 1 := elm_mk (z := (.int .u8 0)) Try.underlying78 (by kernel_rfl) (by kernel_rfl) (by decide)
instance : One Try.prog 79 := ⟨⟨_, Try.underlying79, rfl⟩, by kernel_rfl⟩
instance : Siz Try.prog 79 1 := ⟨by kernel_rfl⟩
set_option maxRecDepth 100000 in
instance : Zer Try.prog 79 [.nilFunc] := ⟨.nilFunc, by kernel_rfl, rfl⟩
instance : One Try.prog 81 := ⟨⟨_, Try.underlying81, rfl⟩, by kernel_rfl⟩
instance : Siz Try.prog 81 1 := ⟨by kernel_rfl⟩
set_option maxRecDepth 100000 in
instance : Zer Try.prog 81 [.nilFunc] := ⟨.nilFunc, by kernel_rfl, rfl⟩
instance : One Try.prog 82 := ⟨⟨_, Try.underlying82, rfl⟩, by kernel_rfl⟩
instance : Siz Try.prog 82 1 := ⟨by kernel_rfl⟩
set_option maxRecDepth 100000 in
instance : Zer Try.prog 82 [.nilFunc] := ⟨.nilFunc, by kernel_rfl, rfl⟩
instance : One Try.prog 83 := ⟨⟨_, Try.underlying83, rfl⟩, by kernel_rfl⟩
instance : Siz Try.prog 83 1 := ⟨by kernel_rfl⟩
set_option maxRecDepth 100000 in
instance : Zer Try.prog 83 [.nilFunc] := ⟨.nilFunc, by kernel_rfl, rfl⟩
instance : One Try.prog 84 := ⟨⟨_, Try.underlying84, rfl⟩, by kernel_rfl⟩
instance : Siz Try.prog 84 1 := ⟨by kernel_rfl⟩
set_option maxRecDepth 100000 in
instance : Zer Try.prog 84 [.slice none 0 0] := ⟨(.slice none 0 0), by kernel_rfl, rfl⟩
instance : Elm Try.prog 84 107 2 32 := elm_mk (z := .agg (c_lossy_message (.slice none 0 0) (.int .i64 0)).toArray) Try.underlying84 (by kernel_rfl) (by kernel_rfl) (by decide)
instance : Siz Try.prog 85 4 := ⟨by kernel_rfl⟩
instance : Agg Try.prog 85 := ⟨_, Try.underlying85, rfl⟩
set_option maxRecDepth 100000 in
instance : Zer Try.prog 85 (c_lossy_Link (.slice none 0 0) (.int .i64 0) (.slice none 0 0) (.bool false)) := ⟨.agg (c_lossy_Link (.slice none 0 0) (.int .i64 0) (.slice none 0 0) (.bool false)).toArray, by kernel_rfl, rfl⟩
set_option maxRecDepth 100000 in
instance : Blt0 Try.prog 85 (c_lossy_Link (.slice none 0 0) (.int .i64 0) (.slice none 0 0) (.bool false)) := ⟨by kernel_rfl⟩
set_option maxRecDepth 100000 in
instance : Places Try.prog 85 [(0, 1), (1, 1), (2, 1), (3, 1)] (c_lossy_Link (.slice none 0 0) (.int .i64 0) (.slice none 0 0) (.bool false)) := ⟨fun parts => by kernel_rfl⟩
instance : Siz Try.prog 86 4 := ⟨by kernel_rfl⟩
instance : Agg Try.prog 86 := ⟨_, Try.underlying86, rfl⟩
set_option maxRecDepth 100000 in
instance : Zer Try.prog 86 (c_lossy_Link (.slice none 0 0) (.int .i64 0) (.slice none 0 0) (.bool false)) := ⟨.agg (c_lossy_Link (.slice none 0 0) (.int .i64 0) (.slice none 0 0) (.bool false)).toArray, by kernel_rfl, rfl⟩
set_option maxRecDepth 100000 in
instance : Blt0 Try.prog 86 (c_lossy_Link (.slice none 0 0) (.int .i64 0) (.slice none 0 0) (.bool false)) := ⟨by kernel_rfl⟩
set_option maxRecDepth 100000 in
instance : Places Try.prog 86 [(0, 1), (1, 1), (2, 1), (3, 1)] (c_lossy_Link (.slice none 0 0) (.int .i64 0) (.slice none 0 0) (.bool false)) := ⟨fun parts => by kernel_rfl⟩
instance : One Try.prog 87 := ⟨⟨_, Try.underlying87, rfl⟩, by kernel_rfl⟩
instance : Siz Try.prog 87 1 := ⟨by kernel_rfl⟩
set_option maxRecDepth 100000 in
instance : Zer Try.prog 87 [.nilFunc] := ⟨.nilFunc, by kernel_rfl, rfl⟩
instance : One Try.prog 88 := ⟨⟨_, Try.underlying88, rfl⟩, by kernel_rfl⟩
instance : Siz Try.prog 88 1 := ⟨by kernel_rfl⟩
set_option maxRecDepth 100000 in
instance : Zer Try.prog 88 [.nilFunc] := ⟨.nilFunc, by kernel_rfl, rfl⟩
instance : One Try.prog 89 := ⟨⟨_, Try.underlying89, rfl⟩, by kernel_rfl⟩
instance : Siz Try.prog 89 1 := ⟨by kernel_rfl⟩
set_option maxRecDepth 100000 in
instance : Zer Try.prog 89 [.nilFunc] := ⟨.nilFunc, by kernel_rfl, rfl⟩
instance : One Try.prog 90 := ⟨⟨_, Try.underlying90, rfl⟩, by kernel_rfl⟩
instance : Siz Try.prog 90 1 := ⟨by kernel_rfl⟩
set_option maxRecDepth 100000 in
instance : Zer Try.prog 90 [.nilFunc] := ⟨.nilFunc, by kernel_rfl, rfl⟩
instance : One Try.prog 91 := ⟨⟨_, Try.underlying91, rfl⟩, by kernel_rfl⟩
instance : Siz Try.prog 91 1 := ⟨by kernel_rfl⟩
set_option maxRecDepth 100000 in
instance : Zer Try.prog 91 [.nilFunc] := ⟨.nilFunc, by kernel_rfl, rfl⟩
instance : One Try.prog 92 := ⟨⟨_, Try.underlying92, rfl⟩, by kernel_rfl⟩
instance : Siz Try.prog 92 1 := ⟨by kernel_rfl⟩
set_option maxRecDepth 100000 in
instance : Zer Try.prog 92 [.nilFunc] := ⟨.nilFunc, by kernel_rfl, rfl⟩
instance : One Try.prog 93 := ⟨⟨_, Try.underlying93, rfl⟩, by kernel_rfl⟩
instance : Siz Try.prog 93 1 := ⟨by kernel_rfl⟩
set_option maxRecDepth 100000 in
instance : Zer Try.prog 93 [.nilFunc] := ⟨.nilFunc, by kernel_rfl, rfl⟩
instance : Siz Try.prog 94 2 := ⟨by kernel_rfl⟩
instance : Agg Try.prog 94 := ⟨_, Try.underlying94, rfl⟩
set_option maxRecDepth 100000 in
instance : Zer Try.prog 94 (c_acl_edge (.int .u32 0) (.int .u32 0)) := ⟨.agg (c_acl_edge (.int .u32 0) (.int .u32 0)).toArray, by kernel_rfl, rfl⟩
set_option maxRecDepth 100000 in
instance : Blt0 Try.prog 94 (c_acl_edge (.int .u32 0) (.int .u32 0)) := ⟨by kernel_rfl⟩
set_option maxRecDepth 100000 in
instance : Places Try.prog 94 [(0, 1), (1, 1)] (c_acl_edge (.int .u32 0) (.int .u32 0)) := ⟨fun parts => by kernel_rfl⟩
instance : Siz Try.prog 95 2 := ⟨by kernel_rfl⟩
instance : Agg Try.prog 95 := ⟨_, Try.underlying95, rfl⟩
set_option maxRecDepth 100000 in
instance : Zer Try.prog 95 (c_acl_edge (.int .u32 0) (.int .u32 0)) := ⟨.agg (c_acl_edge (.int .u32 0) (.int .u32 0)).toArray, by kernel_rfl, rfl⟩
set_option maxRecDepth 100000 in
instance : Blt0 Try.prog 95 (c_acl_edge (.int .u32 0) (.int .u32 0)) := ⟨by kernel_rfl⟩
set_option maxRecDepth 100000 in
instance : Places Try.prog 95 [(0, 1), (1, 1)] (c_acl_edge (.int .u32 0) (.int .u32 0)) := ⟨fun parts => by kernel_rfl⟩
instance : Siz Try.prog 96 2 := ⟨by kernel_rfl⟩
instance : Agg Try.prog 96 := ⟨_, Try.underlying96, rfl⟩
set_option maxRecDepth 100000 in
instance : Zer Try.prog 96 (c_acl_span (.int .u32 0) (.int .u32 0)) := ⟨.agg (c_acl_span (.int .u32 0) (.int .u32 0)).toArray, by kernel_rfl, rfl⟩
set_option maxRecDepth 100000 in
instance : Blt0 Try.prog 96 (c_acl_span (.int .u32 0) (.int .u32 0)) := ⟨by kernel_rfl⟩
set_option maxRecDepth 100000 in
instance : Places Try.prog 96 [(0, 1), (1, 1)] (c_acl_span (.int .u32 0) (.int .u32 0)) := ⟨fun parts => by kernel_rfl⟩
instance : Siz Try.prog 97 2 := ⟨by kernel_rfl⟩
instance : Agg Try.prog 97 := ⟨_, Try.underlying97, rfl⟩
set_option maxRecDepth 100000 in
instance : Zer Try.prog 97 (c_acl_span (.int .u32 0) (.int .u32 0)) := ⟨.agg (c_acl_span (.int .u32 0) (.int .u32 0)).toArray, by kernel_rfl, rfl⟩
set_option maxRecDepth 100000 in
instance : Blt0 Try.prog 97 (c_acl_span (.int .u32 0) (.int .u32 0)) := ⟨by kernel_rfl⟩
set_option maxRecDepth 100000 in
instance : Places Try.prog 97 [(0, 1), (1, 1)] (c_acl_span (.int .u32 0) (.int .u32 0)) := ⟨fun parts => by kernel_rfl⟩
instance : One Try.prog 98 := ⟨⟨_, Try.underlying98, rfl⟩, by kernel_rfl⟩
instance : Siz Try.prog 98 1 := ⟨by kernel_rfl⟩
set_option maxRecDepth 100000 in
instance : Zer Try.prog 98 [.nilFunc] := ⟨.nilFunc, by kernel_rfl, rfl⟩
instance : One Try.prog 99 := ⟨⟨_, Try.underlying99, rfl⟩, by kernel_rfl⟩
instance : Siz Try.prog 99 1 := ⟨by kernel_rfl⟩
set_option maxRecDepth 100000 in
instance : Zer Try.prog 99 [.nilFunc] := ⟨.nilFunc, by kernel_rfl, rfl⟩
instance : One Try.prog 100 := ⟨⟨_, Try.underlying100, rfl⟩, by kernel_rfl⟩
instance : Siz Try.prog 100 1 := ⟨by kernel_rfl⟩
set_option maxRecDepth 100000 in
instance : Zer Try.prog 100 [.nilFunc] := ⟨.nilFunc, by kernel_rfl, rfl⟩
instance : Siz Try.prog 101 2 := ⟨by kernel_rfl⟩
instance : Agg Try.prog 101 := ⟨_, Try.underlying101, rfl⟩
set_option maxRecDepth 100000 in
instance : Zer Try.prog 101 (c_api_Fate (.int .i64 0) (.int .i64 0)) := ⟨.agg (c_api_Fate (.int .i64 0) (.int .i64 0)).toArray, by kernel_rfl, rfl⟩
set_option maxRecDepth 100000 in
instance : Blt0 Try.prog 101 (c_api_Fate (.int .i64 0) (.int .i64 0)) := ⟨by kernel_rfl⟩
set_option maxRecDepth 100000 in
instance : Places Try.prog 101 [(0, 1), (1, 1)] (c_api_Fate (.int .i64 0) (.int .i64 0)) := ⟨fun parts => by kernel_rfl⟩
instance : Siz Try.prog 102 2 := ⟨by kernel_rfl⟩
instance : Agg Try.prog 102 := ⟨_, Try.underlying102, rfl⟩
set_option maxRecDepth 100000 in
instance : Zer Try.prog 102 (c_api_Fate (.int .i64 0) (.int .i64 0)) := ⟨.agg (c_api_Fate (.int .i64 0) (.int .i64 0)).toArray, by kernel_rfl, rfl⟩
set_option maxRecDepth 100000 in
instance : Blt0 Try.prog 102 (c_api_Fate (.int .i64 0) (.int .i64 0)) := ⟨by kernel_rfl⟩
set_option maxRecDepth 100000 in
instance : Places Try.prog 102 [(0, 1), (1, 1)] (c_api_Fate (.int .i64 0) (.int .i64 0)) := ⟨fun parts => by kernel_rfl⟩
instance : One Try.prog 103 := ⟨⟨_, Try.underlying103, rfl⟩, by kernel_rfl⟩
instance : Siz Try.prog 103 1 := ⟨by kernel_rfl⟩
set_option maxRecDepth 100000 in
instance : Zer Try.prog 103 [.nilFunc] := ⟨.nilFunc, by kernel_rfl, rfl⟩
instance : One Try.prog 104 := ⟨⟨_, Try.underlying104, rfl⟩, by kernel_rfl⟩
instance : Siz Try.prog 104 1 := ⟨by kernel_rfl⟩
set_option maxRecDepth 100000 in
instance : Zer Try.prog 104 [.nilFunc] := ⟨.nilFunc, by kernel_rfl, rfl⟩
instance : One Try.prog 105 := ⟨⟨_, Try.underlying105, rfl⟩, by kernel_rfl⟩
instance : Siz Try.prog 105 1 := ⟨by kernel_rfl⟩
set_option maxRecDepth 100000 in
instance : Zer Try.prog 105 [.nilFunc] := ⟨.nilFunc, by kernel_rfl, rfl⟩
instance : Siz Try.prog 106 2 := ⟨by kernel_rfl⟩
instance : Agg Try.prog 106 := ⟨_, Try.underlying106, rfl⟩
set_option maxRecDepth 100000 in
instance : Zer Try.prog 106 (c_lossy_message (.slice none 0 0) (.int .i64 0)) := ⟨.agg (c_lossy_message (.slice none 0 0) (.int .i64 0)).toArray, by kernel_rfl, rfl⟩
set_option maxRecDepth 100000 in
instance : Blt0 Try.prog 106 (c_lossy_message (.slice none 0 0) (.int .i64 0)) := ⟨by kernel_rfl⟩
set_option maxRecDepth 100000 in
instance : Places Try.prog 106 [(0, 1), (1, 1)] (c_lossy_message (.slice none 0 0) (.int .i64 0)) := ⟨fun parts => by kernel_rfl⟩
instance : Siz Try.prog 107 2 := ⟨by kernel_rfl⟩
instance : Agg Try.prog 107 := ⟨_, Try.underlying107, rfl⟩
set_option maxRecDepth 100000 in
instance : Zer Try.prog 107 (c_lossy_message (.slice none 0 0) (.int .i64 0)) := ⟨.agg (c_lossy_message (.slice none 0 0) (.int .i64 0)).toArray, by kernel_rfl, rfl⟩
set_option maxRecDepth 100000 in
instance : Blt0 Try.prog 107 (c_lossy_message (.slice none 0 0) (.int .i64 0)) := ⟨by kernel_rfl⟩
set_option maxRecDepth 100000 in
instance : Places Try.prog 107 [(0, 1), (1, 1)] (c_lossy_message (.slice none 0 0) (.int .i64 0)) := ⟨fun parts => by kernel_rfl⟩
instance : One Try.prog 108 := ⟨⟨_, Try.underlying108, rfl⟩, by kernel_rfl⟩
instance : Siz Try.prog 108 1 := ⟨by kernel_rfl⟩
set_option maxRecDepth 100000 in
instance : Zer Try.prog 108 [.nilFunc] := ⟨.nilFunc, by kernel_rfl, rfl⟩
instance : One Try.prog 109 := ⟨⟨_, Try.underlying109, rfl⟩, by kernel_rfl⟩
instance : Siz Try.prog 109 1 := ⟨by kernel_rfl⟩
set_option maxRecDepth 100000 in
instance : Zer Try.prog 109 [.nilFunc] := ⟨.nilFunc, by kernel_rfl, rfl⟩
instance : One Try.prog 110 := ⟨⟨_, Try.underlying110, rfl⟩, by kernel_rfl⟩
instance : Siz Try.prog 110 1 := ⟨by kernel_rfl⟩
set_option maxRecDepth 100000 in
instance : Zer Try.prog 110 [.nilFunc] := ⟨.nilFunc, by kernel_rfl, rfl⟩
instance : One Try.prog 111 := ⟨⟨_, Try.underlying111, rfl⟩, by kernel_rfl⟩
instance : Siz Try.prog 111 1 := ⟨by kernel_rfl⟩
set_option maxRecDepth 100000 in
instance : Zer Try.prog 111 [.nilFunc] := ⟨.nilFunc, by kernel_rfl, rfl⟩
instance : Siz Try.prog 112 2 := ⟨by kernel_rfl⟩
instance : Agg Try.prog 112 := ⟨_, Try.underlying112, rfl⟩
set_option maxRecDepth 100000 in
instance : Zer Try.prog 112 (c_tabulariumref18_message (.slice none 0 0) (.int .i64 0)) := ⟨.agg (c_tabulariumref18_message (.slice none 0 0) (.int .i64 0)).toArray, by kernel_rfl, rfl⟩
set_option maxRecDepth 100000 in
instance : Blt0 Try.prog 112 (c_tabulariumref18_message (.slice none 0 0) (.int .i64 0)) := ⟨by kernel_rfl⟩
set_option maxRecDepth 100000 in
instance : Places Try.prog 112 [(0, 1), (1, 1)] (c_tabulariumref18_message (.slice none 0 0) (.int .i64 0)) := ⟨fun parts => by kernel_rfl⟩
instance : Siz Try.prog 113 2 := ⟨by kernel_rfl⟩
instance : Agg Try.prog 113 := ⟨_, Try.underlying113, rfl⟩
set_option maxRecDepth 100000 in
instance : Zer Try.prog 113 (c_tabulariumref18_message (.slice none 0 0) (.int .i64 0)) := ⟨.agg (c_tabulariumref18_message (.slice none 0 0) (.int .i64 0)).toArray, by kernel_rfl, rfl⟩
set_option maxRecDepth 100000 in
instance : Blt0 Try.prog 113 (c_tabulariumref18_message (.slice none 0 0) (.int .i64 0)) := ⟨by kernel_rfl⟩
set_option maxRecDepth 100000 in
instance : Places Try.prog 113 [(0, 1), (1, 1)] (c_tabulariumref18_message (.slice none 0 0) (.int .i64 0)) := ⟨fun parts => by kernel_rfl⟩
instance : One Try.prog 114 := ⟨⟨_, Try.underlying114, rfl⟩, by kernel_rfl⟩
instance : Siz Try.prog 114 1 := ⟨by kernel_rfl⟩
set_option maxRecDepth 100000 in
instance : Zer Try.prog 114 [.nilFunc] := ⟨.nilFunc, by kernel_rfl, rfl⟩
instance : One Try.prog 115 := ⟨⟨_, Try.underlying115, rfl⟩, by kernel_rfl⟩
instance : Siz Try.prog 115 1 := ⟨by kernel_rfl⟩
set_option maxRecDepth 100000 in
instance : Zer Try.prog 115 [.nilFunc] := ⟨.nilFunc, by kernel_rfl, rfl⟩
instance : One Try.prog 116 := ⟨⟨_, Try.underlying116, rfl⟩, by kernel_rfl⟩
instance : Siz Try.prog 116 1 := ⟨by kernel_rfl⟩
set_option maxRecDepth 100000 in
instance : Zer Try.prog 116 [.nilFunc] := ⟨.nilFunc, by kernel_rfl, rfl⟩
instance : One Try.prog 117 := ⟨⟨_, Try.underlying117, rfl⟩, by kernel_rfl⟩
instance : Siz Try.prog 117 1 := ⟨by kernel_rfl⟩
set_option maxRecDepth 100000 in
instance : Zer Try.prog 117 [.nilFunc] := ⟨.nilFunc, by kernel_rfl, rfl⟩
instance : One Try.prog 118 := ⟨⟨_, Try.underlying118, rfl⟩, by kernel_rfl⟩
instance : Siz Try.prog 118 1 := ⟨by kernel_rfl⟩
set_option maxRecDepth 100000 in
instance : Zer Try.prog 118 [.nilFunc] := ⟨.nilFunc, by kernel_rfl, rfl⟩
instance : One Try.prog 119 := ⟨⟨_, Try.underlying119, rfl⟩, by kernel_rfl⟩
instance : Siz Try.prog 119 1 := ⟨by kernel_rfl⟩
set_option maxRecDepth 100000 in
instance : Zer Try.prog 119 [.nilFunc] := ⟨.nilFunc, by kernel_rfl, rfl⟩
instance : One Try.prog 121 := ⟨⟨_, Try.underlying121, rfl⟩, by kernel_rfl⟩
instance : Siz Try.prog 121 1 := ⟨by kernel_rfl⟩
set_option maxRecDepth 100000 in
instance : Zer Try.prog 121 [.nilFunc] := ⟨.nilFunc, by kernel_rfl, rfl⟩
instance : Siz Try.prog 122 33 := ⟨by kernel_rfl⟩
instance : Agg Try.prog 122 := ⟨_, Try.underlying122, rfl⟩
set_option maxRecDepth 100000 in
instance : Zer Try.prog 122 (c_tabulariumref21_Person (.int .u32 0) (u8s (zeros 32))) := ⟨.agg (c_tabulariumref21_Person (.int .u32 0) (u8s (zeros 32))).toArray, by kernel_rfl, rfl⟩
set_option maxRecDepth 100000 in
instance : Blt0 Try.prog 122 (c_tabulariumref21_Person (.int .u32 0) (u8s (zeros 32))) := ⟨by kernel_rfl⟩
set_option maxRecDepth 100000 in
instance : Places Try.prog 122 [(0, 1), (1, 32)] (c_tabulariumref21_Person (.int .u32 0) (u8s (zeros 32))) := ⟨fun parts => by kernel_rfl⟩
instance : Siz Try.prog 123 33 := ⟨by kernel_rfl⟩
instance : Agg Try.prog 123 := ⟨_, Try.underlying123, rfl⟩
set_option maxRecDepth 100000 in
instance : Zer Try.prog 123 (c_tabulariumref21_Person (.int .u32 0) (u8s (zeros 32))) := ⟨.agg (c_tabulariumref21_Person (.int .u32 0) (u8s (zeros 32))).toArray, by kernel_rfl, rfl⟩
set_option maxRecDepth 100000 in
instance : Blt0 Try.prog 123 (c_tabulariumref21_Person (.int .u32 0) (u8s (zeros 32))) := ⟨by kernel_rfl⟩
set_option maxRecDepth 100000 in
instance : Places Try.prog 123 [(0, 1), (1, 32)] (c_tabulariumref21_Person (.int .u32 0) (u8s (zeros 32))) := ⟨fun parts => by kernel_rfl⟩
instance : One Try.prog 124 := ⟨⟨_, Try.underlying124, rfl⟩, by kernel_rfl⟩
instance : Siz Try.prog 124 1 := ⟨by kernel_rfl⟩
set_option maxRecDepth 100000 in
instance : Zer Try.prog 124 [.nilFunc] := ⟨.nilFunc, by kernel_rfl, rfl⟩
instance : One Try.prog 125 := ⟨⟨_, Try.underlying125, rfl⟩, by kernel_rfl⟩
instance : Siz Try.prog 125 1 := ⟨by kernel_rfl⟩
set_option maxRecDepth 100000 in
instance : Zer Try.prog 125 [.nilFunc] := ⟨.nilFunc, by kernel_rfl, rfl⟩
instance : One Try.prog 126 := ⟨⟨_, Try.underlying126, rfl⟩, by kernel_rfl⟩
instance : Siz Try.prog 126 1 := ⟨by kernel_rfl⟩
set_option maxRecDepth 100000 in
instance : Zer Try.prog 126 [.nilFunc] := ⟨.nilFunc, by kernel_rfl, rfl⟩
instance : One Try.prog 127 := ⟨⟨_, Try.underlying127, rfl⟩, by kernel_rfl⟩
instance : Siz Try.prog 127 1 := ⟨by kernel_rfl⟩
set_option maxRecDepth 100000 in
instance : Zer Try.prog 127 [.nilFunc] := ⟨.nilFunc, by kernel_rfl, rfl⟩
instance : One Try.prog 128 := ⟨⟨_, Try.underlying128, rfl⟩, by kernel_rfl⟩
instance : Siz Try.prog 128 1 := ⟨by kernel_rfl⟩
set_option maxRecDepth 100000 in
instance : Zer Try.prog 128 [.nilFunc] := ⟨.nilFunc, by kernel_rfl, rfl⟩
instance : One Try.prog 129 := ⟨⟨_, Try.underlying129, rfl⟩, by kernel_rfl⟩
instance : Siz Try.prog 129 1 := ⟨by kernel_rfl⟩
set_option maxRecDepth 100000 in
instance : Zer Try.prog 129 [.nilFunc] := ⟨.nilFunc, by kernel_rfl, rfl⟩
instance : One Try.prog 130 := ⟨⟨_, Try.underlying130, rfl⟩, by kernel_rfl⟩
instance : Siz Try.prog 130 1 := ⟨by kernel_rfl⟩
set_option maxRecDepth 100000 in
instance : Zer Try.prog 130 [.nilFunc] := ⟨.nilFunc, by kernel_rfl, rfl⟩
instance : One Try.prog 131 := ⟨⟨_, Try.underlying131, rfl⟩, by kernel_rfl⟩
instance : Siz Try.prog 131 1 := ⟨by kernel_rfl⟩
set_option maxRecDepth 100000 in
instance : Zer Try.prog 131 [.nilFunc] := ⟨.nilFunc, by kernel_rfl, rfl⟩
instance : One Try.prog 132 := ⟨⟨_, Try.underlying132, rfl⟩, by kernel_rfl⟩
instance : Siz Try.prog 132 1 := ⟨by kernel_rfl⟩
set_option maxRecDepth 100000 in
instance : Zer Try.prog 132 [.nilFunc] := ⟨.nilFunc, by kernel_rfl, rfl⟩
instance : One Try.prog 133 := ⟨⟨_, Try.underlying133, rfl⟩, by kernel_rfl⟩
instance : Siz Try.prog 133 1 := ⟨by kernel_rfl⟩
set_option maxRecDepth 100000 in
instance : Zer Try.prog 133 [.int .u64 0] := ⟨(.int .u64 0), by kernel_rfl, rfl⟩
instance : One Try.prog 134 := ⟨⟨_, Try.underlying134, rfl⟩, by kernel_rfl⟩
instance : Siz Try.prog 134 1 := ⟨by kernel_rfl⟩
set_option maxRecDepth 100000 in
instance : Zer Try.prog 134 [.nilFunc] := ⟨.nilFunc, by kernel_rfl, rfl⟩
instance : One Try.prog 135 := ⟨⟨_, Try.underlying135, rfl⟩, by kernel_rfl⟩
instance : Siz Try.prog 135 1 := ⟨by kernel_rfl⟩
set_option maxRecDepth 100000 in
instance : Zer Try.prog 135 [.nilFunc] := ⟨.nilFunc, by kernel_rfl, rfl⟩
instance : Siz Try.prog 136 6 := ⟨by kernel_rfl⟩
instance : Agg Try.prog 136 := ⟨_, Try.underlying136, rfl⟩
set_option maxRecDepth 100000 in
instance : Zer Try.prog 136 (c_api_Box (.int .i64 0) (.int .u32 0) (.int .u32 0) (.int .u32 0) (.int .u32 0) (.slice none 0 0)) := ⟨.agg (c_api_Box (.int .i64 0) (.int .u32 0) (.int .u32 0) (.int .u32 0) (.int .u32 0) (.slice none 0 0)).toArray, by kernel_rfl, rfl⟩
set_option maxRecDepth 100000 in
instance : Blt0 Try.prog 136 (c_api_Box (.int .i64 0) (.int .u32 0) (.int .u32 0) (.int .u32 0) (.int .u32 0) (.slice none 0 0)) := ⟨by kernel_rfl⟩
set_option maxRecDepth 100000 in
instance : Places Try.prog 136 [(0, 1), (1, 1), (2, 1), (3, 1), (4, 1), (5, 1)] (c_api_Box (.int .i64 0) (.int .u32 0) (.int .u32 0) (.int .u32 0) (.int .u32 0) (.slice none 0 0)) := ⟨fun parts => by kernel_rfl⟩
instance : Siz Try.prog 137 6 := ⟨by kernel_rfl⟩
instance : Agg Try.prog 137 := ⟨_, Try.underlying137, rfl⟩
set_option maxRecDepth 100000 in
instance : Zer Try.prog 137 (c_api_Box (.int .i64 0) (.int .u32 0) (.int .u32 0) (.int .u32 0) (.int .u32 0) (.slice none 0 0)) := ⟨.agg (c_api_Box (.int .i64 0) (.int .u32 0) (.int .u32 0) (.int .u32 0) (.int .u32 0) (.slice none 0 0)).toArray, by kernel_rfl, rfl⟩
set_option maxRecDepth 100000 in
instance : Blt0 Try.prog 137 (c_api_Box (.int .i64 0) (.int .u32 0) (.int .u32 0) (.int .u32 0) (.int .u32 0) (.slice none 0 0)) := ⟨by kernel_rfl⟩
set_option maxRecDepth 100000 in
instance : Places Try.prog 137 [(0, 1), (1, 1), (2, 1), (3, 1), (4, 1), (5, 1)] (c_api_Box (.int .i64 0) (.int .u32 0) (.int .u32 0) (.int .u32 0) (.int .u32 0) (.slice none 0 0)) := ⟨fun parts => by kernel_rfl⟩
instance : One Try.prog 138 := ⟨⟨_, Try.underlying138, rfl⟩, by kernel_rfl⟩
instance : Siz Try.prog 138 1 := ⟨by kernel_rfl⟩
set_option maxRecDepth 100000 in
instance : Zer Try.prog 138 [.nilFunc] := ⟨.nilFunc, by kernel_rfl, rfl⟩
instance : One Try.prog 139 := ⟨⟨_, Try.underlying139, rfl⟩, by kernel_rfl⟩
instance : Siz Try.prog 139 1 := ⟨by kernel_rfl⟩
set_option maxRecDepth 100000 in
instance : Zer Try.prog 139 [.int .i64 0] := ⟨(.int .i64 0), by kernel_rfl, rfl⟩
instance : One Try.prog 141 := ⟨⟨_, Try.underlying141, rfl⟩, by kernel_rfl⟩
instance : Siz Try.prog 141 1 := ⟨by kernel_rfl⟩
set_option maxRecDepth 100000 in
instance : Zer Try.prog 141 [.nilFunc] := ⟨.nilFunc, by kernel_rfl, rfl⟩
instance : One Try.prog 142 := ⟨⟨_, Try.underlying142, rfl⟩, by kernel_rfl⟩
instance : Siz Try.prog 142 1 := ⟨by kernel_rfl⟩
set_option maxRecDepth 100000 in
instance : Zer Try.prog 142 [.nilFunc] := ⟨.nilFunc, by kernel_rfl, rfl⟩
instance : One Try.prog 143 := ⟨⟨_, Try.underlying143, rfl⟩, by kernel_rfl⟩
instance : Siz Try.prog 143 1 := ⟨by kernel_rfl⟩
set_option maxRecDepth 100000 in
instance : Zer Try.prog 143 [.nilFunc] := ⟨.nilFunc, by kernel_rfl, rfl⟩
instance : One Try.prog 145 := ⟨⟨_, Try.underlying145, rfl⟩, by kernel_rfl⟩
instance : Siz Try.prog 145 1 := ⟨by kernel_rfl⟩
set_option maxRecDepth 100000 in
instance : Zer Try.prog 145 [.nilFunc] := ⟨.nilFunc, by kernel_rfl, rfl⟩
instance : One Try.prog 146 := ⟨⟨_, Try.underlying146, rfl⟩, by kernel_rfl⟩
instance : Siz Try.prog 146 1 := ⟨by kernel_rfl⟩
set_option maxRecDepth 100000 in
instance : Zer Try.prog 146 [.nilFunc] := ⟨.nilFunc, by kernel_rfl, rfl⟩
instance : One Try.prog 147 := ⟨⟨_, Try.underlying147, rfl⟩, by kernel_rfl⟩
instance : Siz Try.prog 147 1 := ⟨by kernel_rfl⟩
set_option maxRecDepth 100000 in
instance : Zer Try.prog 147 [.int .u64 0] := ⟨(.int .u64 0), by kernel_rfl, rfl⟩
instance : One Try.prog 148 := ⟨⟨_, Try.underlying148, rfl⟩, by kernel_rfl⟩
instance : Siz Try.prog 148 1 := ⟨by kernel_rfl⟩
set_option maxRecDepth 100000 in
instance : Zer Try.prog 148 [.nilFunc] := ⟨.nilFunc, by kernel_rfl, rfl⟩
instance : One Try.prog 150 := ⟨⟨_, Try.underlying150, rfl⟩, by kernel_rfl⟩
instance : Siz Try.prog 150 1 := ⟨by kernel_rfl⟩
set_option maxRecDepth 100000 in
instance : Zer Try.prog 150 [.nilFunc] := ⟨.nilFunc, by kernel_rfl, rfl⟩
instance : One Try.prog 151 := ⟨⟨_, Try.underlying151, rfl⟩, by kernel_rfl⟩
instance : Siz Try.prog 151 1 := ⟨by kernel_rfl⟩
set_option maxRecDepth 100000 in
instance : Zer Try.prog 151 [.nilFunc] := ⟨.nilFunc, by kernel_rfl, rfl⟩
instance : One Try.prog 152 := ⟨⟨_, Try.underlying152, rfl⟩, by kernel_rfl⟩
instance : Siz Try.prog 152 1 := ⟨by kernel_rfl⟩
set_option maxRecDepth 100000 in
instance : Zer Try.prog 152 [.int .u64 0] := ⟨(.int .u64 0), by kernel_rfl, rfl⟩
instance : One Try.prog 153 := ⟨⟨_, Try.underlying153, rfl⟩, by kernel_rfl⟩
instance : Siz Try.prog 153 1 := ⟨by kernel_rfl⟩
set_option maxRecDepth 100000 in
instance : Zer Try.prog 153 [.nilFunc] := ⟨.nilFunc, by kernel_rfl, rfl⟩
instance : One Try.prog 154 := ⟨⟨_, Try.underlying154, rfl⟩, by kernel_rfl⟩
instance : Siz Try.prog 154 1 := ⟨by kernel_rfl⟩
set_option maxRecDepth 100000 in
instance : Zer Try.prog 154 [.nilFunc] := ⟨.nilFunc, by kernel_rfl, rfl⟩
instance : One Try.prog 155 := ⟨⟨_, Try.underlying155, rfl⟩, by kernel_rfl⟩
instance : Siz Try.prog 155 1 := ⟨by kernel_rfl⟩
set_option maxRecDepth 100000 in
instance : Zer Try.prog 155 [.nilFunc] := ⟨.nilFunc, by kernel_rfl, rfl⟩
instance : One Try.prog 156 := ⟨⟨_, Try.underlying156, rfl⟩, by kernel_rfl⟩
instance : Siz Try.prog 156 1 := ⟨by kernel_rfl⟩
set_option maxRecDepth 100000 in
instance : Zer Try.prog 156 [.pointer none] := ⟨(.pointer none), by kernel_rfl, rfl⟩
instance : One Try.prog 157 := ⟨⟨_, Try.underlying157, rfl⟩, by kernel_rfl⟩
instance : Siz Try.prog 157 1 := ⟨by kernel_rfl⟩
set_option maxRecDepth 100000 in
instance : Zer Try.prog 157 [.nilFunc] := ⟨.nilFunc, by kernel_rfl, rfl⟩
instance : One Try.prog 158 := ⟨⟨_, Try.underlying158, rfl⟩, by kernel_rfl⟩
instance : Siz Try.prog 158 1 := ⟨by kernel_rfl⟩
set_option maxRecDepth 100000 in
instance : Zer Try.prog 158 [.slice none 0 0] := ⟨(.slice none 0 0), by kernel_rfl, rfl⟩
instance : Elm Try.prog 158 177 36 112 := elm_mk (z := .agg (c_tabulariumref07_row (.int .i64 0) (u8s (zeros 32)) (.slice none 0 0) (.slice none 0 0) (.slice none 0 0)).toArray) Try.underlying158 (by kernel_rfl) (by kernel_rfl) (by decide)
instance : Siz Try.prog 159 6 := ⟨by kernel_rfl⟩
instance : Agg Try.prog 159 := ⟨_, Try.underlying159, rfl⟩
set_option maxRecDepth 100000 in
instance : Zer Try.prog 159 (c_tabulariumref07_Suite (.int .i64 0) (.slice none 0 0) (.slice none 0 0) (.slice none 0 0) (.slice none 0 0) (.bool false)) := ⟨.agg (c_tabulariumref07_Suite (.int .i64 0) (.slice none 0 0) (.slice none 0 0) (.slice none 0 0) (.slice none 0 0) (.bool false)).toArray, by kernel_rfl, rfl⟩
set_option maxRecDepth 100000 in
instance : Blt0 Try.prog 159 (c_tabulariumref07_Suite (.int .i64 0) (.slice none 0 0) (.slice none 0 0) (.slice none 0 0) (.slice none 0 0) (.bool false)) := ⟨by kernel_rfl⟩
set_option maxRecDepth 100000 in
instance : Places Try.prog 159 [(0, 1), (1, 1), (2, 1), (3, 1), (4, 1), (5, 1)] (c_tabulariumref07_Suite (.int .i64 0) (.slice none 0 0) (.slice none 0 0) (.slice none 0 0) (.slice none 0 0) (.bool false)) := ⟨fun parts => by kernel_rfl⟩
instance : Siz Try.prog 160 6 := ⟨by kernel_rfl⟩
instance : Agg Try.prog 160 := ⟨_, Try.underlying160, rfl⟩
set_option maxRecDepth 100000 in
instance : Zer Try.prog 160 (c_tabulariumref07_Suite (.int .i64 0) (.slice none 0 0) (.slice none 0 0) (.slice none 0 0) (.slice none 0 0) (.bool false)) := ⟨.agg (c_tabulariumref07_Suite (.int .i64 0) (.slice none 0 0) (.slice none 0 0) (.slice none 0 0) (.slice none 0 0) (.bool false)).toArray, by kernel_rfl, rfl⟩
set_option maxRecDepth 100000 in
instance : Blt0 Try.prog 160 (c_tabulariumref07_Suite (.int .i64 0) (.slice none 0 0) (.slice none 0 0) (.slice none 0 0) (.slice none 0 0) (.bool false)) := ⟨by kernel_rfl⟩
set_option maxRecDepth 100000 in
instance : Places Try.prog 160 [(0, 1), (1, 1), (2, 1), (3, 1), (4, 1), (5, 1)] (c_tabulariumref07_Suite (.int .i64 0) (.slice none 0 0) (.slice none 0 0) (.slice none 0 0) (.slice none 0 0) (.bool false)) := ⟨fun parts => by kernel_rfl⟩
instance : One Try.prog 161 := ⟨⟨_, Try.underlying161, rfl⟩, by kernel_rfl⟩
instance : Siz Try.prog 161 1 := ⟨by kernel_rfl⟩
set_option maxRecDepth 100000 in
instance : Zer Try.prog 161 [.nilFunc] := ⟨.nilFunc, by kernel_rfl, rfl⟩
instance : One Try.prog 162 := ⟨⟨_, Try.underlying162, rfl⟩, by kernel_rfl⟩
instance : Siz Try.prog 162 1 := ⟨by kernel_rfl⟩
set_option maxRecDepth 100000 in
instance : Zer Try.prog 162 [.pointer none] := ⟨(.pointer none), by kernel_rfl, rfl⟩
instance : One Try.prog 164 := ⟨⟨_, Try.underlying164, rfl⟩, by kernel_rfl⟩
instance : Siz Try.prog 164 1 := ⟨by kernel_rfl⟩
set_option maxRecDepth 100000 in
instance : Zer Try.prog 164 [.nilFunc] := ⟨.nilFunc, by kernel_rfl, rfl⟩
instance : One Try.prog 165 := ⟨⟨_, Try.underlying165, rfl⟩, by kernel_rfl⟩
instance : Siz Try.prog 165 1 := ⟨by kernel_rfl⟩
set_option maxRecDepth 100000 in
instance : Zer Try.prog 165 [.nilFunc] := ⟨.nilFunc, by kernel_rfl, rfl⟩
instance : One Try.prog 166 := ⟨⟨_, Try.underlying166, rfl⟩, by kernel_rfl⟩
instance : Siz Try.prog 166 1 := ⟨by kernel_rfl⟩
set_option maxRecDepth 100000 in
instance : Zer Try.prog 166 [.nilFunc] := ⟨.nilFunc, by kernel_rfl, rfl⟩
instance : One Try.prog 167 := ⟨⟨_, Try.underlying167, rfl⟩, by kernel_rfl⟩
instance : Siz Try.prog 167 1 := ⟨by kernel_rfl⟩
set_option maxRecDepth 100000 in
instance : Zer Try.prog 167 [.nilFunc] := ⟨.nilFunc, by kernel_rfl, rfl⟩
instance : One Try.prog 168 := ⟨⟨_, Try.underlying168, rfl⟩, by kernel_rfl⟩
instance : Siz Try.prog 168 1 := ⟨by kernel_rfl⟩
set_option maxRecDepth 100000 in
instance : Zer Try.prog 168 [.nilFunc] := ⟨.nilFunc, by kernel_rfl, rfl⟩
instance : Siz Try.prog 169 32 := ⟨by kernel_rfl⟩
instance : Agg Try.prog 169 := ⟨_, Try.underlying169, rfl⟩
set_option maxRecDepth 100000 in
instance : Arr8 Try.prog 169 32 := ⟨⟨_, _, Try.underlying169, Try.underlying5, rfl, rfl⟩, by kernel_rfl⟩
set_option maxRecDepth 100000 in
instance : Zer Try.prog 169 (u8s (zeros 32)) := ⟨.agg (u8s (zeros 32)).toArray, by kernel_rfl, rfl⟩
set_option maxRecDepth 100000 in
instance : Blt0 Try.prog 169 (u8s (zeros 32)) := ⟨by kernel_rfl⟩
instance : One Try.prog 170 := ⟨⟨_, Try.underlying170, rfl⟩, by kernel_rfl⟩
instance : Siz Try.prog 170 1 := ⟨by kernel_rfl⟩
set_option maxRecDepth 100000 in
instance : Zer Try.prog 170 [.nilFunc] := ⟨.nilFunc, by kernel_rfl, rfl⟩
instance : One Try.prog 171 := ⟨⟨_, Try.underlying171, rfl⟩, by kernel_rfl⟩
instance : Siz Try.prog 171 1 := ⟨by kernel_rfl⟩
set_option maxRecDepth 100000 in
instance : Zer Try.prog 171 [.nilFunc] := ⟨.nilFunc, by kernel_rfl, rfl⟩
instance : One Try.prog 172 := ⟨⟨_, Try.underlying172, rfl⟩, by kernel_rfl⟩
instance : Siz Try.prog 172 1 := ⟨by kernel_rfl⟩
set_option maxRecDepth 100000 in
instance : Zer Try.prog 172 [.nilFunc] := ⟨.nilFunc, by kernel_rfl, rfl⟩
instance : One Try.prog 173 := ⟨⟨_, Try.underlying173, rfl⟩, by kernel_rfl⟩
instance : Siz Try.prog 173 1 := ⟨by kernel_rfl⟩
set_option maxRecDepth 100000 in
instance : Zer Try.prog 173 [.nilFunc] := ⟨.nilFunc, by kernel_rfl, rfl⟩
instance : Siz Try.prog 174 12 := ⟨by kernel_rfl⟩
instance : Agg Try.prog 174 := ⟨_, Try.underlying174, rfl⟩
set_option maxRecDepth 100000 in
instance : Arr8 Try.prog 174 12 := ⟨⟨_, _, Try.underlying174, Try.underlying5, rfl, rfl⟩, by kernel_rfl⟩
set_option maxRecDepth 100000 in
instance : Zer Try.prog 174 (u8s (zeros 12)) := ⟨.agg (u8s (zeros 12)).toArray, by kernel_rfl, rfl⟩
set_option maxRecDepth 100000 in
instance : Blt0 Try.prog 174 (u8s (zeros 12)) := ⟨by kernel_rfl⟩
instance : One Try.prog 175 := ⟨⟨_, Try.underlying175, rfl⟩, by kernel_rfl⟩
instance : Siz Try.prog 175 1 := ⟨by kernel_rfl⟩
set_option maxRecDepth 100000 in
instance : Zer Try.prog 175 [.nilFunc] := ⟨.nilFunc, by kernel_rfl, rfl⟩
instance : Siz Try.prog 176 36 := ⟨by kernel_rfl⟩
instance : Agg Try.prog 176 := ⟨_, Try.underlying176, rfl⟩
set_option maxRecDepth 100000 in
instance : Zer Try.prog 176 (c_tabulariumref07_row (.int .i64 0) (u8s (zeros 32)) (.slice none 0 0) (.slice none 0 0) (.slice none 0 0)) := ⟨.agg (c_tabulariumref07_row (.int .i64 0) (u8s (zeros 32)) (.slice none 0 0) (.slice none 0 0) (.slice none 0 0)).toArray, by kernel_rfl, rfl⟩
set_option maxRecDepth 100000 in
instance : Blt0 Try.prog 176 (c_tabulariumref07_row (.int .i64 0) (u8s (zeros 32)) (.slice none 0 0) (.slice none 0 0) (.slice none 0 0)) := ⟨by kernel_rfl⟩
set_option maxRecDepth 100000 in
instance : Places Try.prog 176 [(0, 1), (1, 32), (33, 1), (34, 1), (35, 1)] (c_tabulariumref07_row (.int .i64 0) (u8s (zeros 32)) (.slice none 0 0) (.slice none 0 0) (.slice none 0 0)) := ⟨fun parts => by kernel_rfl⟩
instance : Siz Try.prog 177 36 := ⟨by kernel_rfl⟩
instance : Agg Try.prog 177 := ⟨_, Try.underlying177, rfl⟩
set_option maxRecDepth 100000 in
instance : Zer Try.prog 177 (c_tabulariumref07_row (.int .i64 0) (u8s (zeros 32)) (.slice none 0 0) (.slice none 0 0) (.slice none 0 0)) := ⟨.agg (c_tabulariumref07_row (.int .i64 0) (u8s (zeros 32)) (.slice none 0 0) (.slice none 0 0) (.slice none 0 0)).toArray, by kernel_rfl, rfl⟩
set_option maxRecDepth 100000 in
instance : Blt0 Try.prog 177 (c_tabulariumref07_row (.int .i64 0) (u8s (zeros 32)) (.slice none 0 0) (.slice none 0 0) (.slice none 0 0)) := ⟨by kernel_rfl⟩
set_option maxRecDepth 100000 in
instance : Places Try.prog 177 [(0, 1), (1, 32), (33, 1), (34, 1), (35, 1)] (c_tabulariumref07_row (.int .i64 0) (u8s (zeros 32)) (.slice none 0 0) (.slice none 0 0) (.slice none 0 0)) := ⟨fun parts => by kernel_rfl⟩
instance : One Try.prog 178 := ⟨⟨_, Try.underlying178, rfl⟩, by kernel_rfl⟩
instance : Siz Try.prog 178 1 := ⟨by kernel_rfl⟩
set_option maxRecDepth 100000 in
instance : Zer Try.prog 178 [.nilFunc] := ⟨.nilFunc, by kernel_rfl, rfl⟩
instance : One Try.prog 179 := ⟨⟨_, Try.underlying179, rfl⟩, by kernel_rfl⟩
instance : Siz Try.prog 179 1 := ⟨by kernel_rfl⟩
set_option maxRecDepth 100000 in
instance : Zer Try.prog 179 [.nilFunc] := ⟨.nilFunc, by kernel_rfl, rfl⟩
instance : Siz Try.prog 180 64 := ⟨by kernel_rfl⟩
instance : Agg Try.prog 180 := ⟨_, Try.underlying180, rfl⟩
set_option maxRecDepth 100000 in
instance : Arr8 Try.prog 180 64 := ⟨⟨_, _, Try.underlying180, Try.underlying5, rfl, rfl⟩, by kernel_rfl⟩
set_option maxRecDepth 100000 in
instance : Zer Try.prog 180 (u8s (zeros 64)) := ⟨.agg (u8s (zeros 64)).toArray, by kernel_rfl, rfl⟩
set_option maxRecDepth 100000 in
instance : Blt0 Try.prog 180 (u8s (zeros 64)) := ⟨by kernel_rfl⟩
instance : One Try.prog 181 := ⟨⟨_, Try.underlying181, rfl⟩, by kernel_rfl⟩
instance : Siz Try.prog 181 1 := ⟨by kernel_rfl⟩
set_option maxRecDepth 100000 in
instance : Zer Try.prog 181 [.nilFunc] := ⟨.nilFunc, by kernel_rfl, rfl⟩
instance : One Try.prog 182 := ⟨⟨_, Try.underlying182, rfl⟩, by kernel_rfl⟩
instance : Siz Try.prog 182 1 := ⟨by kernel_rfl⟩
set_option maxRecDepth 100000 in
instance : Zer Try.prog 182 [.nilFunc] := ⟨.nilFunc, by kernel_rfl, rfl⟩
instance : Siz Try.prog 183 8 := ⟨by kernel_rfl⟩
instance : Agg Try.prog 183 := ⟨_, Try.underlying183, rfl⟩
set_option maxRecDepth 100000 in
instance : Zer Try.prog 183 (List.replicate 8 ((.int .u32 0) : Value)) := ⟨.agg (List.replicate 8 ((.int .u32 0) : Value)).toArray, by kernel_rfl, rfl⟩
set_option maxRecDepth 100000 in
instance : Blt0 Try.prog 183 (List.replicate 8 ((.int .u32 0) : Value)) := ⟨by kernel_rfl⟩
instance : One Try.prog 184 := ⟨⟨_, Try.underlying184, rfl⟩, by kernel_rfl⟩
instance : Siz Try.prog 184 1 := ⟨by kernel_rfl⟩
set_option maxRecDepth 100000 in
instance : Zer Try.prog 184 [.slice none 0 0] := ⟨(.slice none 0 0), by kernel_rfl, rfl⟩
instance : Elm Try.prog 184 180 64 64 := elm_mk (z := .agg (u8s (zeros 64)).toArray) Try.underlying184 (by kernel_rfl) (by kernel_rfl) (by decide)
instance : One Try.prog 185 := ⟨⟨_, Try.underlying185, rfl⟩, by kernel_rfl⟩
instance : Siz Try.prog 185 1 := ⟨by kernel_rfl⟩
set_option maxRecDepth 100000 in
instance : Zer Try.prog 185 [.nilFunc] := ⟨.nilFunc, by kernel_rfl, rfl⟩
instance : One Try.prog 186 := ⟨⟨_, Try.underlying186, rfl⟩, by kernel_rfl⟩
instance : Siz Try.prog 186 1 := ⟨by kernel_rfl⟩
set_option maxRecDepth 100000 in
instance : Zer Try.prog 186 [.nilFunc] := ⟨.nilFunc, by kernel_rfl, rfl⟩
instance : Siz Try.prog 187 16 := ⟨by kernel_rfl⟩
instance : Agg Try.prog 187 := ⟨_, Try.underlying187, rfl⟩
set_option maxRecDepth 100000 in
instance : Zer Try.prog 187 (List.replicate 16 ((.int .u32 0) : Value)) := ⟨.agg (List.replicate 16 ((.int .u32 0) : Value)).toArray, by kernel_rfl, rfl⟩
set_option maxRecDepth 100000 in
instance : Blt0 Try.prog 187 (List.replicate 16 ((.int .u32 0) : Value)) := ⟨by kernel_rfl⟩
instance : One Try.prog 188 := ⟨⟨_, Try.underlying188, rfl⟩, by kernel_rfl⟩
instance : Siz Try.prog 188 1 := ⟨by kernel_rfl⟩
set_option maxRecDepth 100000 in
instance : Zer Try.prog 188 [.nilFunc] := ⟨.nilFunc, by kernel_rfl, rfl⟩
instance : One Try.prog 190 := ⟨⟨_, Try.underlying190, rfl⟩, by kernel_rfl⟩
instance : Siz Try.prog 190 1 := ⟨by kernel_rfl⟩
set_option maxRecDepth 100000 in
instance : Zer Try.prog 190 [.nilFunc] := ⟨.nilFunc, by kernel_rfl, rfl⟩
instance : Siz Try.prog 191 64 := ⟨by kernel_rfl⟩
instance : Agg Try.prog 191 := ⟨_, Try.underlying191, rfl⟩
set_option maxRecDepth 100000 in
instance : Zer Try.prog 191 (List.replicate 64 ((.int .u32 0) : Value)) := ⟨.agg (List.replicate 64 ((.int .u32 0) : Value)).toArray, by kernel_rfl, rfl⟩
set_option maxRecDepth 100000 in
instance : Blt0 Try.prog 191 (List.replicate 64 ((.int .u32 0) : Value)) := ⟨by kernel_rfl⟩
instance : One Try.prog 192 := ⟨⟨_, Try.underlying192, rfl⟩, by kernel_rfl⟩
instance : Siz Try.prog 192 1 := ⟨by kernel_rfl⟩
set_option maxRecDepth 100000 in
instance : Zer Try.prog 192 [.nilFunc] := ⟨.nilFunc, by kernel_rfl, rfl⟩
instance : One Try.prog 193 := ⟨⟨_, Try.underlying193, rfl⟩, by kernel_rfl⟩
instance : Siz Try.prog 193 1 := ⟨by kernel_rfl⟩
set_option maxRecDepth 100000 in
instance : Zer Try.prog 193 [.nilFunc] := ⟨.nilFunc, by kernel_rfl, rfl⟩
instance : One Try.prog 194 := ⟨⟨_, Try.underlying194, rfl⟩, by kernel_rfl⟩
instance : Siz Try.prog 194 1 := ⟨by kernel_rfl⟩
set_option maxRecDepth 100000 in
instance : Zer Try.prog 194 [.nilFunc] := ⟨.nilFunc, by kernel_rfl, rfl⟩
instance : One Try.prog 195 := ⟨⟨_, Try.underlying195, rfl⟩, by kernel_rfl⟩
instance : Siz Try.prog 195 1 := ⟨by kernel_rfl⟩
set_option maxRecDepth 100000 in
instance : Zer Try.prog 195 [.nilFunc] := ⟨.nilFunc, by kernel_rfl, rfl⟩
instance : One Try.prog 196 := ⟨⟨_, Try.underlying196, rfl⟩, by kernel_rfl⟩
instance : Siz Try.prog 196 1 := ⟨by kernel_rfl⟩
set_option maxRecDepth 100000 in
instance : Zer Try.prog 196 [.nilFunc] := ⟨.nilFunc, by kernel_rfl, rfl⟩
instance : Siz Try.prog 197 4 := ⟨by kernel_rfl⟩
instance : Agg Try.prog 197 := ⟨_, Try.underlying197, rfl⟩
instance : Siz Try.prog 198 4 := ⟨by kernel_rfl⟩
instance : Agg Try.prog 198 := ⟨_, Try.underlying198, rfl⟩
instance : One Try.prog 202 := ⟨⟨_, Try.underlying202, rfl⟩, by kernel_rfl⟩
instance : Siz Try.prog 202 1 := ⟨by kernel_rfl⟩
set_option maxRecDepth 100000 in
instance : Zer Try.prog 202 [.int .u8 0] := ⟨(.int .u8 0), by kernel_rfl, rfl⟩
instance : One Try.prog 203 := ⟨⟨_, Try.underlying203, rfl⟩, by kernel_rfl⟩
instance : Siz Try.prog 203 1 := ⟨by kernel_rfl⟩
set_option maxRecDepth 100000 in
instance : Zer Try.prog 203 [.int .u8 0] := ⟨(.int .u8 0), by kernel_rfl, rfl⟩
instance : One Try.prog 204 := ⟨⟨_, Try.underlying204, rfl⟩, by kernel_rfl⟩
instance : Siz Try.prog 204 1 := ⟨by kernel_rfl⟩
set_option maxRecDepth 100000 in
instance : Zer Try.prog 204 [.nilFunc] := ⟨.nilFunc, by kernel_rfl, rfl⟩
instance : One Try.prog 205 := ⟨⟨_, Try.underlying205, rfl⟩, by kernel_rfl⟩
instance : Siz Try.prog 205 1 := ⟨by kernel_rfl⟩
set_option maxRecDepth 100000 in
instance : Zer Try.prog 205 [.pointer none] := ⟨(.pointer none), by kernel_rfl, rfl⟩
instance : One Try.prog 206 := ⟨⟨_, Try.underlying206, rfl⟩, by kernel_rfl⟩
instance : Siz Try.prog 206 1 := ⟨by kernel_rfl⟩
set_option maxRecDepth 100000 in
instance : Zer Try.prog 206 [.int .i32 0] := ⟨(.int .i32 0), by kernel_rfl, rfl⟩
instance : One Try.prog 207 := ⟨⟨_, Try.underlying207, rfl⟩, by kernel_rfl⟩
instance : Siz Try.prog 207 1 := ⟨by kernel_rfl⟩
set_option maxRecDepth 100000 in
instance : Zer Try.prog 207 [.int .i32 0] := ⟨(.int .i32 0), by kernel_rfl, rfl⟩
instance : Siz Try.prog 208 11 := ⟨by kernel_rfl⟩
instance : Agg Try.prog 208 := ⟨_, Try.underlying208, rfl⟩
instance : Siz Try.prog 209 11 := ⟨by kernel_rfl⟩
instance : Agg Try.prog 209 := ⟨_, Try.underlying209, rfl⟩
instance : One Try.prog 210 := ⟨⟨_, Try.underlying210, rfl⟩, by kernel_rfl⟩
instance : Siz Try.prog 210 1 := ⟨by kernel_rfl⟩
set_option maxRecDepth 100000 in
instance : Zer Try.prog 210 [.pointer none] := ⟨(.pointer none), by kernel_rfl, rfl⟩
end Go.Proofs.Ythnjfpjojmcccaa
