/- What is known of the types of this seat; printed by wip/mk_ty.py. -/
import Derived.Test.YtnokgejmlpmgfaaCB1
import Derived.Test.YtnokgejmlpmgfaaProg
namespace Go.Proofs.Ytnokgejmlpmgfaa
open Go.RowKit
set_option linter.unusedVariables false
set_option linter.unusedSimpArgs false

theorem cell_mid {pre suf l : List Value} {v : Value} {i : Nat} (e : l = pre ++ v :: suf) (hp : pre.length = i) : Cell l i v := ⟨by rw [e, List.getElem?_append_right (by omega), hp, Nat.sub_self]; rfl⟩
theorem put1_mid {pre suf l l' : List Value} {u v : Value} {i : Nat} (e : l = pre ++ u :: suf) (hp : pre.length = i) (e' : l' = pre ++ v :: suf) : Put1 l i v l' := ⟨by rw [e, e', List.set_append_right _ _ (by omega), hp, Nat.sub_self]; rfl, by rw [e]; simp; omega⟩
theorem part_mid {pre xs suf l : List Value} {off n : Nat} (e : l = pre ++ (xs ++ suf)) (hp : pre.length = off) (hx : xs.length = n) : Part l off n xs := ⟨by rw [e, List.drop_left' hp, List.take_left' hx], by rw [e]; simp; omega⟩
theorem putN_mid {pre xs suf l ys l' : List Value} {off n : Nat} (e : l = pre ++ (xs ++ suf)) (hp : pre.length = off) (hx : xs.length = n) (hy : ys.length = n) (e' : l' = pre ++ (ys ++ suf)) : PutN l off ys l' :=
  ⟨by rw [e, e', List.take_left' hp, ← List.append_assoc pre xs suf, List.drop_left' (by rw [List.length_append]; omega), List.append_assoc], by rw [e]; simp; omega⟩
theorem elm_mk {P : Program} {t e : TypeId} {z : Value} {sz bytes : Nat} (hu : P.underlying t = some (.slice e)) (h : (P.info? e).map (fun i => (i.zero, i.size, i.bytes)) = some (some z, sz, bytes)) (hz : z.cells.size = sz) (hp : 0 < sz) : Elm P t e sz bytes :=
  ⟨hu, by
    obtain ⟨i, hi, h1, h2, h3⟩ := info_parts h
    exact ⟨i, z, hi, h1, h2, h3, hz⟩, hp⟩

/-- The cells of a api.Change. -/
def c_api_Change (Kind_ : Value) (Who_ : Value) (Group_ : Value) (Realm_ : Value) : List Value := ([Kind_, Who_, Group_, Realm_])
instance c_api_Change.row (Kind_ : Value) (Who_ : Value) (Group_ : Value) (Realm_ : Value)  [v0 : OneV Kind_] [v1 : OneV Who_] [v2 : OneV Group_] [v3 : OneV Realm_] : Row (c_api_Change Kind_ Who_ Group_ Realm_) 4 := Row.mk' (by simp only [c_api_Change, List.length_append, List.length_cons, List.length_nil]) (by
  intro u hu
  simp only [c_api_Change, List.mem_append, List.mem_cons, List.not_mem_nil, or_false, or_assoc] at hu
  rcases hu with hu | hu | hu | hu
  all_goals first | (subst hu; exact v0.one) | (subst hu; exact v1.one) | (subst hu; exact v2.one) | (subst hu; exact v3.one)) (by omega)
instance c_api_Change.p_Kind (Kind_ : Value) (Who_ : Value) (Group_ : Value) (Realm_ : Value)  : Cell (c_api_Change Kind_ Who_ Group_ Realm_) 0 Kind_ := cell_mid (pre := ([] : List Value)) (suf := ([Who_, Group_, Realm_])) (by simp [c_api_Change]) (by simp)
instance c_api_Change.s_Kind (Kind_ : Value) (Who_ : Value) (Group_ : Value) (Realm_ : Value) (new : Value)  : Put1 (c_api_Change Kind_ Who_ Group_ Realm_) 0 new (c_api_Change new Who_ Group_ Realm_) := put1_mid (pre := ([] : List Value)) (u := Kind_) (suf := ([Who_, Group_, Realm_])) (by simp [c_api_Change]) (by simp) (by simp [c_api_Change])
instance c_api_Change.p_Who (Kind_ : Value) (Who_ : Value) (Group_ : Value) (Realm_ : Value)  : Cell (c_api_Change Kind_ Who_ Group_ Realm_) 1 Who_ := cell_mid (pre := ([Kind_])) (suf := ([Group_, Realm_])) (by simp [c_api_Change]) (by simp)
instance c_api_Change.s_Who (Kind_ : Value) (Who_ : Value) (Group_ : Value) (Realm_ : Value) (new : Value)  : Put1 (c_api_Change Kind_ Who_ Group_ Realm_) 1 new (c_api_Change Kind_ new Group_ Realm_) := put1_mid (pre := ([Kind_])) (u := Who_) (suf := ([Group_, Realm_])) (by simp [c_api_Change]) (by simp) (by simp [c_api_Change])
instance c_api_Change.p_Group (Kind_ : Value) (Who_ : Value) (Group_ : Value) (Realm_ : Value)  : Cell (c_api_Change Kind_ Who_ Group_ Realm_) 2 Group_ := cell_mid (pre := ([Kind_, Who_])) (suf := ([Realm_])) (by simp [c_api_Change]) (by simp)
instance c_api_Change.s_Group (Kind_ : Value) (Who_ : Value) (Group_ : Value) (Realm_ : Value) (new : Value)  : Put1 (c_api_Change Kind_ Who_ Group_ Realm_) 2 new (c_api_Change Kind_ Who_ new Realm_) := put1_mid (pre := ([Kind_, Who_])) (u := Group_) (suf := ([Realm_])) (by simp [c_api_Change]) (by simp) (by simp [c_api_Change])
instance c_api_Change.p_Realm (Kind_ : Value) (Who_ : Value) (Group_ : Value) (Realm_ : Value)  : Cell (c_api_Change Kind_ Who_ Group_ Realm_) 3 Realm_ := cell_mid (pre := ([Kind_, Who_, Group_])) (suf := ([] : List Value)) (by simp [c_api_Change]) (by simp)
instance c_api_Change.s_Realm (Kind_ : Value) (Who_ : Value) (Group_ : Value) (Realm_ : Value) (new : Value)  : Put1 (c_api_Change Kind_ Who_ Group_ Realm_) 3 new (c_api_Change Kind_ Who_ Group_ new) := put1_mid (pre := ([Kind_, Who_, Group_])) (u := Realm_) (suf := ([] : List Value)) (by simp [c_api_Change]) (by simp) (by simp [c_api_Change])

/-- The cells of a acl.Model. -/
def c_acl_Model (people_ : Value) (groups_ : Value) (realms_ : Value) (members_ : Value) (reads_ : Value) (seen_ : Value) : List Value := ([people_, groups_, realms_, members_, reads_, seen_])
instance c_acl_Model.row (people_ : Value) (groups_ : Value) (realms_ : Value) (members_ : Value) (reads_ : Value) (seen_ : Value)  [v0 : OneV people_] [v1 : OneV groups_] [v2 : OneV realms_] [v3 : OneV members_] [v4 : OneV reads_] [v5 : OneV seen_] : Row (c_acl_Model people_ groups_ realms_ members_ reads_ seen_) 6 := Row.mk' (by simp only [c_acl_Model, List.length_append, List.length_cons, List.length_nil]) (by
  intro u hu
  simp only [c_acl_Model, List.mem_append, List.mem_cons, List.not_mem_nil, or_false, or_assoc] at hu
  rcases hu with hu | hu | hu | hu | hu | hu
  all_goals first | (subst hu; exact v0.one) | (subst hu; exact v1.one) | (subst hu; exact v2.one) | (subst hu; exact v3.one) | (subst hu; exact v4.one) | (subst hu; exact v5.one)) (by omega)
instance c_acl_Model.p_people (people_ : Value) (groups_ : Value) (realms_ : Value) (members_ : Value) (reads_ : Value) (seen_ : Value)  : Cell (c_acl_Model people_ groups_ realms_ members_ reads_ seen_) 0 people_ := cell_mid (pre := ([] : List Value)) (suf := ([groups_, realms_, members_, reads_, seen_])) (by simp [c_acl_Model]) (by simp)
instance c_acl_Model.s_people (people_ : Value) (groups_ : Value) (realms_ : Value) (members_ : Value) (reads_ : Value) (seen_ : Value) (new : Value)  : Put1 (c_acl_Model people_ groups_ realms_ members_ reads_ seen_) 0 new (c_acl_Model new groups_ realms_ members_ reads_ seen_) := put1_mid (pre := ([] : List Value)) (u := people_) (suf := ([groups_, realms_, members_, reads_, seen_])) (by simp [c_acl_Model]) (by simp) (by simp [c_acl_Model])
instance c_acl_Model.p_groups (people_ : Value) (groups_ : Value) (realms_ : Value) (members_ : Value) (reads_ : Value) (seen_ : Value)  : Cell (c_acl_Model people_ groups_ realms_ members_ reads_ seen_) 1 groups_ := cell_mid (pre := ([people_])) (suf := ([realms_, members_, reads_, seen_])) (by simp [c_acl_Model]) (by simp)
instance c_acl_Model.s_groups (people_ : Value) (groups_ : Value) (realms_ : Value) (members_ : Value) (reads_ : Value) (seen_ : Value) (new : Value)  : Put1 (c_acl_Model people_ groups_ realms_ members_ reads_ seen_) 1 new (c_acl_Model people_ new realms_ members_ reads_ seen_) := put1_mid (pre := ([people_])) (u := groups_) (suf := ([realms_, members_, reads_, seen_])) (by simp [c_acl_Model]) (by simp) (by simp [c_acl_Model])
instance c_acl_Model.p_realms (people_ : Value) (groups_ : Value) (realms_ : Value) (members_ : Value) (reads_ : Value) (seen_ : Value)  : Cell (c_acl_Model people_ groups_ realms_ members_ reads_ seen_) 2 realms_ := cell_mid (pre := ([people_, groups_])) (suf := ([members_, reads_, seen_])) (by simp [c_acl_Model]) (by simp)
instance c_acl_Model.s_realms (people_ : Value) (groups_ : Value) (realms_ : Value) (members_ : Value) (reads_ : Value) (seen_ : Value) (new : Value)  : Put1 (c_acl_Model people_ groups_ realms_ members_ reads_ seen_) 2 new (c_acl_Model people_ groups_ new members_ reads_ seen_) := put1_mid (pre := ([people_, groups_])) (u := realms_) (suf := ([members_, reads_, seen_])) (by simp [c_acl_Model]) (by simp) (by simp [c_acl_Model])
instance c_acl_Model.p_members (people_ : Value) (groups_ : Value) (realms_ : Value) (members_ : Value) (reads_ : Value) (seen_ : Value)  : Cell (c_acl_Model people_ groups_ realms_ members_ reads_ seen_) 3 members_ := cell_mid (pre := ([people_, groups_, realms_])) (suf := ([reads_, seen_])) (by simp [c_acl_Model]) (by simp)
instance c_acl_Model.s_members (people_ : Value) (groups_ : Value) (realms_ : Value) (members_ : Value) (reads_ : Value) (seen_ : Value) (new : Value)  : Put1 (c_acl_Model people_ groups_ realms_ members_ reads_ seen_) 3 new (c_acl_Model people_ groups_ realms_ new reads_ seen_) := put1_mid (pre := ([people_, groups_, realms_])) (u := members_) (suf := ([reads_, seen_])) (by simp [c_acl_Model]) (by simp) (by simp [c_acl_Model])
instance c_acl_Model.p_reads (people_ : Value) (groups_ : Value) (realms_ : Value) (members_ : Value) (reads_ : Value) (seen_ : Value)  : Cell (c_acl_Model people_ groups_ realms_ members_ reads_ seen_) 4 reads_ := cell_mid (pre := ([people_, groups_, realms_, members_])) (suf := ([seen_])) (by simp [c_acl_Model]) (by simp)
instance c_acl_Model.s_reads (people_ : Value) (groups_ : Value) (realms_ : Value) (members_ : Value) (reads_ : Value) (seen_ : Value) (new : Value)  : Put1 (c_acl_Model people_ groups_ realms_ members_ reads_ seen_) 4 new (c_acl_Model people_ groups_ realms_ members_ new seen_) := put1_mid (pre := ([people_, groups_, realms_, members_])) (u := reads_) (suf := ([seen_])) (by simp [c_acl_Model]) (by simp) (by simp [c_acl_Model])
instance c_acl_Model.p_seen (people_ : Value) (groups_ : Value) (realms_ : Value) (members_ : Value) (reads_ : Value) (seen_ : Value)  : Cell (c_acl_Model people_ groups_ realms_ members_ reads_ seen_) 5 seen_ := cell_mid (pre := ([people_, groups_, realms_, members_, reads_])) (suf := ([] : List Value)) (by simp [c_acl_Model]) (by simp)
instance c_acl_Model.s_seen (people_ : Value) (groups_ : Value) (realms_ : Value) (members_ : Value) (reads_ : Value) (seen_ : Value) (new : Value)  : Put1 (c_acl_Model people_ groups_ realms_ members_ reads_ seen_) 5 new (c_acl_Model people_ groups_ realms_ members_ reads_ new) := put1_mid (pre := ([people_, groups_, realms_, members_, reads_])) (u := seen_) (suf := ([] : List Value)) (by simp [c_acl_Model]) (by simp) (by simp [c_acl_Model])

/-- The cells of a tabulariumref21.Group. -/
def c_tabulariumref21_Group (Number_ : Value) (Epoch_ : Value) (Key_ : List Value) (Members_ : Value) : List Value := ([Number_, Epoch_] ++ (Key_ ++ ([Members_])))
instance c_tabulariumref21_Group.row (Number_ : Value) (Epoch_ : Value) (Key_ : List Value) (Members_ : Value) [r2 : Row Key_ 32] [v0 : OneV Number_] [v1 : OneV Epoch_] [v3 : OneV Members_] : Row (c_tabulariumref21_Group Number_ Epoch_ Key_ Members_) 35 := Row.mk' (by simp only [c_tabulariumref21_Group, List.length_append, List.length_cons, List.length_nil, r2.len]) (by
  intro u hu
  simp only [c_tabulariumref21_Group, List.mem_append, List.mem_cons, List.not_mem_nil, or_false, or_assoc] at hu
  rcases hu with hu | hu | hu | hu
  all_goals first | (subst hu; exact v0.one) | (subst hu; exact v1.one) | (exact r2.one u hu) | (subst hu; exact v3.one)) (by omega)
instance c_tabulariumref21_Group.p_Number (Number_ : Value) (Epoch_ : Value) (Key_ : List Value) (Members_ : Value) [r2 : Row Key_ 32] : Cell (c_tabulariumref21_Group Number_ Epoch_ Key_ Members_) 0 Number_ := cell_mid (pre := ([] : List Value)) (suf := ([Epoch_] ++ (Key_ ++ ([Members_])))) (by simp [c_tabulariumref21_Group]) (by simp [r2.len])
instance c_tabulariumref21_Group.s_Number (Number_ : Value) (Epoch_ : Value) (Key_ : List Value) (Members_ : Value) (new : Value) [r2 : Row Key_ 32] : Put1 (c_tabulariumref21_Group Number_ Epoch_ Key_ Members_) 0 new (c_tabulariumref21_Group new Epoch_ Key_ Members_) := put1_mid (pre := ([] : List Value)) (u := Number_) (suf := ([Epoch_] ++ (Key_ ++ ([Members_])))) (by simp [c_tabulariumref21_Group]) (by simp [r2.len]) (by simp [c_tabulariumref21_Group])
instance c_tabulariumref21_Group.p_Epoch (Number_ : Value) (Epoch_ : Value) (Key_ : List Value) (Members_ : Value) [r2 : Row Key_ 32] : Cell (c_tabulariumref21_Group Number_ Epoch_ Key_ Members_) 1 Epoch_ := cell_mid (pre := ([Number_])) (suf := (Key_ ++ ([Members_]))) (by simp [c_tabulariumref21_Group]) (by simp [r2.len])
instance c_tabulariumref21_Group.s_Epoch (Number_ : Value) (Epoch_ : Value) (Key_ : List Value) (Members_ : Value) (new : Value) [r2 : Row Key_ 32] : Put1 (c_tabulariumref21_Group Number_ Epoch_ Key_ Members_) 1 new (c_tabulariumref21_Group Number_ new Key_ Members_) := put1_mid (pre := ([Number_])) (u := Epoch_) (suf := (Key_ ++ ([Members_]))) (by simp [c_tabulariumref21_Group]) (by simp [r2.len]) (by simp [c_tabulariumref21_Group])
instance c_tabulariumref21_Group.p_Key (Number_ : Value) (Epoch_ : Value) (Key_ : List Value) (Members_ : Value) [r2 : Row Key_ 32] : Part (c_tabulariumref21_Group Number_ Epoch_ Key_ Members_) 2 32 Key_ := part_mid (pre := ([Number_, Epoch_])) (suf := ([Members_])) (by simp [c_tabulariumref21_Group]) (by simp [r2.len]) r2.len
instance c_tabulariumref21_Group.s_Key (Number_ : Value) (Epoch_ : Value) (Key_ : List Value) (Members_ : Value) (new : List Value) [r2 : Row Key_ 32] [rn : Row new 32] : PutN (c_tabulariumref21_Group Number_ Epoch_ Key_ Members_) 2 new (c_tabulariumref21_Group Number_ Epoch_ new Members_) := putN_mid (pre := ([Number_, Epoch_])) (suf := ([Members_])) (by simp [c_tabulariumref21_Group]) (by simp [r2.len]) r2.len rn.len (by simp [c_tabulariumref21_Group])
instance c_tabulariumref21_Group.p_Members (Number_ : Value) (Epoch_ : Value) (Key_ : List Value) (Members_ : Value) [r2 : Row Key_ 32] : Cell (c_tabulariumref21_Group Number_ Epoch_ Key_ Members_) 34 Members_ := cell_mid (pre := ([Number_, Epoch_] ++ (Key_))) (suf := ([] : List Value)) (by simp [c_tabulariumref21_Group]) (by simp [r2.len])
instance c_tabulariumref21_Group.s_Members (Number_ : Value) (Epoch_ : Value) (Key_ : List Value) (Members_ : Value) (new : Value) [r2 : Row Key_ 32] : Put1 (c_tabulariumref21_Group Number_ Epoch_ Key_ Members_) 34 new (c_tabulariumref21_Group Number_ Epoch_ Key_ new) := put1_mid (pre := ([Number_, Epoch_] ++ (Key_))) (u := Members_) (suf := ([] : List Value)) (by simp [c_tabulariumref21_Group]) (by simp [r2.len]) (by simp [c_tabulariumref21_Group])

/-- The cells of a tabulariumref21.Ring. -/
def c_tabulariumref21_Ring (S_ : Value) (Persons_ : Value) (Groups_ : Value) (Realms_ : Value) (Boxes_ : Value) (Seen_ : Value) : List Value := ([S_, Persons_, Groups_, Realms_, Boxes_, Seen_])
instance c_tabulariumref21_Ring.row (S_ : Value) (Persons_ : Value) (Groups_ : Value) (Realms_ : Value) (Boxes_ : Value) (Seen_ : Value)  [v0 : OneV S_] [v1 : OneV Persons_] [v2 : OneV Groups_] [v3 : OneV Realms_] [v4 : OneV Boxes_] [v5 : OneV Seen_] : Row (c_tabulariumref21_Ring S_ Persons_ Groups_ Realms_ Boxes_ Seen_) 6 := Row.mk' (by simp only [c_tabulariumref21_Ring, List.length_append, List.length_cons, List.length_nil]) (by
  intro u hu
  simp only [c_tabulariumref21_Ring, List.mem_append, List.mem_cons, List.not_mem_nil, or_false, or_assoc] at hu
  rcases hu with hu | hu | hu | hu | hu | hu
  all_goals first | (subst hu; exact v0.one) | (subst hu; exact v1.one) | (subst hu; exact v2.one) | (subst hu; exact v3.one) | (subst hu; exact v4.one) | (subst hu; exact v5.one)) (by omega)
instance c_tabulariumref21_Ring.p_S (S_ : Value) (Persons_ : Value) (Groups_ : Value) (Realms_ : Value) (Boxes_ : Value) (Seen_ : Value)  : Cell (c_tabulariumref21_Ring S_ Persons_ Groups_ Realms_ Boxes_ Seen_) 0 S_ := cell_mid (pre := ([] : List Value)) (suf := ([Persons_, Groups_, Realms_, Boxes_, Seen_])) (by simp [c_tabulariumref21_Ring]) (by simp)
instance c_tabulariumref21_Ring.s_S (S_ : Value) (Persons_ : Value) (Groups_ : Value) (Realms_ : Value) (Boxes_ : Value) (Seen_ : Value) (new : Value)  : Put1 (c_tabulariumref21_Ring S_ Persons_ Groups_ Realms_ Boxes_ Seen_) 0 new (c_tabulariumref21_Ring new Persons_ Groups_ Realms_ Boxes_ Seen_) := put1_mid (pre := ([] : List Value)) (u := S_) (suf := ([Persons_, Groups_, Realms_, Boxes_, Seen_])) (by simp [c_tabulariumref21_Ring]) (by simp) (by simp [c_tabulariumref21_Ring])
instance c_tabulariumref21_Ring.p_Persons (S_ : Value) (Persons_ : Value) (Groups_ : Value) (Realms_ : Value) (Boxes_ : Value) (Seen_ : Value)  : Cell (c_tabulariumref21_Ring S_ Persons_ Groups_ Realms_ Boxes_ Seen_) 1 Persons_ := cell_mid (pre := ([S_])) (suf := ([Groups_, Realms_, Boxes_, Seen_])) (by simp [c_tabulariumref21_Ring]) (by simp)
instance c_tabulariumref21_Ring.s_Persons (S_ : Value) (Persons_ : Value) (Groups_ : Value) (Realms_ : Value) (Boxes_ : Value) (Seen_ : Value) (new : Value)  : Put1 (c_tabulariumref21_Ring S_ Persons_ Groups_ Realms_ Boxes_ Seen_) 1 new (c_tabulariumref21_Ring S_ new Groups_ Realms_ Boxes_ Seen_) := put1_mid (pre := ([S_])) (u := Persons_) (suf := ([Groups_, Realms_, Boxes_, Seen_])) (by simp [c_tabulariumref21_Ring]) (by simp) (by simp [c_tabulariumref21_Ring])
instance c_tabulariumref21_Ring.p_Groups (S_ : Value) (Persons_ : Value) (Groups_ : Value) (Realms_ : Value) (Boxes_ : Value) (Seen_ : Value)  : Cell (c_tabulariumref21_Ring S_ Persons_ Groups_ Realms_ Boxes_ Seen_) 2 Groups_ := cell_mid (pre := ([S_, Persons_])) (suf := ([Realms_, Boxes_, Seen_])) (by simp [c_tabulariumref21_Ring]) (by simp)
instance c_tabulariumref21_Ring.s_Groups (S_ : Value) (Persons_ : Value) (Groups_ : Value) (Realms_ : Value) (Boxes_ : Value) (Seen_ : Value) (new : Value)  : Put1 (c_tabulariumref21_Ring S_ Persons_ Groups_ Realms_ Boxes_ Seen_) 2 new (c_tabulariumref21_Ring S_ Persons_ new Realms_ Boxes_ Seen_) := put1_mid (pre := ([S_, Persons_])) (u := Groups_) (suf := ([Realms_, Boxes_, Seen_])) (by simp [c_tabulariumref21_Ring]) (by simp) (by simp [c_tabulariumref21_Ring])
instance c_tabulariumref21_Ring.p_Realms (S_ : Value) (Persons_ : Value) (Groups_ : Value) (Realms_ : Value) (Boxes_ : Value) (Seen_ : Value)  : Cell (c_tabulariumref21_Ring S_ Persons_ Groups_ Realms_ Boxes_ Seen_) 3 Realms_ := cell_mid (pre := ([S_, Persons_, Groups_])) (suf := ([Boxes_, Seen_])) (by simp [c_tabulariumref21_Ring]) (by simp)
instance c_tabulariumref21_Ring.s_Realms (S_ : Value) (Persons_ : Value) (Groups_ : Value) (Realms_ : Value) (Boxes_ : Value) (Seen_ : Value) (new : Value)  : Put1 (c_tabulariumref21_Ring S_ Persons_ Groups_ Realms_ Boxes_ Seen_) 3 new (c_tabulariumref21_Ring S_ Persons_ Groups_ new Boxes_ Seen_) := put1_mid (pre := ([S_, Persons_, Groups_])) (u := Realms_) (suf := ([Boxes_, Seen_])) (by simp [c_tabulariumref21_Ring]) (by simp) (by simp [c_tabulariumref21_Ring])
instance c_tabulariumref21_Ring.p_Boxes (S_ : Value) (Persons_ : Value) (Groups_ : Value) (Realms_ : Value) (Boxes_ : Value) (Seen_ : Value)  : Cell (c_tabulariumref21_Ring S_ Persons_ Groups_ Realms_ Boxes_ Seen_) 4 Boxes_ := cell_mid (pre := ([S_, Persons_, Groups_, Realms_])) (suf := ([Seen_])) (by simp [c_tabulariumref21_Ring]) (by simp)
instance c_tabulariumref21_Ring.s_Boxes (S_ : Value) (Persons_ : Value) (Groups_ : Value) (Realms_ : Value) (Boxes_ : Value) (Seen_ : Value) (new : Value)  : Put1 (c_tabulariumref21_Ring S_ Persons_ Groups_ Realms_ Boxes_ Seen_) 4 new (c_tabulariumref21_Ring S_ Persons_ Groups_ Realms_ new Seen_) := put1_mid (pre := ([S_, Persons_, Groups_, Realms_])) (u := Boxes_) (suf := ([Seen_])) (by simp [c_tabulariumref21_Ring]) (by simp) (by simp [c_tabulariumref21_Ring])
instance c_tabulariumref21_Ring.p_Seen (S_ : Value) (Persons_ : Value) (Groups_ : Value) (Realms_ : Value) (Boxes_ : Value) (Seen_ : Value)  : Cell (c_tabulariumref21_Ring S_ Persons_ Groups_ Realms_ Boxes_ Seen_) 5 Seen_ := cell_mid (pre := ([S_, Persons_, Groups_, Realms_, Boxes_])) (suf := ([] : List Value)) (by simp [c_tabulariumref21_Ring]) (by simp)
instance c_tabulariumref21_Ring.s_Seen (S_ : Value) (Persons_ : Value) (Groups_ : Value) (Realms_ : Value) (Boxes_ : Value) (Seen_ : Value) (new : Value)  : Put1 (c_tabulariumref21_Ring S_ Persons_ Groups_ Realms_ Boxes_ Seen_) 5 new (c_tabulariumref21_Ring S_ Persons_ Groups_ Realms_ Boxes_ new) := put1_mid (pre := ([S_, Persons_, Groups_, Realms_, Boxes_])) (u := Seen_) (suf := ([] : List Value)) (by simp [c_tabulariumref21_Ring]) (by simp) (by simp [c_tabulariumref21_Ring])

/-- The cells of a tabulariumref21.Realm. -/
def c_tabulariumref21_Realm (Number_ : Value) (Epoch_ : Value) (Key_ : List Value) (Groups_ : Value) : List Value := ([Number_, Epoch_] ++ (Key_ ++ ([Groups_])))
instance c_tabulariumref21_Realm.row (Number_ : Value) (Epoch_ : Value) (Key_ : List Value) (Groups_ : Value) [r2 : Row Key_ 32] [v0 : OneV Number_] [v1 : OneV Epoch_] [v3 : OneV Groups_] : Row (c_tabulariumref21_Realm Number_ Epoch_ Key_ Groups_) 35 := Row.mk' (by simp only [c_tabulariumref21_Realm, List.length_append, List.length_cons, List.length_nil, r2.len]) (by
  intro u hu
  simp only [c_tabulariumref21_Realm, List.mem_append, List.mem_cons, List.not_mem_nil, or_false, or_assoc] at hu
  rcases hu with hu | hu | hu | hu
  all_goals first | (subst hu; exact v0.one) | (subst hu; exact v1.one) | (exact r2.one u hu) | (subst hu; exact v3.one)) (by omega)
instance c_tabulariumref21_Realm.p_Number (Number_ : Value) (Epoch_ : Value) (Key_ : List Value) (Groups_ : Value) [r2 : Row Key_ 32] : Cell (c_tabulariumref21_Realm Number_ Epoch_ Key_ Groups_) 0 Number_ := cell_mid (pre := ([] : List Value)) (suf := ([Epoch_] ++ (Key_ ++ ([Groups_])))) (by simp [c_tabulariumref21_Realm]) (by simp [r2.len])
instance c_tabulariumref21_Realm.s_Number (Number_ : Value) (Epoch_ : Value) (Key_ : List Value) (Groups_ : Value) (new : Value) [r2 : Row Key_ 32] : Put1 (c_tabulariumref21_Realm Number_ Epoch_ Key_ Groups_) 0 new (c_tabulariumref21_Realm new Epoch_ Key_ Groups_) := put1_mid (pre := ([] : List Value)) (u := Number_) (suf := ([Epoch_] ++ (Key_ ++ ([Groups_])))) (by simp [c_tabulariumref21_Realm]) (by simp [r2.len]) (by simp [c_tabulariumref21_Realm])
instance c_tabulariumref21_Realm.p_Epoch (Number_ : Value) (Epoch_ : Value) (Key_ : List Value) (Groups_ : Value) [r2 : Row Key_ 32] : Cell (c_tabulariumref21_Realm Number_ Epoch_ Key_ Groups_) 1 Epoch_ := cell_mid (pre := ([Number_])) (suf := (Key_ ++ ([Groups_]))) (by simp [c_tabulariumref21_Realm]) (by simp [r2.len])
instance c_tabulariumref21_Realm.s_Epoch (Number_ : Value) (Epoch_ : Value) (Key_ : List Value) (Groups_ : Value) (new : Value) [r2 : Row Key_ 32] : Put1 (c_tabulariumref21_Realm Number_ Epoch_ Key_ Groups_) 1 new (c_tabulariumref21_Realm Number_ new Key_ Groups_) := put1_mid (pre := ([Number_])) (u := Epoch_) (suf := (Key_ ++ ([Groups_]))) (by simp [c_tabulariumref21_Realm]) (by simp [r2.len]) (by simp [c_tabulariumref21_Realm])
instance c_tabulariumref21_Realm.p_Key (Number_ : Value) (Epoch_ : Value) (Key_ : List Value) (Groups_ : Value) [r2 : Row Key_ 32] : Part (c_tabulariumref21_Realm Number_ Epoch_ Key_ Groups_) 2 32 Key_ := part_mid (pre := ([Number_, Epoch_])) (suf := ([Groups_])) (by simp [c_tabulariumref21_Realm]) (by simp [r2.len]) r2.len
instance c_tabulariumref21_Realm.s_Key (Number_ : Value) (Epoch_ : Value) (Key_ : List Value) (Groups_ : Value) (new : List Value) [r2 : Row Key_ 32] [rn : Row new 32] : PutN (c_tabulariumref21_Realm Number_ Epoch_ Key_ Groups_) 2 new (c_tabulariumref21_Realm Number_ Epoch_ new Groups_) := putN_mid (pre := ([Number_, Epoch_])) (suf := ([Groups_])) (by simp [c_tabulariumref21_Realm]) (by simp [r2.len]) r2.len rn.len (by simp [c_tabulariumref21_Realm])
instance c_tabulariumref21_Realm.p_Groups (Number_ : Value) (Epoch_ : Value) (Key_ : List Value) (Groups_ : Value) [r2 : Row Key_ 32] : Cell (c_tabulariumref21_Realm Number_ Epoch_ Key_ Groups_) 34 Groups_ := cell_mid (pre := ([Number_, Epoch_] ++ (Key_))) (suf := ([] : List Value)) (by simp [c_tabulariumref21_Realm]) (by simp [r2.len])
instance c_tabulariumref21_Realm.s_Groups (Number_ : Value) (Epoch_ : Value) (Key_ : List Value) (Groups_ : Value) (new : Value) [r2 : Row Key_ 32] : Put1 (c_tabulariumref21_Realm Number_ Epoch_ Key_ Groups_) 34 new (c_tabulariumref21_Realm Number_ Epoch_ Key_ new) := put1_mid (pre := ([Number_, Epoch_] ++ (Key_))) (u := Groups_) (suf := ([] : List Value)) (by simp [c_tabulariumref21_Realm]) (by simp [r2.len]) (by simp [c_tabulariumref21_Realm])

/-- The cells of a api.Envelope. -/
def c_api_Envelope (Kind_ : Value) (Realm_ : Value) (Epoch_ : Value) (Links_ : Value) (Body_ : Value) : List Value := ([Kind_, Realm_, Epoch_, Links_, Body_])
instance c_api_Envelope.row (Kind_ : Value) (Realm_ : Value) (Epoch_ : Value) (Links_ : Value) (Body_ : Value)  [v0 : OneV Kind_] [v1 : OneV Realm_] [v2 : OneV Epoch_] [v3 : OneV Links_] [v4 : OneV Body_] : Row (c_api_Envelope Kind_ Realm_ Epoch_ Links_ Body_) 5 := Row.mk' (by simp only [c_api_Envelope, List.length_append, List.length_cons, List.length_nil]) (by
  intro u hu
  simp only [c_api_Envelope, List.mem_append, List.mem_cons, List.not_mem_nil, or_false, or_assoc] at hu
  rcases hu with hu | hu | hu | hu | hu
  all_goals first | (subst hu; exact v0.one) | (subst hu; exact v1.one) | (subst hu; exact v2.one) | (subst hu; exact v3.one) | (subst hu; exact v4.one)) (by omega)
instance c_api_Envelope.p_Kind (Kind_ : Value) (Realm_ : Value) (Epoch_ : Value) (Links_ : Value) (Body_ : Value)  : Cell (c_api_Envelope Kind_ Realm_ Epoch_ Links_ Body_) 0 Kind_ := cell_mid (pre := ([] : List Value)) (suf := ([Realm_, Epoch_, Links_, Body_])) (by simp [c_api_Envelope]) (by simp)
instance c_api_Envelope.s_Kind (Kind_ : Value) (Realm_ : Value) (Epoch_ : Value) (Links_ : Value) (Body_ : Value) (new : Value)  : Put1 (c_api_Envelope Kind_ Realm_ Epoch_ Links_ Body_) 0 new (c_api_Envelope new Realm_ Epoch_ Links_ Body_) := put1_mid (pre := ([] : List Value)) (u := Kind_) (suf := ([Realm_, Epoch_, Links_, Body_])) (by simp [c_api_Envelope]) (by simp) (by simp [c_api_Envelope])
instance c_api_Envelope.p_Realm (Kind_ : Value) (Realm_ : Value) (Epoch_ : Value) (Links_ : Value) (Body_ : Value)  : Cell (c_api_Envelope Kind_ Realm_ Epoch_ Links_ Body_) 1 Realm_ := cell_mid (pre := ([Kind_])) (suf := ([Epoch_, Links_, Body_])) (by simp [c_api_Envelope]) (by simp)
instance c_api_Envelope.s_Realm (Kind_ : Value) (Realm_ : Value) (Epoch_ : Value) (Links_ : Value) (Body_ : Value) (new : Value)  : Put1 (c_api_Envelope Kind_ Realm_ Epoch_ Links_ Body_) 1 new (c_api_Envelope Kind_ new Epoch_ Links_ Body_) := put1_mid (pre := ([Kind_])) (u := Realm_) (suf := ([Epoch_, Links_, Body_])) (by simp [c_api_Envelope]) (by simp) (by simp [c_api_Envelope])
instance c_api_Envelope.p_Epoch (Kind_ : Value) (Realm_ : Value) (Epoch_ : Value) (Links_ : Value) (Body_ : Value)  : Cell (c_api_Envelope Kind_ Realm_ Epoch_ Links_ Body_) 2 Epoch_ := cell_mid (pre := ([Kind_, Realm_])) (suf := ([Links_, Body_])) (by simp [c_api_Envelope]) (by simp)
instance c_api_Envelope.s_Epoch (Kind_ : Value) (Realm_ : Value) (Epoch_ : Value) (Links_ : Value) (Body_ : Value) (new : Value)  : Put1 (c_api_Envelope Kind_ Realm_ Epoch_ Links_ Body_) 2 new (c_api_Envelope Kind_ Realm_ new Links_ Body_) := put1_mid (pre := ([Kind_, Realm_])) (u := Epoch_) (suf := ([Links_, Body_])) (by simp [c_api_Envelope]) (by simp) (by simp [c_api_Envelope])
instance c_api_Envelope.p_Links (Kind_ : Value) (Realm_ : Value) (Epoch_ : Value) (Links_ : Value) (Body_ : Value)  : Cell (c_api_Envelope Kind_ Realm_ Epoch_ Links_ Body_) 3 Links_ := cell_mid (pre := ([Kind_, Realm_, Epoch_])) (suf := ([Body_])) (by simp [c_api_Envelope]) (by simp)
instance c_api_Envelope.s_Links (Kind_ : Value) (Realm_ : Value) (Epoch_ : Value) (Links_ : Value) (Body_ : Value) (new : Value)  : Put1 (c_api_Envelope Kind_ Realm_ Epoch_ Links_ Body_) 3 new (c_api_Envelope Kind_ Realm_ Epoch_ new Body_) := put1_mid (pre := ([Kind_, Realm_, Epoch_])) (u := Links_) (suf := ([Body_])) (by simp [c_api_Envelope]) (by simp) (by simp [c_api_Envelope])
instance c_api_Envelope.p_Body (Kind_ : Value) (Realm_ : Value) (Epoch_ : Value) (Links_ : Value) (Body_ : Value)  : Cell (c_api_Envelope Kind_ Realm_ Epoch_ Links_ Body_) 4 Body_ := cell_mid (pre := ([Kind_, Realm_, Epoch_, Links_])) (suf := ([] : List Value)) (by simp [c_api_Envelope]) (by simp)
instance c_api_Envelope.s_Body (Kind_ : Value) (Realm_ : Value) (Epoch_ : Value) (Links_ : Value) (Body_ : Value) (new : Value)  : Put1 (c_api_Envelope Kind_ Realm_ Epoch_ Links_ Body_) 4 new (c_api_Envelope Kind_ Realm_ Epoch_ Links_ new) := put1_mid (pre := ([Kind_, Realm_, Epoch_, Links_])) (u := Body_) (suf := ([] : List Value)) (by simp [c_api_Envelope]) (by simp) (by simp [c_api_Envelope])

/-- The cells of a api.Entry. -/
def c_api_Entry (Blind_ : List Value) (Name_ : Value) (Kind_ : Value) (Id_ : List Value) (Key_ : List Value) (Realm_ : Value) (Epoch_ : Value) : List Value := (Blind_ ++ ([Name_, Kind_] ++ (Id_ ++ (Key_ ++ ([Realm_, Epoch_])))))
instance c_api_Entry.row (Blind_ : List Value) (Name_ : Value) (Kind_ : Value) (Id_ : List Value) (Key_ : List Value) (Realm_ : Value) (Epoch_ : Value) [r0 : Row Blind_ 32] [r3 : Row Id_ 32] [r4 : Row Key_ 32] [v1 : OneV Name_] [v2 : OneV Kind_] [v5 : OneV Realm_] [v6 : OneV Epoch_] : Row (c_api_Entry Blind_ Name_ Kind_ Id_ Key_ Realm_ Epoch_) 100 := Row.mk' (by simp only [c_api_Entry, List.length_append, List.length_cons, List.length_nil, r0.len, r3.len, r4.len]) (by
  intro u hu
  simp only [c_api_Entry, List.mem_append, List.mem_cons, List.not_mem_nil, or_false, or_assoc] at hu
  rcases hu with hu | hu | hu | hu | hu | hu | hu
  all_goals first | (exact r0.one u hu) | (subst hu; exact v1.one) | (subst hu; exact v2.one) | (exact r3.one u hu) | (exact r4.one u hu) | (subst hu; exact v5.one) | (subst hu; exact v6.one)) (by omega)
instance c_api_Entry.p_Blind (Blind_ : List Value) (Name_ : Value) (Kind_ : Value) (Id_ : List Value) (Key_ : List Value) (Realm_ : Value) (Epoch_ : Value) [r0 : Row Blind_ 32] [r3 : Row Id_ 32] [r4 : Row Key_ 32] : Part (c_api_Entry Blind_ Name_ Kind_ Id_ Key_ Realm_ Epoch_) 0 32 Blind_ := part_mid (pre := ([] : List Value)) (suf := ([Name_, Kind_] ++ (Id_ ++ (Key_ ++ ([Realm_, Epoch_]))))) (by simp [c_api_Entry]) (by simp [r0.len, r3.len, r4.len]) r0.len
instance c_api_Entry.s_Blind (Blind_ : List Value) (Name_ : Value) (Kind_ : Value) (Id_ : List Value) (Key_ : List Value) (Realm_ : Value) (Epoch_ : Value) (new : List Value) [r0 : Row Blind_ 32] [r3 : Row Id_ 32] [r4 : Row Key_ 32] [rn : Row new 32] : PutN (c_api_Entry Blind_ Name_ Kind_ Id_ Key_ Realm_ Epoch_) 0 new (c_api_Entry new Name_ Kind_ Id_ Key_ Realm_ Epoch_) := putN_mid (pre := ([] : List Value)) (suf := ([Name_, Kind_] ++ (Id_ ++ (Key_ ++ ([Realm_, Epoch_]))))) (by simp [c_api_Entry]) (by simp [r0.len, r3.len, r4.len]) r0.len rn.len (by simp [c_api_Entry])
instance c_api_Entry.p_Name (Blind_ : List Value) (Name_ : Value) (Kind_ : Value) (Id_ : List Value) (Key_ : List Value) (Realm_ : Value) (Epoch_ : Value) [r0 : Row Blind_ 32] [r3 : Row Id_ 32] [r4 : Row Key_ 32] : Cell (c_api_Entry Blind_ Name_ Kind_ Id_ Key_ Realm_ Epoch_) 32 Name_ := cell_mid (pre := (Blind_)) (suf := ([Kind_] ++ (Id_ ++ (Key_ ++ ([Realm_, Epoch_]))))) (by simp [c_api_Entry]) (by simp [r0.len, r3.len, r4.len])
instance c_api_Entry.s_Name (Blind_ : List Value) (Name_ : Value) (Kind_ : Value) (Id_ : List Value) (Key_ : List Value) (Realm_ : Value) (Epoch_ : Value) (new : Value) [r0 : Row Blind_ 32] [r3 : Row Id_ 32] [r4 : Row Key_ 32] : Put1 (c_api_Entry Blind_ Name_ Kind_ Id_ Key_ Realm_ Epoch_) 32 new (c_api_Entry Blind_ new Kind_ Id_ Key_ Realm_ Epoch_) := put1_mid (pre := (Blind_)) (u := Name_) (suf := ([Kind_] ++ (Id_ ++ (Key_ ++ ([Realm_, Epoch_]))))) (by simp [c_api_Entry]) (by simp [r0.len, r3.len, r4.len]) (by simp [c_api_Entry])
instance c_api_Entry.p_Kind (Blind_ : List Value) (Name_ : Value) (Kind_ : Value) (Id_ : List Value) (Key_ : List Value) (Realm_ : Value) (Epoch_ : Value) [r0 : Row Blind_ 32] [r3 : Row Id_ 32] [r4 : Row Key_ 32] : Cell (c_api_Entry Blind_ Name_ Kind_ Id_ Key_ Realm_ Epoch_) 33 Kind_ := cell_mid (pre := (Blind_ ++ ([Name_]))) (suf := (Id_ ++ (Key_ ++ ([Realm_, Epoch_])))) (by simp [c_api_Entry]) (by simp [r0.len, r3.len, r4.len])
instance c_api_Entry.s_Kind (Blind_ : List Value) (Name_ : Value) (Kind_ : Value) (Id_ : List Value) (Key_ : List Value) (Realm_ : Value) (Epoch_ : Value) (new : Value) [r0 : Row Blind_ 32] [r3 : Row Id_ 32] [r4 : Row Key_ 32] : Put1 (c_api_Entry Blind_ Name_ Kind_ Id_ Key_ Realm_ Epoch_) 33 new (c_api_Entry Blind_ Name_ new Id_ Key_ Realm_ Epoch_) := put1_mid (pre := (Blind_ ++ ([Name_]))) (u := Kind_) (suf := (Id_ ++ (Key_ ++ ([Realm_, Epoch_])))) (by simp [c_api_Entry]) (by simp [r0.len, r3.len, r4.len]) (by simp [c_api_Entry])
instance c_api_Entry.p_Id (Blind_ : List Value) (Name_ : Value) (Kind_ : Value) (Id_ : List Value) (Key_ : List Value) (Realm_ : Value) (Epoch_ : Value) [r0 : Row Blind_ 32] [r3 : Row Id_ 32] [r4 : Row Key_ 32] : Part (c_api_Entry Blind_ Name_ Kind_ Id_ Key_ Realm_ Epoch_) 34 32 Id_ := part_mid (pre := (Blind_ ++ ([Name_, Kind_]))) (suf := (Key_ ++ ([Realm_, Epoch_]))) (by simp [c_api_Entry]) (by simp [r0.len, r3.len, r4.len]) r3.len
instance c_api_Entry.s_Id (Blind_ : List Value) (Name_ : Value) (Kind_ : Value) (Id_ : List Value) (Key_ : List Value) (Realm_ : Value) (Epoch_ : Value) (new : List Value) [r0 : Row Blind_ 32] [r3 : Row Id_ 32] [r4 : Row Key_ 32] [rn : Row new 32] : PutN (c_api_Entry Blind_ Name_ Kind_ Id_ Key_ Realm_ Epoch_) 34 new (c_api_Entry Blind_ Name_ Kind_ new Key_ Realm_ Epoch_) := putN_mid (pre := (Blind_ ++ ([Name_, Kind_]))) (suf := (Key_ ++ ([Realm_, Epoch_]))) (by simp [c_api_Entry]) (by simp [r0.len, r3.len, r4.len]) r3.len rn.len (by simp [c_api_Entry])
instance c_api_Entry.p_Key (Blind_ : List Value) (Name_ : Value) (Kind_ : Value) (Id_ : List Value) (Key_ : List Value) (Realm_ : Value) (Epoch_ : Value) [r0 : Row Blind_ 32] [r3 : Row Id_ 32] [r4 : Row Key_ 32] : Part (c_api_Entry Blind_ Name_ Kind_ Id_ Key_ Realm_ Epoch_) 66 32 Key_ := part_mid (pre := (Blind_ ++ ([Name_, Kind_] ++ (Id_)))) (suf := ([Realm_, Epoch_])) (by simp [c_api_Entry]) (by simp [r0.len, r3.len, r4.len]) r4.len
instance c_api_Entry.s_Key (Blind_ : List Value) (Name_ : Value) (Kind_ : Value) (Id_ : List Value) (Key_ : List Value) (Realm_ : Value) (Epoch_ : Value) (new : List Value) [r0 : Row Blind_ 32] [r3 : Row Id_ 32] [r4 : Row Key_ 32] [rn : Row new 32] : PutN (c_api_Entry Blind_ Name_ Kind_ Id_ Key_ Realm_ Epoch_) 66 new (c_api_Entry Blind_ Name_ Kind_ Id_ new Realm_ Epoch_) := putN_mid (pre := (Blind_ ++ ([Name_, Kind_] ++ (Id_)))) (suf := ([Realm_, Epoch_])) (by simp [c_api_Entry]) (by simp [r0.len, r3.len, r4.len]) r4.len rn.len (by simp [c_api_Entry])
instance c_api_Entry.p_Realm (Blind_ : List Value) (Name_ : Value) (Kind_ : Value) (Id_ : List Value) (Key_ : List Value) (Realm_ : Value) (Epoch_ : Value) [r0 : Row Blind_ 32] [r3 : Row Id_ 32] [r4 : Row Key_ 32] : Cell (c_api_Entry Blind_ Name_ Kind_ Id_ Key_ Realm_ Epoch_) 98 Realm_ := cell_mid (pre := (Blind_ ++ ([Name_, Kind_] ++ (Id_ ++ (Key_))))) (suf := ([Epoch_])) (by simp [c_api_Entry]) (by simp [r0.len, r3.len, r4.len])
instance c_api_Entry.s_Realm (Blind_ : List Value) (Name_ : Value) (Kind_ : Value) (Id_ : List Value) (Key_ : List Value) (Realm_ : Value) (Epoch_ : Value) (new : Value) [r0 : Row Blind_ 32] [r3 : Row Id_ 32] [r4 : Row Key_ 32] : Put1 (c_api_Entry Blind_ Name_ Kind_ Id_ Key_ Realm_ Epoch_) 98 new (c_api_Entry Blind_ Name_ Kind_ Id_ Key_ new Epoch_) := put1_mid (pre := (Blind_ ++ ([Name_, Kind_] ++ (Id_ ++ (Key_))))) (u := Realm_) (suf := ([Epoch_])) (by simp [c_api_Entry]) (by simp [r0.len, r3.len, r4.len]) (by simp [c_api_Entry])
instance c_api_Entry.p_Epoch (Blind_ : List Value) (Name_ : Value) (Kind_ : Value) (Id_ : List Value) (Key_ : List Value) (Realm_ : Value) (Epoch_ : Value) [r0 : Row Blind_ 32] [r3 : Row Id_ 32] [r4 : Row Key_ 32] : Cell (c_api_Entry Blind_ Name_ Kind_ Id_ Key_ Realm_ Epoch_) 99 Epoch_ := cell_mid (pre := (Blind_ ++ ([Name_, Kind_] ++ (Id_ ++ (Key_ ++ ([Realm_])))))) (suf := ([] : List Value)) (by simp [c_api_Entry]) (by simp [r0.len, r3.len, r4.len])
instance c_api_Entry.s_Epoch (Blind_ : List Value) (Name_ : Value) (Kind_ : Value) (Id_ : List Value) (Key_ : List Value) (Realm_ : Value) (Epoch_ : Value) (new : Value) [r0 : Row Blind_ 32] [r3 : Row Id_ 32] [r4 : Row Key_ 32] : Put1 (c_api_Entry Blind_ Name_ Kind_ Id_ Key_ Realm_ Epoch_) 99 new (c_api_Entry Blind_ Name_ Kind_ Id_ Key_ Realm_ new) := put1_mid (pre := (Blind_ ++ ([Name_, Kind_] ++ (Id_ ++ (Key_ ++ ([Realm_])))))) (u := Epoch_) (suf := ([] : List Value)) (by simp [c_api_Entry]) (by simp [r0.len, r3.len, r4.len]) (by simp [c_api_Entry])

/-- The cells of a tabulariumref21.Seen. -/
def c_tabulariumref21_Seen (Who_ : Value) (Realm_ : Value) (Epoch_ : Value) : List Value := ([Who_, Realm_, Epoch_])
instance c_tabulariumref21_Seen.row (Who_ : Value) (Realm_ : Value) (Epoch_ : Value)  [v0 : OneV Who_] [v1 : OneV Realm_] [v2 : OneV Epoch_] : Row (c_tabulariumref21_Seen Who_ Realm_ Epoch_) 3 := Row.mk' (by simp only [c_tabulariumref21_Seen, List.length_append, List.length_cons, List.length_nil]) (by
  intro u hu
  simp only [c_tabulariumref21_Seen, List.mem_append, List.mem_cons, List.not_mem_nil, or_false, or_assoc] at hu
  rcases hu with hu | hu | hu
  all_goals first | (subst hu; exact v0.one) | (subst hu; exact v1.one) | (subst hu; exact v2.one)) (by omega)
instance c_tabulariumref21_Seen.p_Who (Who_ : Value) (Realm_ : Value) (Epoch_ : Value)  : Cell (c_tabulariumref21_Seen Who_ Realm_ Epoch_) 0 Who_ := cell_mid (pre := ([] : List Value)) (suf := ([Realm_, Epoch_])) (by simp [c_tabulariumref21_Seen]) (by simp)
instance c_tabulariumref21_Seen.s_Who (Who_ : Value) (Realm_ : Value) (Epoch_ : Value) (new : Value)  : Put1 (c_tabulariumref21_Seen Who_ Realm_ Epoch_) 0 new (c_tabulariumref21_Seen new Realm_ Epoch_) := put1_mid (pre := ([] : List Value)) (u := Who_) (suf := ([Realm_, Epoch_])) (by simp [c_tabulariumref21_Seen]) (by simp) (by simp [c_tabulariumref21_Seen])
instance c_tabulariumref21_Seen.p_Realm (Who_ : Value) (Realm_ : Value) (Epoch_ : Value)  : Cell (c_tabulariumref21_Seen Who_ Realm_ Epoch_) 1 Realm_ := cell_mid (pre := ([Who_])) (suf := ([Epoch_])) (by simp [c_tabulariumref21_Seen]) (by simp)
instance c_tabulariumref21_Seen.s_Realm (Who_ : Value) (Realm_ : Value) (Epoch_ : Value) (new : Value)  : Put1 (c_tabulariumref21_Seen Who_ Realm_ Epoch_) 1 new (c_tabulariumref21_Seen Who_ new Epoch_) := put1_mid (pre := ([Who_])) (u := Realm_) (suf := ([Epoch_])) (by simp [c_tabulariumref21_Seen]) (by simp) (by simp [c_tabulariumref21_Seen])
instance c_tabulariumref21_Seen.p_Epoch (Who_ : Value) (Realm_ : Value) (Epoch_ : Value)  : Cell (c_tabulariumref21_Seen Who_ Realm_ Epoch_) 2 Epoch_ := cell_mid (pre := ([Who_, Realm_])) (suf := ([] : List Value)) (by simp [c_tabulariumref21_Seen]) (by simp)
instance c_tabulariumref21_Seen.s_Epoch (Who_ : Value) (Realm_ : Value) (Epoch_ : Value) (new : Value)  : Put1 (c_tabulariumref21_Seen Who_ Realm_ Epoch_) 2 new (c_tabulariumref21_Seen Who_ Realm_ new) := put1_mid (pre := ([Who_, Realm_])) (u := Epoch_) (suf := ([] : List Value)) (by simp [c_tabulariumref21_Seen]) (by simp) (by simp [c_tabulariumref21_Seen])

/-- The cells of a codec.Writer. -/
def c_codec_Writer (b_ : Value) : List Value := ([b_])
instance c_codec_Writer.row (b_ : Value)  [v0 : OneV b_] : Row (c_codec_Writer b_) 1 := Row.mk' (by simp only [c_codec_Writer, List.length_append, List.length_cons, List.length_nil]) (by
  intro u hu
  simp only [c_codec_Writer, List.mem_append, List.mem_cons, List.not_mem_nil, or_false] at hu
  first | (subst hu; exact v0.one)) (by omega)
instance c_codec_Writer.p_b (b_ : Value)  : Cell (c_codec_Writer b_) 0 b_ := cell_mid (pre := ([] : List Value)) (suf := ([] : List Value)) (by simp [c_codec_Writer]) (by simp)
instance c_codec_Writer.s_b (b_ : Value) (new : Value)  : Put1 (c_codec_Writer b_) 0 new (c_codec_Writer new) := put1_mid (pre := ([] : List Value)) (u := b_) (suf := ([] : List Value)) (by simp [c_codec_Writer]) (by simp) (by simp [c_codec_Writer])

/-- The cells of a acl.edge. -/
def c_acl_edge (from_ : Value) (to_ : Value) : List Value := ([from_, to_])
instance c_acl_edge.row (from_ : Value) (to_ : Value)  [v0 : OneV from_] [v1 : OneV to_] : Row (c_acl_edge from_ to_) 2 := Row.mk' (by simp only [c_acl_edge, List.length_append, List.length_cons, List.length_nil]) (by
  intro u hu
  simp only [c_acl_edge, List.mem_append, List.mem_cons, List.not_mem_nil, or_false, or_assoc] at hu
  rcases hu with hu | hu
  all_goals first | (subst hu; exact v0.one) | (subst hu; exact v1.one)) (by omega)
instance c_acl_edge.p_from (from_ : Value) (to_ : Value)  : Cell (c_acl_edge from_ to_) 0 from_ := cell_mid (pre := ([] : List Value)) (suf := ([to_])) (by simp [c_acl_edge]) (by simp)
instance c_acl_edge.s_from (from_ : Value) (to_ : Value) (new : Value)  : Put1 (c_acl_edge from_ to_) 0 new (c_acl_edge new to_) := put1_mid (pre := ([] : List Value)) (u := from_) (suf := ([to_])) (by simp [c_acl_edge]) (by simp) (by simp [c_acl_edge])
instance c_acl_edge.p_to (from_ : Value) (to_ : Value)  : Cell (c_acl_edge from_ to_) 1 to_ := cell_mid (pre := ([from_])) (suf := ([] : List Value)) (by simp [c_acl_edge]) (by simp)
instance c_acl_edge.s_to (from_ : Value) (to_ : Value) (new : Value)  : Put1 (c_acl_edge from_ to_) 1 new (c_acl_edge from_ new) := put1_mid (pre := ([from_])) (u := to_) (suf := ([] : List Value)) (by simp [c_acl_edge]) (by simp) (by simp [c_acl_edge])

/-- The cells of a acl.span. -/
def c_acl_span (realm_ : Value) (epoch_ : Value) : List Value := ([realm_, epoch_])
instance c_acl_span.row (realm_ : Value) (epoch_ : Value)  [v0 : OneV realm_] [v1 : OneV epoch_] : Row (c_acl_span realm_ epoch_) 2 := Row.mk' (by simp only [c_acl_span, List.length_append, List.length_cons, List.length_nil]) (by
  intro u hu
  simp only [c_acl_span, List.mem_append, List.mem_cons, List.not_mem_nil, or_false, or_assoc] at hu
  rcases hu with hu | hu
  all_goals first | (subst hu; exact v0.one) | (subst hu; exact v1.one)) (by omega)
instance c_acl_span.p_realm (realm_ : Value) (epoch_ : Value)  : Cell (c_acl_span realm_ epoch_) 0 realm_ := cell_mid (pre := ([] : List Value)) (suf := ([epoch_])) (by simp [c_acl_span]) (by simp)
instance c_acl_span.s_realm (realm_ : Value) (epoch_ : Value) (new : Value)  : Put1 (c_acl_span realm_ epoch_) 0 new (c_acl_span new epoch_) := put1_mid (pre := ([] : List Value)) (u := realm_) (suf := ([epoch_])) (by simp [c_acl_span]) (by simp) (by simp [c_acl_span])
instance c_acl_span.p_epoch (realm_ : Value) (epoch_ : Value)  : Cell (c_acl_span realm_ epoch_) 1 epoch_ := cell_mid (pre := ([realm_])) (suf := ([] : List Value)) (by simp [c_acl_span]) (by simp)
instance c_acl_span.s_epoch (realm_ : Value) (epoch_ : Value) (new : Value)  : Put1 (c_acl_span realm_ epoch_) 1 new (c_acl_span realm_ new) := put1_mid (pre := ([realm_])) (u := epoch_) (suf := ([] : List Value)) (by simp [c_acl_span]) (by simp) (by simp [c_acl_span])

/-- The cells of a tabulariumref08.Reader. -/
def c_tabulariumref08_Reader (B_ : Value) (Bad_ : Value) : List Value := ([B_, Bad_])
instance c_tabulariumref08_Reader.row (B_ : Value) (Bad_ : Value)  [v0 : OneV B_] [v1 : OneV Bad_] : Row (c_tabulariumref08_Reader B_ Bad_) 2 := Row.mk' (by simp only [c_tabulariumref08_Reader, List.length_append, List.length_cons, List.length_nil]) (by
  intro u hu
  simp only [c_tabulariumref08_Reader, List.mem_append, List.mem_cons, List.not_mem_nil, or_false, or_assoc] at hu
  rcases hu with hu | hu
  all_goals first | (subst hu; exact v0.one) | (subst hu; exact v1.one)) (by omega)
instance c_tabulariumref08_Reader.p_B (B_ : Value) (Bad_ : Value)  : Cell (c_tabulariumref08_Reader B_ Bad_) 0 B_ := cell_mid (pre := ([] : List Value)) (suf := ([Bad_])) (by simp [c_tabulariumref08_Reader]) (by simp)
instance c_tabulariumref08_Reader.s_B (B_ : Value) (Bad_ : Value) (new : Value)  : Put1 (c_tabulariumref08_Reader B_ Bad_) 0 new (c_tabulariumref08_Reader new Bad_) := put1_mid (pre := ([] : List Value)) (u := B_) (suf := ([Bad_])) (by simp [c_tabulariumref08_Reader]) (by simp) (by simp [c_tabulariumref08_Reader])
instance c_tabulariumref08_Reader.p_Bad (B_ : Value) (Bad_ : Value)  : Cell (c_tabulariumref08_Reader B_ Bad_) 1 Bad_ := cell_mid (pre := ([B_])) (suf := ([] : List Value)) (by simp [c_tabulariumref08_Reader]) (by simp)
instance c_tabulariumref08_Reader.s_Bad (B_ : Value) (Bad_ : Value) (new : Value)  : Put1 (c_tabulariumref08_Reader B_ Bad_) 1 new (c_tabulariumref08_Reader B_ new) := put1_mid (pre := ([B_])) (u := Bad_) (suf := ([] : List Value)) (by simp [c_tabulariumref08_Reader]) (by simp) (by simp [c_tabulariumref08_Reader])

/-- The cells of a codec.Reader. -/
def c_codec_Reader (b_ : Value) (good_ : Value) : List Value := ([b_, good_])
instance c_codec_Reader.row (b_ : Value) (good_ : Value)  [v0 : OneV b_] [v1 : OneV good_] : Row (c_codec_Reader b_ good_) 2 := Row.mk' (by simp only [c_codec_Reader, List.length_append, List.length_cons, List.length_nil]) (by
  intro u hu
  simp only [c_codec_Reader, List.mem_append, List.mem_cons, List.not_mem_nil, or_false, or_assoc] at hu
  rcases hu with hu | hu
  all_goals first | (subst hu; exact v0.one) | (subst hu; exact v1.one)) (by omega)
instance c_codec_Reader.p_b (b_ : Value) (good_ : Value)  : Cell (c_codec_Reader b_ good_) 0 b_ := cell_mid (pre := ([] : List Value)) (suf := ([good_])) (by simp [c_codec_Reader]) (by simp)
instance c_codec_Reader.s_b (b_ : Value) (good_ : Value) (new : Value)  : Put1 (c_codec_Reader b_ good_) 0 new (c_codec_Reader new good_) := put1_mid (pre := ([] : List Value)) (u := b_) (suf := ([good_])) (by simp [c_codec_Reader]) (by simp) (by simp [c_codec_Reader])
instance c_codec_Reader.p_good (b_ : Value) (good_ : Value)  : Cell (c_codec_Reader b_ good_) 1 good_ := cell_mid (pre := ([b_])) (suf := ([] : List Value)) (by simp [c_codec_Reader]) (by simp)
instance c_codec_Reader.s_good (b_ : Value) (good_ : Value) (new : Value)  : Put1 (c_codec_Reader b_ good_) 1 new (c_codec_Reader b_ new) := put1_mid (pre := ([b_])) (u := good_) (suf := ([] : List Value)) (by simp [c_codec_Reader]) (by simp) (by simp [c_codec_Reader])

/-- The cells of a tabulariumref21.Person. -/
def c_tabulariumref21_Person (Number_ : Value) (Secret_ : List Value) : List Value := ([Number_] ++ (Secret_))
instance c_tabulariumref21_Person.row (Number_ : Value) (Secret_ : List Value) [r1 : Row Secret_ 32] [v0 : OneV Number_] : Row (c_tabulariumref21_Person Number_ Secret_) 33 := Row.mk' (by simp only [c_tabulariumref21_Person, List.length_append, List.length_cons, List.length_nil, r1.len]) (by
  intro u hu
  simp only [c_tabulariumref21_Person, List.mem_append, List.mem_cons, List.not_mem_nil, or_false, or_assoc] at hu
  rcases hu with hu | hu
  all_goals first | (subst hu; exact v0.one) | (exact r1.one u hu)) (by omega)
instance c_tabulariumref21_Person.p_Number (Number_ : Value) (Secret_ : List Value) [r1 : Row Secret_ 32] : Cell (c_tabulariumref21_Person Number_ Secret_) 0 Number_ := cell_mid (pre := ([] : List Value)) (suf := (Secret_)) (by simp [c_tabulariumref21_Person]) (by simp [r1.len])
instance c_tabulariumref21_Person.s_Number (Number_ : Value) (Secret_ : List Value) (new : Value) [r1 : Row Secret_ 32] : Put1 (c_tabulariumref21_Person Number_ Secret_) 0 new (c_tabulariumref21_Person new Secret_) := put1_mid (pre := ([] : List Value)) (u := Number_) (suf := (Secret_)) (by simp [c_tabulariumref21_Person]) (by simp [r1.len]) (by simp [c_tabulariumref21_Person])
instance c_tabulariumref21_Person.p_Secret (Number_ : Value) (Secret_ : List Value) [r1 : Row Secret_ 32] : Part (c_tabulariumref21_Person Number_ Secret_) 1 32 Secret_ := part_mid (pre := ([Number_])) (suf := ([] : List Value)) (by simp [c_tabulariumref21_Person]) (by simp [r1.len]) r1.len
instance c_tabulariumref21_Person.s_Secret (Number_ : Value) (Secret_ : List Value) (new : List Value) [r1 : Row Secret_ 32] [rn : Row new 32] : PutN (c_tabulariumref21_Person Number_ Secret_) 1 new (c_tabulariumref21_Person Number_ new) := putN_mid (pre := ([Number_])) (suf := ([] : List Value)) (by simp [c_tabulariumref21_Person]) (by simp [r1.len]) r1.len rn.len (by simp [c_tabulariumref21_Person])

/-- The cells of a api.Box. -/
def c_api_Box (Kind_ : Value) (Of_ : Value) (Epoch_ : Value) (For_ : Value) (At_ : Value) (Ct_ : Value) : List Value := ([Kind_, Of_, Epoch_, For_, At_, Ct_])
instance c_api_Box.row (Kind_ : Value) (Of_ : Value) (Epoch_ : Value) (For_ : Value) (At_ : Value) (Ct_ : Value)  [v0 : OneV Kind_] [v1 : OneV Of_] [v2 : OneV Epoch_] [v3 : OneV For_] [v4 : OneV At_] [v5 : OneV Ct_] : Row (c_api_Box Kind_ Of_ Epoch_ For_ At_ Ct_) 6 := Row.mk' (by simp only [c_api_Box, List.length_append, List.length_cons, List.length_nil]) (by
  intro u hu
  simp only [c_api_Box, List.mem_append, List.mem_cons, List.not_mem_nil, or_false, or_assoc] at hu
  rcases hu with hu | hu | hu | hu | hu | hu
  all_goals first | (subst hu; exact v0.one) | (subst hu; exact v1.one) | (subst hu; exact v2.one) | (subst hu; exact v3.one) | (subst hu; exact v4.one) | (subst hu; exact v5.one)) (by omega)
instance c_api_Box.p_Kind (Kind_ : Value) (Of_ : Value) (Epoch_ : Value) (For_ : Value) (At_ : Value) (Ct_ : Value)  : Cell (c_api_Box Kind_ Of_ Epoch_ For_ At_ Ct_) 0 Kind_ := cell_mid (pre := ([] : List Value)) (suf := ([Of_, Epoch_, For_, At_, Ct_])) (by simp [c_api_Box]) (by simp)
instance c_api_Box.s_Kind (Kind_ : Value) (Of_ : Value) (Epoch_ : Value) (For_ : Value) (At_ : Value) (Ct_ : Value) (new : Value)  : Put1 (c_api_Box Kind_ Of_ Epoch_ For_ At_ Ct_) 0 new (c_api_Box new Of_ Epoch_ For_ At_ Ct_) := put1_mid (pre := ([] : List Value)) (u := Kind_) (suf := ([Of_, Epoch_, For_, At_, Ct_])) (by simp [c_api_Box]) (by simp) (by simp [c_api_Box])
instance c_api_Box.p_Of (Kind_ : Value) (Of_ : Value) (Epoch_ : Value) (For_ : Value) (At_ : Value) (Ct_ : Value)  : Cell (c_api_Box Kind_ Of_ Epoch_ For_ At_ Ct_) 1 Of_ := cell_mid (pre := ([Kind_])) (suf := ([Epoch_, For_, At_, Ct_])) (by simp [c_api_Box]) (by simp)
instance c_api_Box.s_Of (Kind_ : Value) (Of_ : Value) (Epoch_ : Value) (For_ : Value) (At_ : Value) (Ct_ : Value) (new : Value)  : Put1 (c_api_Box Kind_ Of_ Epoch_ For_ At_ Ct_) 1 new (c_api_Box Kind_ new Epoch_ For_ At_ Ct_) := put1_mid (pre := ([Kind_])) (u := Of_) (suf := ([Epoch_, For_, At_, Ct_])) (by simp [c_api_Box]) (by simp) (by simp [c_api_Box])
instance c_api_Box.p_Epoch (Kind_ : Value) (Of_ : Value) (Epoch_ : Value) (For_ : Value) (At_ : Value) (Ct_ : Value)  : Cell (c_api_Box Kind_ Of_ Epoch_ For_ At_ Ct_) 2 Epoch_ := cell_mid (pre := ([Kind_, Of_])) (suf := ([For_, At_, Ct_])) (by simp [c_api_Box]) (by simp)
instance c_api_Box.s_Epoch (Kind_ : Value) (Of_ : Value) (Epoch_ : Value) (For_ : Value) (At_ : Value) (Ct_ : Value) (new : Value)  : Put1 (c_api_Box Kind_ Of_ Epoch_ For_ At_ Ct_) 2 new (c_api_Box Kind_ Of_ new For_ At_ Ct_) := put1_mid (pre := ([Kind_, Of_])) (u := Epoch_) (suf := ([For_, At_, Ct_])) (by simp [c_api_Box]) (by simp) (by simp [c_api_Box])
instance c_api_Box.p_For (Kind_ : Value) (Of_ : Value) (Epoch_ : Value) (For_ : Value) (At_ : Value) (Ct_ : Value)  : Cell (c_api_Box Kind_ Of_ Epoch_ For_ At_ Ct_) 3 For_ := cell_mid (pre := ([Kind_, Of_, Epoch_])) (suf := ([At_, Ct_])) (by simp [c_api_Box]) (by simp)
instance c_api_Box.s_For (Kind_ : Value) (Of_ : Value) (Epoch_ : Value) (For_ : Value) (At_ : Value) (Ct_ : Value) (new : Value)  : Put1 (c_api_Box Kind_ Of_ Epoch_ For_ At_ Ct_) 3 new (c_api_Box Kind_ Of_ Epoch_ new At_ Ct_) := put1_mid (pre := ([Kind_, Of_, Epoch_])) (u := For_) (suf := ([At_, Ct_])) (by simp [c_api_Box]) (by simp) (by simp [c_api_Box])
instance c_api_Box.p_At (Kind_ : Value) (Of_ : Value) (Epoch_ : Value) (For_ : Value) (At_ : Value) (Ct_ : Value)  : Cell (c_api_Box Kind_ Of_ Epoch_ For_ At_ Ct_) 4 At_ := cell_mid (pre := ([Kind_, Of_, Epoch_, For_])) (suf := ([Ct_])) (by simp [c_api_Box]) (by simp)
instance c_api_Box.s_At (Kind_ : Value) (Of_ : Value) (Epoch_ : Value) (For_ : Value) (At_ : Value) (Ct_ : Value) (new : Value)  : Put1 (c_api_Box Kind_ Of_ Epoch_ For_ At_ Ct_) 4 new (c_api_Box Kind_ Of_ Epoch_ For_ new Ct_) := put1_mid (pre := ([Kind_, Of_, Epoch_, For_])) (u := At_) (suf := ([Ct_])) (by simp [c_api_Box]) (by simp) (by simp [c_api_Box])
instance c_api_Box.p_Ct (Kind_ : Value) (Of_ : Value) (Epoch_ : Value) (For_ : Value) (At_ : Value) (Ct_ : Value)  : Cell (c_api_Box Kind_ Of_ Epoch_ For_ At_ Ct_) 5 Ct_ := cell_mid (pre := ([Kind_, Of_, Epoch_, For_, At_])) (suf := ([] : List Value)) (by simp [c_api_Box]) (by simp)
instance c_api_Box.s_Ct (Kind_ : Value) (Of_ : Value) (Epoch_ : Value) (For_ : Value) (At_ : Value) (Ct_ : Value) (new : Value)  : Put1 (c_api_Box Kind_ Of_ Epoch_ For_ At_ Ct_) 5 new (c_api_Box Kind_ Of_ Epoch_ For_ At_ new) := put1_mid (pre := ([Kind_, Of_, Epoch_, For_, At_])) (u := Ct_) (suf := ([] : List Value)) (by simp [c_api_Box]) (by simp) (by simp [c_api_Box])

/-- The cells of a tabulariumref07.Suite. -/
def c_tabulariumref07_Suite (Mode_ : Value) (Tape_ : Value) (rows_ : Value) (A_ : Value) (B_ : Value) (Clash_ : Value) : List Value := ([Mode_, Tape_, rows_, A_, B_, Clash_])
instance c_tabulariumref07_Suite.row (Mode_ : Value) (Tape_ : Value) (rows_ : Value) (A_ : Value) (B_ : Value) (Clash_ : Value)  [v0 : OneV Mode_] [v1 : OneV Tape_] [v2 : OneV rows_] [v3 : OneV A_] [v4 : OneV B_] [v5 : OneV Clash_] : Row (c_tabulariumref07_Suite Mode_ Tape_ rows_ A_ B_ Clash_) 6 := Row.mk' (by simp only [c_tabulariumref07_Suite, List.length_append, List.length_cons, List.length_nil]) (by
  intro u hu
  simp only [c_tabulariumref07_Suite, List.mem_append, List.mem_cons, List.not_mem_nil, or_false, or_assoc] at hu
  rcases hu with hu | hu | hu | hu | hu | hu
  all_goals first | (subst hu; exact v0.one) | (subst hu; exact v1.one) | (subst hu; exact v2.one) | (subst hu; exact v3.one) | (subst hu; exact v4.one) | (subst hu; exact v5.one)) (by omega)
instance c_tabulariumref07_Suite.p_Mode (Mode_ : Value) (Tape_ : Value) (rows_ : Value) (A_ : Value) (B_ : Value) (Clash_ : Value)  : Cell (c_tabulariumref07_Suite Mode_ Tape_ rows_ A_ B_ Clash_) 0 Mode_ := cell_mid (pre := ([] : List Value)) (suf := ([Tape_, rows_, A_, B_, Clash_])) (by simp [c_tabulariumref07_Suite]) (by simp)
instance c_tabulariumref07_Suite.s_Mode (Mode_ : Value) (Tape_ : Value) (rows_ : Value) (A_ : Value) (B_ : Value) (Clash_ : Value) (new : Value)  : Put1 (c_tabulariumref07_Suite Mode_ Tape_ rows_ A_ B_ Clash_) 0 new (c_tabulariumref07_Suite new Tape_ rows_ A_ B_ Clash_) := put1_mid (pre := ([] : List Value)) (u := Mode_) (suf := ([Tape_, rows_, A_, B_, Clash_])) (by simp [c_tabulariumref07_Suite]) (by simp) (by simp [c_tabulariumref07_Suite])
instance c_tabulariumref07_Suite.p_Tape (Mode_ : Value) (Tape_ : Value) (rows_ : Value) (A_ : Value) (B_ : Value) (Clash_ : Value)  : Cell (c_tabulariumref07_Suite Mode_ Tape_ rows_ A_ B_ Clash_) 1 Tape_ := cell_mid (pre := ([Mode_])) (suf := ([rows_, A_, B_, Clash_])) (by simp [c_tabulariumref07_Suite]) (by simp)
instance c_tabulariumref07_Suite.s_Tape (Mode_ : Value) (Tape_ : Value) (rows_ : Value) (A_ : Value) (B_ : Value) (Clash_ : Value) (new : Value)  : Put1 (c_tabulariumref07_Suite Mode_ Tape_ rows_ A_ B_ Clash_) 1 new (c_tabulariumref07_Suite Mode_ new rows_ A_ B_ Clash_) := put1_mid (pre := ([Mode_])) (u := Tape_) (suf := ([rows_, A_, B_, Clash_])) (by simp [c_tabulariumref07_Suite]) (by simp) (by simp [c_tabulariumref07_Suite])
instance c_tabulariumref07_Suite.p_rows (Mode_ : Value) (Tape_ : Value) (rows_ : Value) (A_ : Value) (B_ : Value) (Clash_ : Value)  : Cell (c_tabulariumref07_Suite Mode_ Tape_ rows_ A_ B_ Clash_) 2 rows_ := cell_mid (pre := ([Mode_, Tape_])) (suf := ([A_, B_, Clash_])) (by simp [c_tabulariumref07_Suite]) (by simp)
instance c_tabulariumref07_Suite.s_rows (Mode_ : Value) (Tape_ : Value) (rows_ : Value) (A_ : Value) (B_ : Value) (Clash_ : Value) (new : Value)  : Put1 (c_tabulariumref07_Suite Mode_ Tape_ rows_ A_ B_ Clash_) 2 new (c_tabulariumref07_Suite Mode_ Tape_ new A_ B_ Clash_) := put1_mid (pre := ([Mode_, Tape_])) (u := rows_) (suf := ([A_, B_, Clash_])) (by simp [c_tabulariumref07_Suite]) (by simp) (by simp [c_tabulariumref07_Suite])
instance c_tabulariumref07_Suite.p_A (Mode_ : Value) (Tape_ : Value) (rows_ : Value) (A_ : Value) (B_ : Value) (Clash_ : Value)  : Cell (c_tabulariumref07_Suite Mode_ Tape_ rows_ A_ B_ Clash_) 3 A_ := cell_mid (pre := ([Mode_, Tape_, rows_])) (suf := ([B_, Clash_])) (by simp [c_tabulariumref07_Suite]) (by simp)
instance c_tabulariumref07_Suite.s_A (Mode_ : Value) (Tape_ : Value) (rows_ : Value) (A_ : Value) (B_ : Value) (Clash_ : Value) (new : Value)  : Put1 (c_tabulariumref07_Suite Mode_ Tape_ rows_ A_ B_ Clash_) 3 new (c_tabulariumref07_Suite Mode_ Tape_ rows_ new B_ Clash_) := put1_mid (pre := ([Mode_, Tape_, rows_])) (u := A_) (suf := ([B_, Clash_])) (by simp [c_tabulariumref07_Suite]) (by simp) (by simp [c_tabulariumref07_Suite])
instance c_tabulariumref07_Suite.p_B (Mode_ : Value) (Tape_ : Value) (rows_ : Value) (A_ : Value) (B_ : Value) (Clash_ : Value)  : Cell (c_tabulariumref07_Suite Mode_ Tape_ rows_ A_ B_ Clash_) 4 B_ := cell_mid (pre := ([Mode_, Tape_, rows_, A_])) (suf := ([Clash_])) (by simp [c_tabulariumref07_Suite]) (by simp)
instance c_tabulariumref07_Suite.s_B (Mode_ : Value) (Tape_ : Value) (rows_ : Value) (A_ : Value) (B_ : Value) (Clash_ : Value) (new : Value)  : Put1 (c_tabulariumref07_Suite Mode_ Tape_ rows_ A_ B_ Clash_) 4 new (c_tabulariumref07_Suite Mode_ Tape_ rows_ A_ new Clash_) := put1_mid (pre := ([Mode_, Tape_, rows_, A_])) (u := B_) (suf := ([Clash_])) (by simp [c_tabulariumref07_Suite]) (by simp) (by simp [c_tabulariumref07_Suite])
instance c_tabulariumref07_Suite.p_Clash (Mode_ : Value) (Tape_ : Value) (rows_ : Value) (A_ : Value) (B_ : Value) (Clash_ : Value)  : Cell (c_tabulariumref07_Suite Mode_ Tape_ rows_ A_ B_ Clash_) 5 Clash_ := cell_mid (pre := ([Mode_, Tape_, rows_, A_, B_])) (suf := ([] : List Value)) (by simp [c_tabulariumref07_Suite]) (by simp)
instance c_tabulariumref07_Suite.s_Clash (Mode_ : Value) (Tape_ : Value) (rows_ : Value) (A_ : Value) (B_ : Value) (Clash_ : Value) (new : Value)  : Put1 (c_tabulariumref07_Suite Mode_ Tape_ rows_ A_ B_ Clash_) 5 new (c_tabulariumref07_Suite Mode_ Tape_ rows_ A_ B_ new) := put1_mid (pre := ([Mode_, Tape_, rows_, A_, B_])) (u := Clash_) (suf := ([] : List Value)) (by simp [c_tabulariumref07_Suite]) (by simp) (by simp [c_tabulariumref07_Suite])

/-- The cells of a tabulariumref07.row. -/
def c_tabulariumref07_row (kind_ : Value) (k_ : List Value) (label_ : Value) (in_ : Value) (out_ : Value) : List Value := ([kind_] ++ (k_ ++ ([label_, in_, out_])))
instance c_tabulariumref07_row.row (kind_ : Value) (k_ : List Value) (label_ : Value) (in_ : Value) (out_ : Value) [r1 : Row k_ 32] [v0 : OneV kind_] [v2 : OneV label_] [v3 : OneV in_] [v4 : OneV out_] : Row (c_tabulariumref07_row kind_ k_ label_ in_ out_) 36 := Row.mk' (by simp only [c_tabulariumref07_row, List.length_append, List.length_cons, List.length_nil, r1.len]) (by
  intro u hu
  simp only [c_tabulariumref07_row, List.mem_append, List.mem_cons, List.not_mem_nil, or_false, or_assoc] at hu
  rcases hu with hu | hu | hu | hu | hu
  all_goals first | (subst hu; exact v0.one) | (exact r1.one u hu) | (subst hu; exact v2.one) | (subst hu; exact v3.one) | (subst hu; exact v4.one)) (by omega)
instance c_tabulariumref07_row.p_kind (kind_ : Value) (k_ : List Value) (label_ : Value) (in_ : Value) (out_ : Value) [r1 : Row k_ 32] : Cell (c_tabulariumref07_row kind_ k_ label_ in_ out_) 0 kind_ := cell_mid (pre := ([] : List Value)) (suf := (k_ ++ ([label_, in_, out_]))) (by simp [c_tabulariumref07_row]) (by simp [r1.len])
instance c_tabulariumref07_row.s_kind (kind_ : Value) (k_ : List Value) (label_ : Value) (in_ : Value) (out_ : Value) (new : Value) [r1 : Row k_ 32] : Put1 (c_tabulariumref07_row kind_ k_ label_ in_ out_) 0 new (c_tabulariumref07_row new k_ label_ in_ out_) := put1_mid (pre := ([] : List Value)) (u := kind_) (suf := (k_ ++ ([label_, in_, out_]))) (by simp [c_tabulariumref07_row]) (by simp [r1.len]) (by simp [c_tabulariumref07_row])
instance c_tabulariumref07_row.p_k (kind_ : Value) (k_ : List Value) (label_ : Value) (in_ : Value) (out_ : Value) [r1 : Row k_ 32] : Part (c_tabulariumref07_row kind_ k_ label_ in_ out_) 1 32 k_ := part_mid (pre := ([kind_])) (suf := ([label_, in_, out_])) (by simp [c_tabulariumref07_row]) (by simp [r1.len]) r1.len
instance c_tabulariumref07_row.s_k (kind_ : Value) (k_ : List Value) (label_ : Value) (in_ : Value) (out_ : Value) (new : List Value) [r1 : Row k_ 32] [rn : Row new 32] : PutN (c_tabulariumref07_row kind_ k_ label_ in_ out_) 1 new (c_tabulariumref07_row kind_ new label_ in_ out_) := putN_mid (pre := ([kind_])) (suf := ([label_, in_, out_])) (by simp [c_tabulariumref07_row]) (by simp [r1.len]) r1.len rn.len (by simp [c_tabulariumref07_row])
instance c_tabulariumref07_row.p_label (kind_ : Value) (k_ : List Value) (label_ : Value) (in_ : Value) (out_ : Value) [r1 : Row k_ 32] : Cell (c_tabulariumref07_row kind_ k_ label_ in_ out_) 33 label_ := cell_mid (pre := ([kind_] ++ (k_))) (suf := ([in_, out_])) (by simp [c_tabulariumref07_row]) (by simp [r1.len])
instance c_tabulariumref07_row.s_label (kind_ : Value) (k_ : List Value) (label_ : Value) (in_ : Value) (out_ : Value) (new : Value) [r1 : Row k_ 32] : Put1 (c_tabulariumref07_row kind_ k_ label_ in_ out_) 33 new (c_tabulariumref07_row kind_ k_ new in_ out_) := put1_mid (pre := ([kind_] ++ (k_))) (u := label_) (suf := ([in_, out_])) (by simp [c_tabulariumref07_row]) (by simp [r1.len]) (by simp [c_tabulariumref07_row])
instance c_tabulariumref07_row.p_in (kind_ : Value) (k_ : List Value) (label_ : Value) (in_ : Value) (out_ : Value) [r1 : Row k_ 32] : Cell (c_tabulariumref07_row kind_ k_ label_ in_ out_) 34 in_ := cell_mid (pre := ([kind_] ++ (k_ ++ ([label_])))) (suf := ([out_])) (by simp [c_tabulariumref07_row]) (by simp [r1.len])
instance c_tabulariumref07_row.s_in (kind_ : Value) (k_ : List Value) (label_ : Value) (in_ : Value) (out_ : Value) (new : Value) [r1 : Row k_ 32] : Put1 (c_tabulariumref07_row kind_ k_ label_ in_ out_) 34 new (c_tabulariumref07_row kind_ k_ label_ new out_) := put1_mid (pre := ([kind_] ++ (k_ ++ ([label_])))) (u := in_) (suf := ([out_])) (by simp [c_tabulariumref07_row]) (by simp [r1.len]) (by simp [c_tabulariumref07_row])
instance c_tabulariumref07_row.p_out (kind_ : Value) (k_ : List Value) (label_ : Value) (in_ : Value) (out_ : Value) [r1 : Row k_ 32] : Cell (c_tabulariumref07_row kind_ k_ label_ in_ out_) 35 out_ := cell_mid (pre := ([kind_] ++ (k_ ++ ([label_, in_])))) (suf := ([] : List Value)) (by simp [c_tabulariumref07_row]) (by simp [r1.len])
instance c_tabulariumref07_row.s_out (kind_ : Value) (k_ : List Value) (label_ : Value) (in_ : Value) (out_ : Value) (new : Value) [r1 : Row k_ 32] : Put1 (c_tabulariumref07_row kind_ k_ label_ in_ out_) 35 new (c_tabulariumref07_row kind_ k_ label_ in_ new) := put1_mid (pre := ([kind_] ++ (k_ ++ ([label_, in_])))) (u := out_) (suf := ([] : List Value)) (by simp [c_tabulariumref07_row]) (by simp [r1.len]) (by simp [c_tabulariumref07_row])

instance : One Try.prog 1 := ⟨⟨_, Try.underlying1, rfl⟩, by kernel_rfl⟩
instance : Siz Try.prog 1 1 := ⟨by kernel_rfl⟩
set_option maxRecDepth 100000 in
instance : Zer Try.prog 1 [.nilFunc] := ⟨.nilFunc, by kernel_rfl, rfl⟩
instance : One Try.prog 2 := ⟨⟨_, Try.underlying2, rfl⟩, by kernel_rfl⟩
instance : Siz Try.prog 2 1 := ⟨by kernel_rfl⟩
set_option maxRecDepth 100000 in
instance : Zer Try.prog 2 [.int .i64 0] := ⟨(.int .i64 0), by kernel_rfl, rfl⟩
instance : One Try.prog 3 := ⟨⟨_, Try.underlying3, rfl⟩, by kernel_rfl⟩
instance : Siz Try.prog 3 1 := ⟨by kernel_rfl⟩
set_option maxRecDepth 100000 in
instance : Zer Try.prog 3 [.int .i64 0] := ⟨(.int .i64 0), by kernel_rfl, rfl⟩
instance : One Try.prog 4 := ⟨⟨_, Try.underlying4, rfl⟩, by kernel_rfl⟩
instance : Siz Try.prog 4 1 := ⟨by kernel_rfl⟩
set_option maxRecDepth 100000 in
instance : Zer Try.prog 4 [.bool false] := ⟨(.bool false), by kernel_rfl, rfl⟩
instance : One Try.prog 5 := ⟨⟨_, Try.underlying5, rfl⟩, by kernel_rfl⟩
instance : Siz Try.prog 5 1 := ⟨by kernel_rfl⟩
set_option maxRecDepth 100000 in
instance : Zer Try.prog 5 [.int .u8 0] := ⟨(.int .u8 0), by kernel_rfl, rfl⟩
instance : One Try.prog 6 := ⟨⟨_, Try.underlying6, rfl⟩, by kernel_rfl⟩
instance : Siz Try.prog 6 1 := ⟨by kernel_rfl⟩
set_option maxRecDepth 100000 in
instance : Zer Try.prog 6 [.int .u8 0] := ⟨(.int .u8 0), by kernel_rfl, rfl⟩
instance : Siz Try.prog 7 4 := ⟨by kernel_rfl⟩
instance : Agg Try.prog 7 := ⟨_, Try.underlying7, rfl⟩
instance : Siz Try.prog 8 4 := ⟨by kernel_rfl⟩
instance : Agg Try.prog 8 := ⟨_, Try.underlying8, rfl⟩
instance : One Try.prog 9 := ⟨⟨_, Try.underlying9, rfl⟩, by kernel_rfl⟩
instance : Siz Try.prog 9 1 := ⟨by kernel_rfl⟩
set_option maxRecDepth 100000 in
instance : Zer Try.prog 9 [.string ByteArray.empty] := ⟨(.string ByteArray.empty), by kernel_rfl, rfl⟩
instance : One Try.prog 10 := ⟨⟨_, Try.underlying10, rfl⟩, by kernel_rfl⟩
instance : Siz Try.prog 10 1 := ⟨by kernel_rfl⟩
set_option maxRecDepth 100000 in
instance : Zer Try.prog 10 [.string ByteArray.empty] := ⟨(.string ByteArray.empty), by kernel_rfl, rfl⟩
instance : One Try.prog 11 := ⟨⟨_, Try.underlying11, rfl⟩, by kernel_rfl⟩
instance : Siz Try.prog 11 1 := ⟨by kernel_rfl⟩
set_option maxRecDepth 100000 in
instance : Zer Try.prog 11 [.string ByteArray.empty] := ⟨(.string ByteArray.empty), by kernel_rfl, rfl⟩
instance : One Try.prog 12 := ⟨⟨_, Try.underlying12, rfl⟩, by kernel_rfl⟩
instance : Siz Try.prog 12 1 := ⟨by kernel_rfl⟩
set_option maxRecDepth 100000 in
instance : Zer Try.prog 12 [.int .u64 0] := ⟨(.int .u64 0), by kernel_rfl, rfl⟩
instance : Siz Try.prog 13 2 := ⟨by kernel_rfl⟩
instance : Agg Try.prog 13 := ⟨_, Try.underlying13, rfl⟩
instance : Siz Try.prog 14 2 := ⟨by kernel_rfl⟩
instance : Agg Try.prog 14 := ⟨_, Try.underlying14, rfl⟩
instance : One Try.prog 15 := ⟨⟨_, Try.underlying15, rfl⟩, by kernel_rfl⟩
instance : Siz Try.prog 15 1 := ⟨by kernel_rfl⟩
set_option maxRecDepth 100000 in
instance : Zer Try.prog 15 [.pointer none] := ⟨(.pointer none), by kernel_rfl, rfl⟩
instance : One Try.prog 16 := ⟨⟨_, Try.underlying16, rfl⟩, by kernel_rfl⟩
instance : Siz Try.prog 16 1 := ⟨by kernel_rfl⟩
set_option maxRecDepth 100000 in
instance : Zer Try.prog 16 [.pointer none] := ⟨(.pointer none), by kernel_rfl, rfl⟩
instance : One Try.prog 17 := ⟨⟨_, Try.underlying17, rfl⟩, by kernel_rfl⟩
instance : Siz Try.prog 17 1 := ⟨by kernel_rfl⟩
set_option maxRecDepth 100000 in
instance : Zer Try.prog 17 [.pointer none] := ⟨(.pointer none), by kernel_rfl, rfl⟩
instance : Siz Try.prog 18 1 := ⟨by kernel_rfl⟩
instance : Agg Try.prog 18 := ⟨_, Try.underlying18, rfl⟩
instance : Siz Try.prog 19 1 := ⟨by kernel_rfl⟩
instance : Agg Try.prog 19 := ⟨_, Try.underlying19, rfl⟩
instance : One Try.prog 20 := ⟨⟨_, Try.underlying20, rfl⟩, by kernel_rfl⟩
instance : Siz Try.prog 20 1 := ⟨by kernel_rfl⟩
set_option maxRecDepth 100000 in
instance : Zer Try.prog 20 [.nilIface] := ⟨.nilIface, by kernel_rfl, rfl⟩
instance : One Try.prog 21 := ⟨⟨_, Try.underlying21, rfl⟩, by kernel_rfl⟩
instance : Siz Try.prog 21 1 := ⟨by kernel_rfl⟩
set_option maxRecDepth 100000 in
instance : Zer Try.prog 21 [.int .i32 0] := ⟨(.int .i32 0), by kernel_rfl, rfl⟩
instance : One Try.prog 22 := ⟨⟨_, Try.underlying22, rfl⟩, by kernel_rfl⟩
instance : Siz Try.prog 22 1 := ⟨by kernel_rfl⟩
set_option maxRecDepth 100000 in
instance : Zer Try.prog 22 [.slice none 0 0] := ⟨(.slice none 0 0), by kernel_rfl, rfl⟩
instance : Elm Try.prog 22 87 100 128 := elm_mk (z := .agg (c_api_Entry (u8s (zeros 32)) (.string ByteArray.empty) (.int .i64 0) (u8s (zeros 32)) (u8s (zeros 32)) (.int .u32 0) (.int .u32 0)).toArray) Try.underlying22 (by kernel_rfl) (by kernel_rfl) (by decide)
instance : One Try.prog 23 := ⟨⟨_, Try.underlying23, rfl⟩, by kernel_rfl⟩
instance : Siz Try.prog 23 1 := ⟨by kernel_rfl⟩
set_option maxRecDepth 100000 in
instance : Zer Try.prog 23 [.nilFunc] := ⟨.nilFunc, by kernel_rfl, rfl⟩
instance : One Try.prog 24 := ⟨⟨_, Try.underlying24, rfl⟩, by kernel_rfl⟩
instance : Siz Try.prog 24 1 := ⟨by kernel_rfl⟩
set_option maxRecDepth 100000 in
instance : Zer Try.prog 24 [.nilFunc] := ⟨.nilFunc, by kernel_rfl, rfl⟩
instance : One Try.prog 25 := ⟨⟨_, Try.underlying25, rfl⟩, by kernel_rfl⟩
instance : Siz Try.prog 25 1 := ⟨by kernel_rfl⟩
set_option maxRecDepth 100000 in
instance : Zer Try.prog 25 [.slice none 0 0] := ⟨(.slice none 0 0), by kernel_rfl, rfl⟩
instance : Elm Try.prog 25 5 1 1 := elm_mk (z := (.int .u8 0)) Try.underlying25 (by kernel_rfl) (by kernel_rfl) (by decide)
instance : One Try.prog 26 := ⟨⟨_, Try.underlying26, rfl⟩, by kernel_rfl⟩
instance : Siz Try.prog 26 1 := ⟨by kernel_rfl⟩
set_option maxRecDepth 100000 in
instance : Zer Try.prog 26 [.int .i64 0] := ⟨(.int .i64 0), by kernel_rfl, rfl⟩
instance : One Try.prog 28 := ⟨⟨_, Try.underlying28, rfl⟩, by kernel_rfl⟩
instance : Siz Try.prog 28 1 := ⟨by kernel_rfl⟩
set_option maxRecDepth 100000 in
instance : Zer Try.prog 28 [.nilFunc] := ⟨.nilFunc, by kernel_rfl, rfl⟩
instance : One Try.prog 30 := ⟨⟨_, Try.underlying30, rfl⟩, by kernel_rfl⟩
instance : Siz Try.prog 30 1 := ⟨by kernel_rfl⟩
set_option maxRecDepth 100000 in
instance : Zer Try.prog 30 [.nilFunc] := ⟨.nilFunc, by kernel_rfl, rfl⟩
instance : One Try.prog 31 := ⟨⟨_, Try.underlying31, rfl⟩, by kernel_rfl⟩
instance : Siz Try.prog 31 1 := ⟨by kernel_rfl⟩
set_option maxRecDepth 100000 in
instance : Zer Try.prog 31 [.slice none 0 0] := ⟨(.slice none 0 0), by kernel_rfl, rfl⟩
instance : Elm Try.prog 31 34 4 24 := elm_mk (z := .agg (c_api_Change (.int .i64 0) (.int .u32 0) (.int .u32 0) (.int .u32 0)).toArray) Try.underlying31 (by kernel_rfl) (by kernel_rfl) (by decide)
instance : One Try.prog 32 := ⟨⟨_, Try.underlying32, rfl⟩, by kernel_rfl⟩
instance : Siz Try.prog 32 1 := ⟨by kernel_rfl⟩
set_option maxRecDepth 100000 in
instance : Zer Try.prog 32 [.int .u32 0] := ⟨(.int .u32 0), by kernel_rfl, rfl⟩
instance : Siz Try.prog 33 4 := ⟨by kernel_rfl⟩
instance : Agg Try.prog 33 := ⟨_, Try.underlying33, rfl⟩
set_option maxRecDepth 100000 in
instance : Zer Try.prog 33 (c_api_Change (.int .i64 0) (.int .u32 0) (.int .u32 0) (.int .u32 0)) := ⟨.agg (c_api_Change (.int .i64 0) (.int .u32 0) (.int .u32 0) (.int .u32 0)).toArray, by kernel_rfl, rfl⟩
set_option maxRecDepth 100000 in
instance : Blt0 Try.prog 33 (c_api_Change (.int .i64 0) (.int .u32 0) (.int .u32 0) (.int .u32 0)) := ⟨by kernel_rfl⟩
set_option maxRecDepth 100000 in
instance : Places Try.prog 33 [(0, 1), (1, 1), (2, 1), (3, 1)] (c_api_Change (.int .i64 0) (.int .u32 0) (.int .u32 0) (.int .u32 0)) := ⟨fun parts => by kernel_rfl⟩
instance : Siz Try.prog 34 4 := ⟨by kernel_rfl⟩
instance : Agg Try.prog 34 := ⟨_, Try.underlying34, rfl⟩
set_option maxRecDepth 100000 in
instance : Zer Try.prog 34 (c_api_Change (.int .i64 0) (.int .u32 0) (.int .u32 0) (.int .u32 0)) := ⟨.agg (c_api_Change (.int .i64 0) (.int .u32 0) (.int .u32 0) (.int .u32 0)).toArray, by kernel_rfl, rfl⟩
set_option maxRecDepth 100000 in
instance : Blt0 Try.prog 34 (c_api_Change (.int .i64 0) (.int .u32 0) (.int .u32 0) (.int .u32 0)) := ⟨by kernel_rfl⟩
set_option maxRecDepth 100000 in
instance : Places Try.prog 34 [(0, 1), (1, 1), (2, 1), (3, 1)] (c_api_Change (.int .i64 0) (.int .u32 0) (.int .u32 0) (.int .u32 0)) := ⟨fun parts => by kernel_rfl⟩
instance : One Try.prog 35 := ⟨⟨_, Try.underlying35, rfl⟩, by kernel_rfl⟩
instance : Siz Try.prog 35 1 := ⟨by kernel_rfl⟩
set_option maxRecDepth 100000 in
instance : Zer Try.prog 35 [.pointer none] := ⟨(.pointer none), by kernel_rfl, rfl⟩
instance : One Try.prog 36 := ⟨⟨_, Try.underlying36, rfl⟩, by kernel_rfl⟩
instance : Siz Try.prog 36 1 := ⟨by kernel_rfl⟩
set_option maxRecDepth 100000 in
instance : Zer Try.prog 36 [.pointer none] := ⟨(.pointer none), by kernel_rfl, rfl⟩
instance : One Try.prog 38 := ⟨⟨_, Try.underlying38, rfl⟩, by kernel_rfl⟩
instance : Siz Try.prog 38 1 := ⟨by kernel_rfl⟩
set_option maxRecDepth 100000 in
instance : Zer Try.prog 38 [.nilFunc] := ⟨.nilFunc, by kernel_rfl, rfl⟩
instance : One Try.prog 40 := ⟨⟨_, Try.underlying40, rfl⟩, by kernel_rfl⟩
instance : Siz Try.prog 40 1 := ⟨by kernel_rfl⟩
set_option maxRecDepth 100000 in
instance : Zer Try.prog 40 [.nilFunc] := ⟨.nilFunc, by kernel_rfl, rfl⟩
instance : One Try.prog 41 := ⟨⟨_, Try.underlying41, rfl⟩, by kernel_rfl⟩
instance : Siz Try.prog 41 1 := ⟨by kernel_rfl⟩
set_option maxRecDepth 100000 in
instance : Zer Try.prog 41 [.nilFunc] := ⟨.nilFunc, by kernel_rfl, rfl⟩
instance : One Try.prog 42 := ⟨⟨_, Try.underlying42, rfl⟩, by kernel_rfl⟩
instance : Siz Try.prog 42 1 := ⟨by kernel_rfl⟩
set_option maxRecDepth 100000 in
instance : Zer Try.prog 42 [.nilFunc] := ⟨.nilFunc, by kernel_rfl, rfl⟩
instance : One Try.prog 43 := ⟨⟨_, Try.underlying43, rfl⟩, by kernel_rfl⟩
instance : Siz Try.prog 43 1 := ⟨by kernel_rfl⟩
set_option maxRecDepth 100000 in
instance : Zer Try.prog 43 [.nilFunc] := ⟨.nilFunc, by kernel_rfl, rfl⟩
instance : One Try.prog 44 := ⟨⟨_, Try.underlying44, rfl⟩, by kernel_rfl⟩
instance : Siz Try.prog 44 1 := ⟨by kernel_rfl⟩
set_option maxRecDepth 100000 in
instance : Zer Try.prog 44 [.nilFunc] := ⟨.nilFunc, by kernel_rfl, rfl⟩
instance : One Try.prog 45 := ⟨⟨_, Try.underlying45, rfl⟩, by kernel_rfl⟩
instance : Siz Try.prog 45 1 := ⟨by kernel_rfl⟩
set_option maxRecDepth 100000 in
instance : Zer Try.prog 45 [.map none] := ⟨(.map none), by kernel_rfl, rfl⟩
instance : One Try.prog 46 := ⟨⟨_, Try.underlying46, rfl⟩, by kernel_rfl⟩
instance : Siz Try.prog 46 1 := ⟨by kernel_rfl⟩
set_option maxRecDepth 100000 in
instance : Zer Try.prog 46 [.map none] := ⟨(.map none), by kernel_rfl, rfl⟩
instance : One Try.prog 47 := ⟨⟨_, Try.underlying47, rfl⟩, by kernel_rfl⟩
instance : Siz Try.prog 47 1 := ⟨by kernel_rfl⟩
set_option maxRecDepth 100000 in
instance : Zer Try.prog 47 [.map none] := ⟨(.map none), by kernel_rfl, rfl⟩
instance : One Try.prog 48 := ⟨⟨_, Try.underlying48, rfl⟩, by kernel_rfl⟩
instance : Siz Try.prog 48 1 := ⟨by kernel_rfl⟩
set_option maxRecDepth 100000 in
instance : Zer Try.prog 48 [.map none] := ⟨(.map none), by kernel_rfl, rfl⟩
instance : Siz Try.prog 49 6 := ⟨by kernel_rfl⟩
instance : Agg Try.prog 49 := ⟨_, Try.underlying49, rfl⟩
set_option maxRecDepth 100000 in
instance : Zer Try.prog 49 (c_acl_Model (.map none) (.map none) (.map none) (.map none) (.map none) (.map none)) := ⟨.agg (c_acl_Model (.map none) (.map none) (.map none) (.map none) (.map none) (.map none)).toArray, by kernel_rfl, rfl⟩
set_option maxRecDepth 100000 in
instance : Blt0 Try.prog 49 (c_acl_Model (.map none) (.map none) (.map none) (.map none) (.map none) (.map none)) := ⟨by kernel_rfl⟩
set_option maxRecDepth 100000 in
instance : Places Try.prog 49 [(0, 1), (1, 1), (2, 1), (3, 1), (4, 1), (5, 1)] (c_acl_Model (.map none) (.map none) (.map none) (.map none) (.map none) (.map none)) := ⟨fun parts => by kernel_rfl⟩
instance : Siz Try.prog 50 6 := ⟨by kernel_rfl⟩
instance : Agg Try.prog 50 := ⟨_, Try.underlying50, rfl⟩
set_option maxRecDepth 100000 in
instance : Zer Try.prog 50 (c_acl_Model (.map none) (.map none) (.map none) (.map none) (.map none) (.map none)) := ⟨.agg (c_acl_Model (.map none) (.map none) (.map none) (.map none) (.map none) (.map none)).toArray, by kernel_rfl, rfl⟩
set_option maxRecDepth 100000 in
instance : Blt0 Try.prog 50 (c_acl_Model (.map none) (.map none) (.map none) (.map none) (.map none) (.map none)) := ⟨by kernel_rfl⟩
set_option maxRecDepth 100000 in
instance : Places Try.prog 50 [(0, 1), (1, 1), (2, 1), (3, 1), (4, 1), (5, 1)] (c_acl_Model (.map none) (.map none) (.map none) (.map none) (.map none) (.map none)) := ⟨fun parts => by kernel_rfl⟩
instance : One Try.prog 51 := ⟨⟨_, Try.underlying51, rfl⟩, by kernel_rfl⟩
instance : Siz Try.prog 51 1 := ⟨by kernel_rfl⟩
set_option maxRecDepth 100000 in
instance : Zer Try.prog 51 [.nilFunc] := ⟨.nilFunc, by kernel_rfl, rfl⟩
instance : One Try.prog 52 := ⟨⟨_, Try.underlying52, rfl⟩, by kernel_rfl⟩
instance : Siz Try.prog 52 1 := ⟨by kernel_rfl⟩
set_option maxRecDepth 100000 in
instance : Zer Try.prog 52 [.nilFunc] := ⟨.nilFunc, by kernel_rfl, rfl⟩
instance : One Try.prog 53 := ⟨⟨_, Try.underlying53, rfl⟩, by kernel_rfl⟩
instance : Siz Try.prog 53 1 := ⟨by kernel_rfl⟩
set_option maxRecDepth 100000 in
instance : Zer Try.prog 53 [.nilFunc] := ⟨.nilFunc, by kernel_rfl, rfl⟩
instance : Siz Try.prog 54 32 := ⟨by kernel_rfl⟩
instance : Agg Try.prog 54 := ⟨_, Try.underlying54, rfl⟩
set_option maxRecDepth 100000 in
instance : Arr8 Try.prog 54 32 := ⟨⟨_, _, Try.underlying54, Try.underlying5, rfl, rfl⟩, by kernel_rfl⟩
set_option maxRecDepth 100000 in
instance : Zer Try.prog 54 (u8s (zeros 32)) := ⟨.agg (u8s (zeros 32)).toArray, by kernel_rfl, rfl⟩
set_option maxRecDepth 100000 in
instance : Blt0 Try.prog 54 (u8s (zeros 32)) := ⟨by kernel_rfl⟩
instance : Siz Try.prog 55 32 := ⟨by kernel_rfl⟩
instance : Agg Try.prog 55 := ⟨_, Try.underlying55, rfl⟩
set_option maxRecDepth 100000 in
instance : Arr8 Try.prog 55 32 := ⟨⟨_, _, Try.underlying55, Try.underlying5, rfl, rfl⟩, by kernel_rfl⟩
set_option maxRecDepth 100000 in
instance : Zer Try.prog 55 (u8s (zeros 32)) := ⟨.agg (u8s (zeros 32)).toArray, by kernel_rfl, rfl⟩
set_option maxRecDepth 100000 in
instance : Blt0 Try.prog 55 (u8s (zeros 32)) := ⟨by kernel_rfl⟩
instance : One Try.prog 56 := ⟨⟨_, Try.underlying56, rfl⟩, by kernel_rfl⟩
instance : Siz Try.prog 56 1 := ⟨by kernel_rfl⟩
set_option maxRecDepth 100000 in
instance : Zer Try.prog 56 [.slice none 0 0] := ⟨(.slice none 0 0), by kernel_rfl, rfl⟩
instance : Elm Try.prog 56 32 1 4 := elm_mk (z := (.int .u32 0)) Try.underlying56 (by kernel_rfl) (by kernel_rfl) (by decide)
instance : Siz Try.prog 57 35 := ⟨by kernel_rfl⟩
instance : Agg Try.prog 57 := ⟨_, Try.underlying57, rfl⟩
set_option maxRecDepth 100000 in
instance : Zer Try.prog 57 (c_tabulariumref21_Group (.int .u32 0) (.int .u32 0) (u8s (zeros 32)) (.slice none 0 0)) := ⟨.agg (c_tabulariumref21_Group (.int .u32 0) (.int .u32 0) (u8s (zeros 32)) (.slice none 0 0)).toArray, by kernel_rfl, rfl⟩
set_option maxRecDepth 100000 in
instance : Blt0 Try.prog 57 (c_tabulariumref21_Group (.int .u32 0) (.int .u32 0) (u8s (zeros 32)) (.slice none 0 0)) := ⟨by kernel_rfl⟩
set_option maxRecDepth 100000 in
instance : Places Try.prog 57 [(0, 1), (1, 1), (2, 32), (34, 1)] (c_tabulariumref21_Group (.int .u32 0) (.int .u32 0) (u8s (zeros 32)) (.slice none 0 0)) := ⟨fun parts => by kernel_rfl⟩
instance : Siz Try.prog 58 35 := ⟨by kernel_rfl⟩
instance : Agg Try.prog 58 := ⟨_, Try.underlying58, rfl⟩
set_option maxRecDepth 100000 in
instance : Zer Try.prog 58 (c_tabulariumref21_Group (.int .u32 0) (.int .u32 0) (u8s (zeros 32)) (.slice none 0 0)) := ⟨.agg (c_tabulariumref21_Group (.int .u32 0) (.int .u32 0) (u8s (zeros 32)) (.slice none 0 0)).toArray, by kernel_rfl, rfl⟩
set_option maxRecDepth 100000 in
instance : Blt0 Try.prog 58 (c_tabulariumref21_Group (.int .u32 0) (.int .u32 0) (u8s (zeros 32)) (.slice none 0 0)) := ⟨by kernel_rfl⟩
set_option maxRecDepth 100000 in
instance : Places Try.prog 58 [(0, 1), (1, 1), (2, 32), (34, 1)] (c_tabulariumref21_Group (.int .u32 0) (.int .u32 0) (u8s (zeros 32)) (.slice none 0 0)) := ⟨fun parts => by kernel_rfl⟩
instance : One Try.prog 59 := ⟨⟨_, Try.underlying59, rfl⟩, by kernel_rfl⟩
instance : Siz Try.prog 59 1 := ⟨by kernel_rfl⟩
set_option maxRecDepth 100000 in
instance : Zer Try.prog 59 [.pointer none] := ⟨(.pointer none), by kernel_rfl, rfl⟩
instance : One Try.prog 60 := ⟨⟨_, Try.underlying60, rfl⟩, by kernel_rfl⟩
instance : Siz Try.prog 60 1 := ⟨by kernel_rfl⟩
set_option maxRecDepth 100000 in
instance : Zer Try.prog 60 [.slice none 0 0] := ⟨(.slice none 0 0), by kernel_rfl, rfl⟩
instance : Elm Try.prog 60 182 33 36 := elm_mk (z := .agg (c_tabulariumref21_Person (.int .u32 0) (u8s (zeros 32))).toArray) Try.underlying60 (by kernel_rfl) (by kernel_rfl) (by decide)
instance : One Try.prog 61 := ⟨⟨_, Try.underlying61, rfl⟩, by kernel_rfl⟩
instance : Siz Try.prog 61 1 := ⟨by kernel_rfl⟩
set_option maxRecDepth 100000 in
instance : Zer Try.prog 61 [.slice none 0 0] := ⟨(.slice none 0 0), by kernel_rfl, rfl⟩
instance : Elm Try.prog 61 58 35 64 := elm_mk (z := .agg (c_tabulariumref21_Group (.int .u32 0) (.int .u32 0) (u8s (zeros 32)) (.slice none 0 0)).toArray) Try.underlying61 (by kernel_rfl) (by kernel_rfl) (by decide)
instance : One Try.prog 62 := ⟨⟨_, Try.underlying62, rfl⟩, by kernel_rfl⟩
instance : Siz Try.prog 62 1 := ⟨by kernel_rfl⟩
set_option maxRecDepth 100000 in
instance : Zer Try.prog 62 [.slice none 0 0] := ⟨(.slice none 0 0), by kernel_rfl, rfl⟩
instance : Elm Try.prog 62 68 35 64 := elm_mk (z := .agg (c_tabulariumref21_Realm (.int .u32 0) (.int .u32 0) (u8s (zeros 32)) (.slice none 0 0)).toArray) Try.underlying62 (by kernel_rfl) (by kernel_rfl) (by decide)
instance : One Try.prog 63 := ⟨⟨_, Try.underlying63, rfl⟩, by kernel_rfl⟩
instance : Siz Try.prog 63 1 := ⟨by kernel_rfl⟩
set_option maxRecDepth 100000 in
instance : Zer Try.prog 63 [.slice none 0 0] := ⟨(.slice none 0 0), by kernel_rfl, rfl⟩
instance : Elm Try.prog 63 208 6 48 := elm_mk (z := .agg (c_api_Box (.int .i64 0) (.int .u32 0) (.int .u32 0) (.int .u32 0) (.int .u32 0) (.slice none 0 0)).toArray) Try.underlying63 (by kernel_rfl) (by kernel_rfl) (by decide)
instance : One Try.prog 64 := ⟨⟨_, Try.underlying64, rfl⟩, by kernel_rfl⟩
instance : Siz Try.prog 64 1 := ⟨by kernel_rfl⟩
set_option maxRecDepth 100000 in
instance : Zer Try.prog 64 [.slice none 0 0] := ⟨(.slice none 0 0), by kernel_rfl, rfl⟩
instance : Elm Try.prog 64 98 3 12 := elm_mk (z := .agg (c_tabulariumref21_Seen (.int .u32 0) (.int .u32 0) (.int .u32 0)).toArray) Try.underlying64 (by kernel_rfl) (by kernel_rfl) (by decide)
instance : Siz Try.prog 65 6 := ⟨by kernel_rfl⟩
instance : Agg Try.prog 65 := ⟨_, Try.underlying65, rfl⟩
set_option maxRecDepth 100000 in
instance : Zer Try.prog 65 (c_tabulariumref21_Ring (.pointer none) (.slice none 0 0) (.slice none 0 0) (.slice none 0 0) (.slice none 0 0) (.slice none 0 0)) := ⟨.agg (c_tabulariumref21_Ring (.pointer none) (.slice none 0 0) (.slice none 0 0) (.slice none 0 0) (.slice none 0 0) (.slice none 0 0)).toArray, by kernel_rfl, rfl⟩
set_option maxRecDepth 100000 in
instance : Blt0 Try.prog 65 (c_tabulariumref21_Ring (.pointer none) (.slice none 0 0) (.slice none 0 0) (.slice none 0 0) (.slice none 0 0) (.slice none 0 0)) := ⟨by kernel_rfl⟩
set_option maxRecDepth 100000 in
instance : Places Try.prog 65 [(0, 1), (1, 1), (2, 1), (3, 1), (4, 1), (5, 1)] (c_tabulariumref21_Ring (.pointer none) (.slice none 0 0) (.slice none 0 0) (.slice none 0 0) (.slice none 0 0) (.slice none 0 0)) := ⟨fun parts => by kernel_rfl⟩
instance : Siz Try.prog 66 6 := ⟨by kernel_rfl⟩
instance : Agg Try.prog 66 := ⟨_, Try.underlying66, rfl⟩
set_option maxRecDepth 100000 in
instance : Zer Try.prog 66 (c_tabulariumref21_Ring (.pointer none) (.slice none 0 0) (.slice none 0 0) (.slice none 0 0) (.slice none 0 0) (.slice none 0 0)) := ⟨.agg (c_tabulariumref21_Ring (.pointer none) (.slice none 0 0) (.slice none 0 0) (.slice none 0 0) (.slice none 0 0) (.slice none 0 0)).toArray, by kernel_rfl, rfl⟩
set_option maxRecDepth 100000 in
instance : Blt0 Try.prog 66 (c_tabulariumref21_Ring (.pointer none) (.slice none 0 0) (.slice none 0 0) (.slice none 0 0) (.slice none 0 0) (.slice none 0 0)) := ⟨by kernel_rfl⟩
set_option maxRecDepth 100000 in
instance : Places Try.prog 66 [(0, 1), (1, 1), (2, 1), (3, 1), (4, 1), (5, 1)] (c_tabulariumref21_Ring (.pointer none) (.slice none 0 0) (.slice none 0 0) (.slice none 0 0) (.slice none 0 0) (.slice none 0 0)) := ⟨fun parts => by kernel_rfl⟩
instance : Siz Try.prog 67 35 := ⟨by kernel_rfl⟩
instance : Agg Try.prog 67 := ⟨_, Try.underlying67, rfl⟩
set_option maxRecDepth 100000 in
instance : Zer Try.prog 67 (c_tabulariumref21_Realm (.int .u32 0) (.int .u32 0) (u8s (zeros 32)) (.slice none 0 0)) := ⟨.agg (c_tabulariumref21_Realm (.int .u32 0) (.int .u32 0) (u8s (zeros 32)) (.slice none 0 0)).toArray, by kernel_rfl, rfl⟩
set_option maxRecDepth 100000 in
instance : Blt0 Try.prog 67 (c_tabulariumref21_Realm (.int .u32 0) (.int .u32 0) (u8s (zeros 32)) (.slice none 0 0)) := ⟨by kernel_rfl⟩
set_option maxRecDepth 100000 in
instance : Places Try.prog 67 [(0, 1), (1, 1), (2, 32), (34, 1)] (c_tabulariumref21_Realm (.int .u32 0) (.int .u32 0) (u8s (zeros 32)) (.slice none 0 0)) := ⟨fun parts => by kernel_rfl⟩
instance : Siz Try.prog 68 35 := ⟨by kernel_rfl⟩
instance : Agg Try.prog 68 := ⟨_, Try.underlying68, rfl⟩
set_option maxRecDepth 100000 in
instance : Zer Try.prog 68 (c_tabulariumref21_Realm (.int .u32 0) (.int .u32 0) (u8s (zeros 32)) (.slice none 0 0)) := ⟨.agg (c_tabulariumref21_Realm (.int .u32 0) (.int .u32 0) (u8s (zeros 32)) (.slice none 0 0)).toArray, by kernel_rfl, rfl⟩
set_option maxRecDepth 100000 in
instance : Blt0 Try.prog 68 (c_tabulariumref21_Realm (.int .u32 0) (.int .u32 0) (u8s (zeros 32)) (.slice none 0 0)) := ⟨by kernel_rfl⟩
set_option maxRecDepth 100000 in
instance : Places Try.prog 68 [(0, 1), (1, 1), (2, 32), (34, 1)] (c_tabulariumref21_Realm (.int .u32 0) (.int .u32 0) (u8s (zeros 32)) (.slice none 0 0)) := ⟨fun parts => by kernel_rfl⟩
instance : One Try.prog 69 := ⟨⟨_, Try.underlying69, rfl⟩, by kernel_rfl⟩
instance : Siz Try.prog 69 1 := ⟨by kernel_rfl⟩
set_option maxRecDepth 100000 in
instance : Zer Try.prog 69 [.nilFunc] := ⟨.nilFunc, by kernel_rfl, rfl⟩
instance : One Try.prog 70 := ⟨⟨_, Try.underlying70, rfl⟩, by kernel_rfl⟩
instance : Siz Try.prog 70 1 := ⟨by kernel_rfl⟩
set_option maxRecDepth 100000 in
instance : Zer Try.prog 70 [.slice none 0 0] := ⟨(.slice none 0 0), by kernel_rfl, rfl⟩
instance : Elm Try.prog 70 85 32 32 := elm_mk (z := .agg (u8s (zeros 32)).toArray) Try.underlying70 (by kernel_rfl) (by kernel_rfl) (by decide)
instance : Siz Try.prog 71 5 := ⟨by kernel_rfl⟩
instance : Agg Try.prog 71 := ⟨_, Try.underlying71, rfl⟩
set_option maxRecDepth 100000 in
instance : Zer Try.prog 71 (c_api_Envelope (.int .i64 0) (.int .u32 0) (.int .u32 0) (.slice none 0 0) (.slice none 0 0)) := ⟨.agg (c_api_Envelope (.int .i64 0) (.int .u32 0) (.int .u32 0) (.slice none 0 0) (.slice none 0 0)).toArray, by kernel_rfl, rfl⟩
set_option maxRecDepth 100000 in
instance : Blt0 Try.prog 71 (c_api_Envelope (.int .i64 0) (.int .u32 0) (.int .u32 0) (.slice none 0 0) (.slice none 0 0)) := ⟨by kernel_rfl⟩
set_option maxRecDepth 100000 in
instance : Places Try.prog 71 [(0, 1), (1, 1), (2, 1), (3, 1), (4, 1)] (c_api_Envelope (.int .i64 0) (.int .u32 0) (.int .u32 0) (.slice none 0 0) (.slice none 0 0)) := ⟨fun parts => by kernel_rfl⟩
instance : Siz Try.prog 72 5 := ⟨by kernel_rfl⟩
instance : Agg Try.prog 72 := ⟨_, Try.underlying72, rfl⟩
set_option maxRecDepth 100000 in
instance : Zer Try.prog 72 (c_api_Envelope (.int .i64 0) (.int .u32 0) (.int .u32 0) (.slice none 0 0) (.slice none 0 0)) := ⟨.agg (c_api_Envelope (.int .i64 0) (.int .u32 0) (.int .u32 0) (.slice none 0 0) (.slice none 0 0)).toArray, by kernel_rfl, rfl⟩
set_option maxRecDepth 100000 in
instance : Blt0 Try.prog 72 (c_api_Envelope (.int .i64 0) (.int .u32 0) (.int .u32 0) (.slice none 0 0) (.slice none 0 0)) := ⟨by kernel_rfl⟩
set_option maxRecDepth 100000 in
instance : Places Try.prog 72 [(0, 1), (1, 1), (2, 1), (3, 1), (4, 1)] (c_api_Envelope (.int .i64 0) (.int .u32 0) (.int .u32 0) (.slice none 0 0) (.slice none 0 0)) := ⟨fun parts => by kernel_rfl⟩
instance : One Try.prog 74 := ⟨⟨_, Try.underlying74, rfl⟩, by kernel_rfl⟩
instance : Siz Try.prog 74 1 := ⟨by kernel_rfl⟩
set_option maxRecDepth 100000 in
instance : Zer Try.prog 74 [.nilFunc] := ⟨.nilFunc, by kernel_rfl, rfl⟩
instance : One Try.prog 76 := ⟨⟨_, Try.underlying76, rfl⟩, by kernel_rfl⟩
instance : Siz Try.prog 76 1 := ⟨by kernel_rfl⟩
set_option maxRecDepth 100000 in
instance : Zer Try.prog 76 [.nilFunc] := ⟨.nilFunc, by kernel_rfl, rfl⟩
instance : One Try.prog 77 := ⟨⟨_, Try.underlying77, rfl⟩, by kernel_rfl⟩
instance : Siz Try.prog 77 1 := ⟨by kernel_rfl⟩
set_option maxRecDepth 100000 in
instance : Zer Try.prog 77 [.nilFunc] := ⟨.nilFunc, by kernel_rfl, rfl⟩
instance : One Try.prog 78 := ⟨⟨_, Try.underlying78, rfl⟩, by kernel_rfl⟩
instance : Siz Try.prog 78 1 := ⟨by kernel_rfl⟩
set_option maxRecDepth 100000 in
instance : Zer Try.prog 78 [.nilFunc] := ⟨.nilFunc, by kernel_rfl, rfl⟩
instance : One Try.prog 80 := ⟨⟨_, Try.underlying80, rfl⟩, by kernel_rfl⟩
instance : Siz Try.prog 80 1 := ⟨by kernel_rfl⟩
set_option maxRecDepth 100000 in
instance : Zer Try.prog 80 [.nilFunc] := ⟨.nilFunc, by kernel_rfl, rfl⟩
instance : One Try.prog 82 := ⟨⟨_, Try.underlying82, rfl⟩, by kernel_rfl⟩
instance : Siz Try.prog 82 1 := ⟨by kernel_rfl⟩
set_option maxRecDepth 100000 in
instance : Zer Try.prog 82 [.nilFunc] := ⟨.nilFunc, by kernel_rfl, rfl⟩
instance : One Try.prog 83 := ⟨⟨_, Try.underlying83, rfl⟩, by kernel_rfl⟩
instance : Siz Try.prog 83 1 := ⟨by kernel_rfl⟩
set_option maxRecDepth 100000 in
instance : Zer Try.prog 83 [.nilFunc] := ⟨.nilFunc, by kernel_rfl, rfl⟩
instance : One Try.prog 84 := ⟨⟨_, Try.underlying84, rfl⟩, by kernel_rfl⟩
instance : Siz Try.prog 84 1 := ⟨by kernel_rfl⟩
set_option maxRecDepth 100000 in
instance : Zer Try.prog 84 [.nilFunc] := ⟨.nilFunc, by kernel_rfl, rfl⟩
instance : Siz Try.prog 85 32 := ⟨by kernel_rfl⟩
instance : Agg Try.prog 85 := ⟨_, Try.underlying85, rfl⟩
set_option maxRecDepth 100000 in
instance : Arr8 Try.prog 85 32 := ⟨⟨_, _, Try.underlying85, Try.underlying5, rfl, rfl⟩, by kernel_rfl⟩
set_option maxRecDepth 100000 in
instance : Zer Try.prog 85 (u8s (zeros 32)) := ⟨.agg (u8s (zeros 32)).toArray, by kernel_rfl, rfl⟩
set_option maxRecDepth 100000 in
instance : Blt0 Try.prog 85 (u8s (zeros 32)) := ⟨by kernel_rfl⟩
instance : Siz Try.prog 86 100 := ⟨by kernel_rfl⟩
instance : Agg Try.prog 86 := ⟨_, Try.underlying86, rfl⟩
set_option maxRecDepth 100000 in
instance : Zer Try.prog 86 (c_api_Entry (u8s (zeros 32)) (.string ByteArray.empty) (.int .i64 0) (u8s (zeros 32)) (u8s (zeros 32)) (.int .u32 0) (.int .u32 0)) := ⟨.agg (c_api_Entry (u8s (zeros 32)) (.string ByteArray.empty) (.int .i64 0) (u8s (zeros 32)) (u8s (zeros 32)) (.int .u32 0) (.int .u32 0)).toArray, by kernel_rfl, rfl⟩
set_option maxRecDepth 100000 in
instance : Blt0 Try.prog 86 (c_api_Entry (u8s (zeros 32)) (.string ByteArray.empty) (.int .i64 0) (u8s (zeros 32)) (u8s (zeros 32)) (.int .u32 0) (.int .u32 0)) := ⟨by kernel_rfl⟩
set_option maxRecDepth 100000 in
instance : Places Try.prog 86 [(0, 32), (32, 1), (33, 1), (34, 32), (66, 32), (98, 1), (99, 1)] (c_api_Entry (u8s (zeros 32)) (.string ByteArray.empty) (.int .i64 0) (u8s (zeros 32)) (u8s (zeros 32)) (.int .u32 0) (.int .u32 0)) := ⟨fun parts => by kernel_rfl⟩
instance : Siz Try.prog 87 100 := ⟨by kernel_rfl⟩
instance : Agg Try.prog 87 := ⟨_, Try.underlying87, rfl⟩
set_option maxRecDepth 100000 in
instance : Zer Try.prog 87 (c_api_Entry (u8s (zeros 32)) (.string ByteArray.empty) (.int .i64 0) (u8s (zeros 32)) (u8s (zeros 32)) (.int .u32 0) (.int .u32 0)) := ⟨.agg (c_api_Entry (u8s (zeros 32)) (.string ByteArray.empty) (.int .i64 0) (u8s (zeros 32)) (u8s (zeros 32)) (.int .u32 0) (.int .u32 0)).toArray, by kernel_rfl, rfl⟩
set_option maxRecDepth 100000 in
instance : Blt0 Try.prog 87 (c_api_Entry (u8s (zeros 32)) (.string ByteArray.empty) (.int .i64 0) (u8s (zeros 32)) (u8s (zeros 32)) (.int .u32 0) (.int .u32 0)) := ⟨by kernel_rfl⟩
set_option maxRecDepth 100000 in
instance : Places Try.prog 87 [(0, 32), (32, 1), (33, 1), (34, 32), (66, 32), (98, 1), (99, 1)] (c_api_Entry (u8s (zeros 32)) (.string ByteArray.empty) (.int .i64 0) (u8s (zeros 32)) (u8s (zeros 32)) (.int .u32 0) (.int .u32 0)) := ⟨fun parts => by kernel_rfl⟩
instance : One Try.prog 88 := ⟨⟨_, Try.underlying88, rfl⟩, by kernel_rfl⟩
instance : Siz Try.prog 88 1 := ⟨by kernel_rfl⟩
set_option maxRecDepth 100000 in
instance : Zer Try.prog 88 [.nilFunc] := ⟨.nilFunc, by kernel_rfl, rfl⟩
instance : One Try.prog 89 := ⟨⟨_, Try.underlying89, rfl⟩, by kernel_rfl⟩
instance : Siz Try.prog 89 1 := ⟨by kernel_rfl⟩
set_option maxRecDepth 100000 in
instance : Zer Try.prog 89 [.nilFunc] := ⟨.nilFunc, by kernel_rfl, rfl⟩
instance : One Try.prog 91 := ⟨⟨_, Try.underlying91, rfl⟩, by kernel_rfl⟩
instance : Siz Try.prog 91 1 := ⟨by kernel_rfl⟩
set_option maxRecDepth 100000 in
instance : Zer Try.prog 91 [.nilFunc] := ⟨.nilFunc, by kernel_rfl, rfl⟩
instance : One Try.prog 92 := ⟨⟨_, Try.underlying92, rfl⟩, by kernel_rfl⟩
instance : Siz Try.prog 92 1 := ⟨by kernel_rfl⟩
set_option maxRecDepth 100000 in
instance : Zer Try.prog 92 [.nilFunc] := ⟨.nilFunc, by kernel_rfl, rfl⟩
instance : One Try.prog 93 := ⟨⟨_, Try.underlying93, rfl⟩, by kernel_rfl⟩
instance : Siz Try.prog 93 1 := ⟨by kernel_rfl⟩
set_option maxRecDepth 100000 in
instance : Zer Try.prog 93 [.nilFunc] := ⟨.nilFunc, by kernel_rfl, rfl⟩
instance : One Try.prog 94 := ⟨⟨_, Try.underlying94, rfl⟩, by kernel_rfl⟩
instance : Siz Try.prog 94 1 := ⟨by kernel_rfl⟩
set_option maxRecDepth 100000 in
instance : Zer Try.prog 94 [.nilFunc] := ⟨.nilFunc, by kernel_rfl, rfl⟩
instance : One Try.prog 95 := ⟨⟨_, Try.underlying95, rfl⟩, by kernel_rfl⟩
instance : Siz Try.prog 95 1 := ⟨by kernel_rfl⟩
set_option maxRecDepth 100000 in
instance : Zer Try.prog 95 [.nilFunc] := ⟨.nilFunc, by kernel_rfl, rfl⟩
instance : One Try.prog 96 := ⟨⟨_, Try.underlying96, rfl⟩, by kernel_rfl⟩
instance : Siz Try.prog 96 1 := ⟨by kernel_rfl⟩
set_option maxRecDepth 100000 in
instance : Zer Try.prog 96 [.nilFunc] := ⟨.nilFunc, by kernel_rfl, rfl⟩
instance : Siz Try.prog 97 3 := ⟨by kernel_rfl⟩
instance : Agg Try.prog 97 := ⟨_, Try.underlying97, rfl⟩
set_option maxRecDepth 100000 in
instance : Zer Try.prog 97 (c_tabulariumref21_Seen (.int .u32 0) (.int .u32 0) (.int .u32 0)) := ⟨.agg (c_tabulariumref21_Seen (.int .u32 0) (.int .u32 0) (.int .u32 0)).toArray, by kernel_rfl, rfl⟩
set_option maxRecDepth 100000 in
instance : Blt0 Try.prog 97 (c_tabulariumref21_Seen (.int .u32 0) (.int .u32 0) (.int .u32 0)) := ⟨by kernel_rfl⟩
set_option maxRecDepth 100000 in
instance : Places Try.prog 97 [(0, 1), (1, 1), (2, 1)] (c_tabulariumref21_Seen (.int .u32 0) (.int .u32 0) (.int .u32 0)) := ⟨fun parts => by kernel_rfl⟩
instance : Siz Try.prog 98 3 := ⟨by kernel_rfl⟩
instance : Agg Try.prog 98 := ⟨_, Try.underlying98, rfl⟩
set_option maxRecDepth 100000 in
instance : Zer Try.prog 98 (c_tabulariumref21_Seen (.int .u32 0) (.int .u32 0) (.int .u32 0)) := ⟨.agg (c_tabulariumref21_Seen (.int .u32 0) (.int .u32 0) (.int .u32 0)).toArray, by kernel_rfl, rfl⟩
set_option maxRecDepth 100000 in
instance : Blt0 Try.prog 98 (c_tabulariumref21_Seen (.int .u32 0) (.int .u32 0) (.int .u32 0)) := ⟨by kernel_rfl⟩
set_option maxRecDepth 100000 in
instance : Places Try.prog 98 [(0, 1), (1, 1), (2, 1)] (c_tabulariumref21_Seen (.int .u32 0) (.int .u32 0) (.int .u32 0)) := ⟨fun parts => by kernel_rfl⟩
instance : One Try.prog 99 := ⟨⟨_, Try.underlying99, rfl⟩, by kernel_rfl⟩
instance : Siz Try.prog 99 1 := ⟨by kernel_rfl⟩
set_option maxRecDepth 100000 in
instance : Zer Try.prog 99 [.nilFunc] := ⟨.nilFunc, by kernel_rfl, rfl⟩
instance : One Try.prog 100 := ⟨⟨_, Try.underlying100, rfl⟩, by kernel_rfl⟩
instance : Siz Try.prog 100 1 := ⟨by kernel_rfl⟩
set_option maxRecDepth 100000 in
instance : Zer Try.prog 100 [.slice none 0 0] := ⟨(.slice none 0 0), by kernel_rfl, rfl⟩
instance : Elm Try.prog 100 9 1 16 := elm_mk (z := (.string ByteArray.empty)) Try.underlying100 (by kernel_rfl) (by kernel_rfl) (by decide)
instance : One Try.prog 101 := ⟨⟨_, Try.underlying101, rfl⟩, by kernel_rfl⟩
instance : Siz Try.prog 101 1 := ⟨by kernel_rfl⟩
set_option maxRecDepth 100000 in
instance : Zer Try.prog 101 [.nilFunc] := ⟨.nilFunc, by kernel_rfl, rfl⟩
instance : One Try.prog 102 := ⟨⟨_, Try.underlying102, rfl⟩, by kernel_rfl⟩
instance : Siz Try.prog 102 1 := ⟨by kernel_rfl⟩
set_option maxRecDepth 100000 in
instance : Zer Try.prog 102 [.nilFunc] := ⟨.nilFunc, by kernel_rfl, rfl⟩
instance : One Try.prog 103 := ⟨⟨_, Try.underlying103, rfl⟩, by kernel_rfl⟩
instance : Siz Try.prog 103 1 := ⟨by kernel_rfl⟩
set_option maxRecDepth 100000 in
instance : Zer Try.prog 103 [.nilFunc] := ⟨.nilFunc, by kernel_rfl, rfl⟩
instance : One Try.prog 104 := ⟨⟨_, Try.underlying104, rfl⟩, by kernel_rfl⟩
instance : Siz Try.prog 104 1 := ⟨by kernel_rfl⟩
set_option maxRecDepth 100000 in
instance : Zer Try.prog 104 [.nilFunc] := ⟨.nilFunc, by kernel_rfl, rfl⟩
instance : One Try.prog 105 := ⟨⟨_, Try.underlying105, rfl⟩, by kernel_rfl⟩
instance : Siz Try.prog 105 1 := ⟨by kernel_rfl⟩
set_option maxRecDepth 100000 in
instance : Zer Try.prog 105 [.nilFunc] := ⟨.nilFunc, by kernel_rfl, rfl⟩
instance : One Try.prog 106 := ⟨⟨_, Try.underlying106, rfl⟩, by kernel_rfl⟩
instance : Siz Try.prog 106 1 := ⟨by kernel_rfl⟩
set_option maxRecDepth 100000 in
instance : Zer Try.prog 106 [.nilFunc] := ⟨.nilFunc, by kernel_rfl, rfl⟩
instance : One Try.prog 107 := ⟨⟨_, Try.underlying107, rfl⟩, by kernel_rfl⟩
instance : Siz Try.prog 107 1 := ⟨by kernel_rfl⟩
set_option maxRecDepth 100000 in
instance : Zer Try.prog 107 [.nilFunc] := ⟨.nilFunc, by kernel_rfl, rfl⟩
instance : One Try.prog 108 := ⟨⟨_, Try.underlying108, rfl⟩, by kernel_rfl⟩
instance : Siz Try.prog 108 1 := ⟨by kernel_rfl⟩
set_option maxRecDepth 100000 in
instance : Zer Try.prog 108 [.nilFunc] := ⟨.nilFunc, by kernel_rfl, rfl⟩
instance : One Try.prog 109 := ⟨⟨_, Try.underlying109, rfl⟩, by kernel_rfl⟩
instance : Siz Try.prog 109 1 := ⟨by kernel_rfl⟩
set_option maxRecDepth 100000 in
instance : Zer Try.prog 109 [.pointer none] := ⟨(.pointer none), by kernel_rfl, rfl⟩
instance : Siz Try.prog 110 1 := ⟨by kernel_rfl⟩
instance : Agg Try.prog 110 := ⟨_, Try.underlying110, rfl⟩
set_option maxRecDepth 100000 in
instance : Zer Try.prog 110 (c_codec_Writer (.slice none 0 0)) := ⟨.agg (c_codec_Writer (.slice none 0 0)).toArray, by kernel_rfl, rfl⟩
set_option maxRecDepth 100000 in
instance : Blt0 Try.prog 110 (c_codec_Writer (.slice none 0 0)) := ⟨by kernel_rfl⟩
set_option maxRecDepth 100000 in
instance : Places Try.prog 110 [(0, 1)] (c_codec_Writer (.slice none 0 0)) := ⟨fun parts => by kernel_rfl⟩
instance : Siz Try.prog 111 1 := ⟨by kernel_rfl⟩
instance : Agg Try.prog 111 := ⟨_, Try.underlying111, rfl⟩
set_option maxRecDepth 100000 in
instance : Zer Try.prog 111 (c_codec_Writer (.slice none 0 0)) := ⟨.agg (c_codec_Writer (.slice none 0 0)).toArray, by kernel_rfl, rfl⟩
set_option maxRecDepth 100000 in
instance : Blt0 Try.prog 111 (c_codec_Writer (.slice none 0 0)) := ⟨by kernel_rfl⟩
set_option maxRecDepth 100000 in
instance : Places Try.prog 111 [(0, 1)] (c_codec_Writer (.slice none 0 0)) := ⟨fun parts => by kernel_rfl⟩
instance : One Try.prog 112 := ⟨⟨_, Try.underlying112, rfl⟩, by kernel_rfl⟩
instance : Siz Try.prog 112 1 := ⟨by kernel_rfl⟩
set_option maxRecDepth 100000 in
instance : Zer Try.prog 112 [.nilFunc] := ⟨.nilFunc, by kernel_rfl, rfl⟩
instance : One Try.prog 113 := ⟨⟨_, Try.underlying113, rfl⟩, by kernel_rfl⟩
instance : Siz Try.prog 113 1 := ⟨by kernel_rfl⟩
set_option maxRecDepth 100000 in
instance : Zer Try.prog 113 [.int .u64 0] := ⟨(.int .u64 0), by kernel_rfl, rfl⟩
instance : One Try.prog 114 := ⟨⟨_, Try.underlying114, rfl⟩, by kernel_rfl⟩
instance : Siz Try.prog 114 1 := ⟨by kernel_rfl⟩
set_option maxRecDepth 100000 in
instance : Zer Try.prog 114 [.nilFunc] := ⟨.nilFunc, by kernel_rfl, rfl⟩
instance : One Try.prog 115 := ⟨⟨_, Try.underlying115, rfl⟩, by kernel_rfl⟩
instance : Siz Try.prog 115 1 := ⟨by kernel_rfl⟩
set_option maxRecDepth 100000 in
instance : Zer Try.prog 115 [.nilFunc] := ⟨.nilFunc, by kernel_rfl, rfl⟩
instance : One Try.prog 116 := ⟨⟨_, Try.underlying116, rfl⟩, by kernel_rfl⟩
instance : Siz Try.prog 116 1 := ⟨by kernel_rfl⟩
set_option maxRecDepth 100000 in
instance : Zer Try.prog 116 [.nilFunc] := ⟨.nilFunc, by kernel_rfl, rfl⟩
instance : One Try.prog 117 := ⟨⟨_, Try.underlying117, rfl⟩, by kernel_rfl⟩
instance : Siz Try.prog 117 1 := ⟨by kernel_rfl⟩
set_option maxRecDepth 100000 in
instance : Zer Try.prog 117 [.nilFunc] := ⟨.nilFunc, by kernel_rfl, rfl⟩
instance : One Try.prog 118 := ⟨⟨_, Try.underlying118, rfl⟩, by kernel_rfl⟩
instance : Siz Try.prog 118 1 := ⟨by kernel_rfl⟩
set_option maxRecDepth 100000 in
instance : Zer Try.prog 118 [.nilFunc] := ⟨.nilFunc, by kernel_rfl, rfl⟩
instance : One Try.prog 119 := ⟨⟨_, Try.underlying119, rfl⟩, by kernel_rfl⟩
instance : Siz Try.prog 119 1 := ⟨by kernel_rfl⟩
set_option maxRecDepth 100000 in
instance : Zer Try.prog 119 [.map none] := ⟨(.map none), by kernel_rfl, rfl⟩
instance : One Try.prog 120 := ⟨⟨_, Try.underlying120, rfl⟩, by kernel_rfl⟩
instance : Siz Try.prog 120 1 := ⟨by kernel_rfl⟩
set_option maxRecDepth 100000 in
instance : Zer Try.prog 120 [.nilFunc] := ⟨.nilFunc, by kernel_rfl, rfl⟩
instance : One Try.prog 121 := ⟨⟨_, Try.underlying121, rfl⟩, by kernel_rfl⟩
instance : Siz Try.prog 121 1 := ⟨by kernel_rfl⟩
set_option maxRecDepth 100000 in
instance : Zer Try.prog 121 [.nilFunc] := ⟨.nilFunc, by kernel_rfl, rfl⟩
instance : One Try.prog 122 := ⟨⟨_, Try.underlying122, rfl⟩, by kernel_rfl⟩
instance : Siz Try.prog 122 1 := ⟨by kernel_rfl⟩
set_option maxRecDepth 100000 in
instance : Zer Try.prog 122 [.nilFunc] := ⟨.nilFunc, by kernel_rfl, rfl⟩
instance : One Try.prog 123 := ⟨⟨_, Try.underlying123, rfl⟩, by kernel_rfl⟩
instance : Siz Try.prog 123 1 := ⟨by kernel_rfl⟩
set_option maxRecDepth 100000 in
instance : Zer Try.prog 123 [.nilFunc] := ⟨.nilFunc, by kernel_rfl, rfl⟩
instance : One Try.prog 124 := ⟨⟨_, Try.underlying124, rfl⟩, by kernel_rfl⟩
instance : Siz Try.prog 124 1 := ⟨by kernel_rfl⟩
set_option maxRecDepth 100000 in
instance : Zer Try.prog 124 [.nilFunc] := ⟨.nilFunc, by kernel_rfl, rfl⟩
instance : Siz Try.prog 125 2 := ⟨by kernel_rfl⟩
instance : Agg Try.prog 125 := ⟨_, Try.underlying125, rfl⟩
set_option maxRecDepth 100000 in
instance : Zer Try.prog 125 (c_acl_edge (.int .u32 0) (.int .u32 0)) := ⟨.agg (c_acl_edge (.int .u32 0) (.int .u32 0)).toArray, by kernel_rfl, rfl⟩
set_option maxRecDepth 100000 in
instance : Blt0 Try.prog 125 (c_acl_edge (.int .u32 0) (.int .u32 0)) := ⟨by kernel_rfl⟩
set_option maxRecDepth 100000 in
instance : Places Try.prog 125 [(0, 1), (1, 1)] (c_acl_edge (.int .u32 0) (.int .u32 0)) := ⟨fun parts => by kernel_rfl⟩
instance : Siz Try.prog 126 2 := ⟨by kernel_rfl⟩
instance : Agg Try.prog 126 := ⟨_, Try.underlying126, rfl⟩
set_option maxRecDepth 100000 in
instance : Zer Try.prog 126 (c_acl_edge (.int .u32 0) (.int .u32 0)) := ⟨.agg (c_acl_edge (.int .u32 0) (.int .u32 0)).toArray, by kernel_rfl, rfl⟩
set_option maxRecDepth 100000 in
instance : Blt0 Try.prog 126 (c_acl_edge (.int .u32 0) (.int .u32 0)) := ⟨by kernel_rfl⟩
set_option maxRecDepth 100000 in
instance : Places Try.prog 126 [(0, 1), (1, 1)] (c_acl_edge (.int .u32 0) (.int .u32 0)) := ⟨fun parts => by kernel_rfl⟩
instance : Siz Try.prog 127 2 := ⟨by kernel_rfl⟩
instance : Agg Try.prog 127 := ⟨_, Try.underlying127, rfl⟩
set_option maxRecDepth 100000 in
instance : Zer Try.prog 127 (c_acl_span (.int .u32 0) (.int .u32 0)) := ⟨.agg (c_acl_span (.int .u32 0) (.int .u32 0)).toArray, by kernel_rfl, rfl⟩
set_option maxRecDepth 100000 in
instance : Blt0 Try.prog 127 (c_acl_span (.int .u32 0) (.int .u32 0)) := ⟨by kernel_rfl⟩
set_option maxRecDepth 100000 in
instance : Places Try.prog 127 [(0, 1), (1, 1)] (c_acl_span (.int .u32 0) (.int .u32 0)) := ⟨fun parts => by kernel_rfl⟩
instance : Siz Try.prog 128 2 := ⟨by kernel_rfl⟩
instance : Agg Try.prog 128 := ⟨_, Try.underlying128, rfl⟩
set_option maxRecDepth 100000 in
instance : Zer Try.prog 128 (c_acl_span (.int .u32 0) (.int .u32 0)) := ⟨.agg (c_acl_span (.int .u32 0) (.int .u32 0)).toArray, by kernel_rfl, rfl⟩
set_option maxRecDepth 100000 in
instance : Blt0 Try.prog 128 (c_acl_span (.int .u32 0) (.int .u32 0)) := ⟨by kernel_rfl⟩
set_option maxRecDepth 100000 in
instance : Places Try.prog 128 [(0, 1), (1, 1)] (c_acl_span (.int .u32 0) (.int .u32 0)) := ⟨fun parts => by kernel_rfl⟩
instance : One Try.prog 129 := ⟨⟨_, Try.underlying129, rfl⟩, by kernel_rfl⟩
instance : Siz Try.prog 129 1 := ⟨by kernel_rfl⟩
set_option maxRecDepth 100000 in
instance : Zer Try.prog 129 [.nilFunc] := ⟨.nilFunc, by kernel_rfl, rfl⟩
instance : One Try.prog 130 := ⟨⟨_, Try.underlying130, rfl⟩, by kernel_rfl⟩
instance : Siz Try.prog 130 1 := ⟨by kernel_rfl⟩
set_option maxRecDepth 100000 in
instance : Zer Try.prog 130 [.pointer none] := ⟨(.pointer none), by kernel_rfl, rfl⟩
instance : One Try.prog 131 := ⟨⟨_, Try.underlying131, rfl⟩, by kernel_rfl⟩
instance : Siz Try.prog 131 1 := ⟨by kernel_rfl⟩
set_option maxRecDepth 100000 in
instance : Zer Try.prog 131 [.nilFunc] := ⟨.nilFunc, by kernel_rfl, rfl⟩
instance : One Try.prog 132 := ⟨⟨_, Try.underlying132, rfl⟩, by kernel_rfl⟩
instance : Siz Try.prog 132 1 := ⟨by kernel_rfl⟩
set_option maxRecDepth 100000 in
instance : Zer Try.prog 132 [.nilFunc] := ⟨.nilFunc, by kernel_rfl, rfl⟩
instance : One Try.prog 133 := ⟨⟨_, Try.underlying133, rfl⟩, by kernel_rfl⟩
instance : Siz Try.prog 133 1 := ⟨by kernel_rfl⟩
set_option maxRecDepth 100000 in
instance : Zer Try.prog 133 [.nilFunc] := ⟨.nilFunc, by kernel_rfl, rfl⟩
instance : One Try.prog 134 := ⟨⟨_, Try.underlying134, rfl⟩, by kernel_rfl⟩
instance : Siz Try.prog 134 1 := ⟨by kernel_rfl⟩
set_option maxRecDepth 100000 in
instance : Zer Try.prog 134 [.nilFunc] := ⟨.nilFunc, by kernel_rfl, rfl⟩
instance : One Try.prog 135 := ⟨⟨_, Try.underlying135, rfl⟩, by kernel_rfl⟩
instance : Siz Try.prog 135 1 := ⟨by kernel_rfl⟩
set_option maxRecDepth 100000 in
instance : Zer Try.prog 135 [.nilFunc] := ⟨.nilFunc, by kernel_rfl, rfl⟩
instance : One Try.prog 136 := ⟨⟨_, Try.underlying136, rfl⟩, by kernel_rfl⟩
instance : Siz Try.prog 136 1 := ⟨by kernel_rfl⟩
set_option maxRecDepth 100000 in
instance : Zer Try.prog 136 [.nilFunc] := ⟨.nilFunc, by kernel_rfl, rfl⟩
instance : One Try.prog 137 := ⟨⟨_, Try.underlying137, rfl⟩, by kernel_rfl⟩
instance : Siz Try.prog 137 1 := ⟨by kernel_rfl⟩
set_option maxRecDepth 100000 in
instance : Zer Try.prog 137 [.pointer none] := ⟨(.pointer none), by kernel_rfl, rfl⟩
instance : Siz Try.prog 138 2 := ⟨by kernel_rfl⟩
instance : Agg Try.prog 138 := ⟨_, Try.underlying138, rfl⟩
set_option maxRecDepth 100000 in
instance : Zer Try.prog 138 (c_tabulariumref08_Reader (.slice none 0 0) (.bool false)) := ⟨.agg (c_tabulariumref08_Reader (.slice none 0 0) (.bool false)).toArray, by kernel_rfl, rfl⟩
set_option maxRecDepth 100000 in
instance : Blt0 Try.prog 138 (c_tabulariumref08_Reader (.slice none 0 0) (.bool false)) := ⟨by kernel_rfl⟩
set_option maxRecDepth 100000 in
instance : Places Try.prog 138 [(0, 1), (1, 1)] (c_tabulariumref08_Reader (.slice none 0 0) (.bool false)) := ⟨fun parts => by kernel_rfl⟩
instance : Siz Try.prog 139 2 := ⟨by kernel_rfl⟩
instance : Agg Try.prog 139 := ⟨_, Try.underlying139, rfl⟩
set_option maxRecDepth 100000 in
instance : Zer Try.prog 139 (c_tabulariumref08_Reader (.slice none 0 0) (.bool false)) := ⟨.agg (c_tabulariumref08_Reader (.slice none 0 0) (.bool false)).toArray, by kernel_rfl, rfl⟩
set_option maxRecDepth 100000 in
instance : Blt0 Try.prog 139 (c_tabulariumref08_Reader (.slice none 0 0) (.bool false)) := ⟨by kernel_rfl⟩
set_option maxRecDepth 100000 in
instance : Places Try.prog 139 [(0, 1), (1, 1)] (c_tabulariumref08_Reader (.slice none 0 0) (.bool false)) := ⟨fun parts => by kernel_rfl⟩
instance : One Try.prog 140 := ⟨⟨_, Try.underlying140, rfl⟩, by kernel_rfl⟩
instance : Siz Try.prog 140 1 := ⟨by kernel_rfl⟩
set_option maxRecDepth 100000 in
instance : Zer Try.prog 140 [.nilFunc] := ⟨.nilFunc, by kernel_rfl, rfl⟩
instance : One Try.prog 141 := ⟨⟨_, Try.underlying141, rfl⟩, by kernel_rfl⟩
instance : Siz Try.prog 141 1 := ⟨by kernel_rfl⟩
set_option maxRecDepth 100000 in
instance : Zer Try.prog 141 [.nilFunc] := ⟨.nilFunc, by kernel_rfl, rfl⟩
instance : One Try.prog 142 := ⟨⟨_, Try.underlying142, rfl⟩, by kernel_rfl⟩
instance : Siz Try.prog 142 1 := ⟨by kernel_rfl⟩
set_option maxRecDepth 100000 in
instance : Zer Try.prog 142 [.nilFunc] := ⟨.nilFunc, by kernel_rfl, rfl⟩
instance : One Try.prog 143 := ⟨⟨_, Try.underlying143, rfl⟩, by kernel_rfl⟩
instance : Siz Try.prog 143 1 := ⟨by kernel_rfl⟩
set_option maxRecDepth 100000 in
instance : Zer Try.prog 143 [.nilFunc] := ⟨.nilFunc, by kernel_rfl, rfl⟩
instance : One Try.prog 144 := ⟨⟨_, Try.underlying144, rfl⟩, by kernel_rfl⟩
instance : Siz Try.prog 144 1 := ⟨by kernel_rfl⟩
set_option maxRecDepth 100000 in
instance : Zer Try.prog 144 [.nilFunc] := ⟨.nilFunc, by kernel_rfl, rfl⟩
instance : One Try.prog 145 := ⟨⟨_, Try.underlying145, rfl⟩, by kernel_rfl⟩
instance : Siz Try.prog 145 1 := ⟨by kernel_rfl⟩
set_option maxRecDepth 100000 in
instance : Zer Try.prog 145 [.nilFunc] := ⟨.nilFunc, by kernel_rfl, rfl⟩
instance : One Try.prog 146 := ⟨⟨_, Try.underlying146, rfl⟩, by kernel_rfl⟩
instance : Siz Try.prog 146 1 := ⟨by kernel_rfl⟩
set_option maxRecDepth 100000 in
instance : Zer Try.prog 146 [.nilFunc] := ⟨.nilFunc, by kernel_rfl, rfl⟩
instance : One Try.prog 147 := ⟨⟨_, Try.underlying147, rfl⟩, by kernel_rfl⟩
instance : Siz Try.prog 147 1 := ⟨by kernel_rfl⟩
set_option maxRecDepth 100000 in
instance : Zer Try.prog 147 [.nilFunc] := ⟨.nilFunc, by kernel_rfl, rfl⟩
instance : One Try.prog 148 := ⟨⟨_, Try.underlying148, rfl⟩, by kernel_rfl⟩
instance : Siz Try.prog 148 1 := ⟨by kernel_rfl⟩
set_option maxRecDepth 100000 in
instance : Zer Try.prog 148 [.nilFunc] := ⟨.nilFunc, by kernel_rfl, rfl⟩
instance : One Try.prog 149 := ⟨⟨_, Try.underlying149, rfl⟩, by kernel_rfl⟩
instance : Siz Try.prog 149 1 := ⟨by kernel_rfl⟩
set_option maxRecDepth 100000 in
instance : Zer Try.prog 149 [.nilFunc] := ⟨.nilFunc, by kernel_rfl, rfl⟩
instance : One Try.prog 150 := ⟨⟨_, Try.underlying150, rfl⟩, by kernel_rfl⟩
instance : Siz Try.prog 150 1 := ⟨by kernel_rfl⟩
set_option maxRecDepth 100000 in
instance : Zer Try.prog 150 [.nilFunc] := ⟨.nilFunc, by kernel_rfl, rfl⟩
instance : One Try.prog 151 := ⟨⟨_, Try.underlying151, rfl⟩, by kernel_rfl⟩
instance : Siz Try.prog 151 1 := ⟨by kernel_rfl⟩
set_option maxRecDepth 100000 in
instance : Zer Try.prog 151 [.nilFunc] := ⟨.nilFunc, by kernel_rfl, rfl⟩
instance : One Try.prog 152 := ⟨⟨_, Try.underlying152, rfl⟩, by kernel_rfl⟩
instance : Siz Try.prog 152 1 := ⟨by kernel_rfl⟩
set_option maxRecDepth 100000 in
instance : Zer Try.prog 152 [.nilFunc] := ⟨.nilFunc, by kernel_rfl, rfl⟩
instance : One Try.prog 153 := ⟨⟨_, Try.underlying153, rfl⟩, by kernel_rfl⟩
instance : Siz Try.prog 153 1 := ⟨by kernel_rfl⟩
set_option maxRecDepth 100000 in
instance : Zer Try.prog 153 [.nilFunc] := ⟨.nilFunc, by kernel_rfl, rfl⟩
instance : One Try.prog 154 := ⟨⟨_, Try.underlying154, rfl⟩, by kernel_rfl⟩
instance : Siz Try.prog 154 1 := ⟨by kernel_rfl⟩
set_option maxRecDepth 100000 in
instance : Zer Try.prog 154 [.nilFunc] := ⟨.nilFunc, by kernel_rfl, rfl⟩
instance : One Try.prog 155 := ⟨⟨_, Try.underlying155, rfl⟩, by kernel_rfl⟩
instance : Siz Try.prog 155 1 := ⟨by kernel_rfl⟩
set_option maxRecDepth 100000 in
instance : Zer Try.prog 155 [.slice none 0 0] := ⟨(.slice none 0 0), by kernel_rfl, rfl⟩
instance : Elm Try.prog 155 113 1 8 := elm_mk (z := (.int .u64 0)) Try.underlying155 (by kernel_rfl) (by kernel_rfl) (by decide)
instance : One Try.prog 156 := ⟨⟨_, Try.underlying156, rfl⟩, by kernel_rfl⟩
instance : Siz Try.prog 156 1 := ⟨by kernel_rfl⟩
set_option maxRecDepth 100000 in
instance : Zer Try.prog 156 [.int .u64 0] := ⟨(.int .u64 0), by kernel_rfl, rfl⟩
instance : One Try.prog 157 := ⟨⟨_, Try.underlying157, rfl⟩, by kernel_rfl⟩
instance : Siz Try.prog 157 1 := ⟨by kernel_rfl⟩
set_option maxRecDepth 100000 in
instance : Zer Try.prog 157 [.slice none 0 0] := ⟨(.slice none 0 0), by kernel_rfl, rfl⟩
instance : Elm Try.prog 157 25 1 24 := elm_mk (z := (.slice none 0 0)) Try.underlying157 (by kernel_rfl) (by kernel_rfl) (by decide)
instance : One Try.prog 158 := ⟨⟨_, Try.underlying158, rfl⟩, by kernel_rfl⟩
instance : Siz Try.prog 158 1 := ⟨by kernel_rfl⟩
set_option maxRecDepth 100000 in
instance : Zer Try.prog 158 [.nilFunc] := ⟨.nilFunc, by kernel_rfl, rfl⟩
instance : One Try.prog 159 := ⟨⟨_, Try.underlying159, rfl⟩, by kernel_rfl⟩
instance : Siz Try.prog 159 1 := ⟨by kernel_rfl⟩
set_option maxRecDepth 100000 in
instance : Zer Try.prog 159 [.nilFunc] := ⟨.nilFunc, by kernel_rfl, rfl⟩
instance : One Try.prog 160 := ⟨⟨_, Try.underlying160, rfl⟩, by kernel_rfl⟩
instance : Siz Try.prog 160 1 := ⟨by kernel_rfl⟩
set_option maxRecDepth 100000 in
instance : Zer Try.prog 160 [.nilFunc] := ⟨.nilFunc, by kernel_rfl, rfl⟩
instance : One Try.prog 161 := ⟨⟨_, Try.underlying161, rfl⟩, by kernel_rfl⟩
instance : Siz Try.prog 161 1 := ⟨by kernel_rfl⟩
set_option maxRecDepth 100000 in
instance : Zer Try.prog 161 [.nilFunc] := ⟨.nilFunc, by kernel_rfl, rfl⟩
instance : Siz Try.prog 162 2 := ⟨by kernel_rfl⟩
instance : Agg Try.prog 162 := ⟨_, Try.underlying162, rfl⟩
set_option maxRecDepth 100000 in
instance : Zer Try.prog 162 (c_codec_Reader (.slice none 0 0) (.bool false)) := ⟨.agg (c_codec_Reader (.slice none 0 0) (.bool false)).toArray, by kernel_rfl, rfl⟩
set_option maxRecDepth 100000 in
instance : Blt0 Try.prog 162 (c_codec_Reader (.slice none 0 0) (.bool false)) := ⟨by kernel_rfl⟩
set_option maxRecDepth 100000 in
instance : Places Try.prog 162 [(0, 1), (1, 1)] (c_codec_Reader (.slice none 0 0) (.bool false)) := ⟨fun parts => by kernel_rfl⟩
instance : Siz Try.prog 163 2 := ⟨by kernel_rfl⟩
instance : Agg Try.prog 163 := ⟨_, Try.underlying163, rfl⟩
set_option maxRecDepth 100000 in
instance : Zer Try.prog 163 (c_codec_Reader (.slice none 0 0) (.bool false)) := ⟨.agg (c_codec_Reader (.slice none 0 0) (.bool false)).toArray, by kernel_rfl, rfl⟩
set_option maxRecDepth 100000 in
instance : Blt0 Try.prog 163 (c_codec_Reader (.slice none 0 0) (.bool false)) := ⟨by kernel_rfl⟩
set_option maxRecDepth 100000 in
instance : Places Try.prog 163 [(0, 1), (1, 1)] (c_codec_Reader (.slice none 0 0) (.bool false)) := ⟨fun parts => by kernel_rfl⟩
instance : One Try.prog 164 := ⟨⟨_, Try.underlying164, rfl⟩, by kernel_rfl⟩
instance : Siz Try.prog 164 1 := ⟨by kernel_rfl⟩
set_option maxRecDepth 100000 in
instance : Zer Try.prog 164 [.nilFunc] := ⟨.nilFunc, by kernel_rfl, rfl⟩
instance : One Try.prog 165 := ⟨⟨_, Try.underlying165, rfl⟩, by kernel_rfl⟩
instance : Siz Try.prog 165 1 := ⟨by kernel_rfl⟩
set_option maxRecDepth 100000 in
instance : Zer Try.prog 165 [.nilFunc] := ⟨.nilFunc, by kernel_rfl, rfl⟩
instance : One Try.prog 166 := ⟨⟨_, Try.underlying166, rfl⟩, by kernel_rfl⟩
instance : Siz Try.prog 166 1 := ⟨by kernel_rfl⟩
set_option maxRecDepth 100000 in
instance : Zer Try.prog 166 [.nilFunc] := ⟨.nilFunc, by kernel_rfl, rfl⟩
instance : One Try.prog 167 := ⟨⟨_, Try.underlying167, rfl⟩, by kernel_rfl⟩
instance : Siz Try.prog 167 1 := ⟨by kernel_rfl⟩
set_option maxRecDepth 100000 in
instance : Zer Try.prog 167 [.nilFunc] := ⟨.nilFunc, by kernel_rfl, rfl⟩
instance : One Try.prog 168 := ⟨⟨_, Try.underlying168, rfl⟩, by kernel_rfl⟩
instance : Siz Try.prog 168 1 := ⟨by kernel_rfl⟩
set_option maxRecDepth 100000 in
instance : Zer Try.prog 168 [.nilFunc] := ⟨.nilFunc, by kernel_rfl, rfl⟩
instance : One Try.prog 169 := ⟨⟨_, Try.underlying169, rfl⟩, by kernel_rfl⟩
instance : Siz Try.prog 169 1 := ⟨by kernel_rfl⟩
set_option maxRecDepth 100000 in
instance : Zer Try.prog 169 [.nilFunc] := ⟨.nilFunc, by kernel_rfl, rfl⟩
instance : One Try.prog 170 := ⟨⟨_, Try.underlying170, rfl⟩, by kernel_rfl⟩
instance : Siz Try.prog 170 1 := ⟨by kernel_rfl⟩
set_option maxRecDepth 100000 in
instance : Zer Try.prog 170 [.nilFunc] := ⟨.nilFunc, by kernel_rfl, rfl⟩
instance : One Try.prog 171 := ⟨⟨_, Try.underlying171, rfl⟩, by kernel_rfl⟩
instance : Siz Try.prog 171 1 := ⟨by kernel_rfl⟩
set_option maxRecDepth 100000 in
instance : Zer Try.prog 171 [.nilFunc] := ⟨.nilFunc, by kernel_rfl, rfl⟩
instance : One Try.prog 172 := ⟨⟨_, Try.underlying172, rfl⟩, by kernel_rfl⟩
instance : Siz Try.prog 172 1 := ⟨by kernel_rfl⟩
set_option maxRecDepth 100000 in
instance : Zer Try.prog 172 [.nilFunc] := ⟨.nilFunc, by kernel_rfl, rfl⟩
instance : One Try.prog 173 := ⟨⟨_, Try.underlying173, rfl⟩, by kernel_rfl⟩
instance : Siz Try.prog 173 1 := ⟨by kernel_rfl⟩
set_option maxRecDepth 100000 in
instance : Zer Try.prog 173 [.nilFunc] := ⟨.nilFunc, by kernel_rfl, rfl⟩
instance : One Try.prog 174 := ⟨⟨_, Try.underlying174, rfl⟩, by kernel_rfl⟩
instance : Siz Try.prog 174 1 := ⟨by kernel_rfl⟩
set_option maxRecDepth 100000 in
instance : Zer Try.prog 174 [.nilFunc] := ⟨.nilFunc, by kernel_rfl, rfl⟩
instance : One Try.prog 175 := ⟨⟨_, Try.underlying175, rfl⟩, by kernel_rfl⟩
instance : Siz Try.prog 175 1 := ⟨by kernel_rfl⟩
set_option maxRecDepth 100000 in
instance : Zer Try.prog 175 [.nilFunc] := ⟨.nilFunc, by kernel_rfl, rfl⟩
instance : One Try.prog 176 := ⟨⟨_, Try.underlying176, rfl⟩, by kernel_rfl⟩
instance : Siz Try.prog 176 1 := ⟨by kernel_rfl⟩
set_option maxRecDepth 100000 in
instance : Zer Try.prog 176 [.nilFunc] := ⟨.nilFunc, by kernel_rfl, rfl⟩
instance : One Try.prog 177 := ⟨⟨_, Try.underlying177, rfl⟩, by kernel_rfl⟩
instance : Siz Try.prog 177 1 := ⟨by kernel_rfl⟩
set_option maxRecDepth 100000 in
instance : Zer Try.prog 177 [.nilFunc] := ⟨.nilFunc, by kernel_rfl, rfl⟩
instance : One Try.prog 178 := ⟨⟨_, Try.underlying178, rfl⟩, by kernel_rfl⟩
instance : Siz Try.prog 178 1 := ⟨by kernel_rfl⟩
set_option maxRecDepth 100000 in
instance : Zer Try.prog 178 [.nilFunc] := ⟨.nilFunc, by kernel_rfl, rfl⟩
instance : One Try.prog 180 := ⟨⟨_, Try.underlying180, rfl⟩, by kernel_rfl⟩
instance : Siz Try.prog 180 1 := ⟨by kernel_rfl⟩
set_option maxRecDepth 100000 in
instance : Zer Try.prog 180 [.nilFunc] := ⟨.nilFunc, by kernel_rfl, rfl⟩
instance : Siz Try.prog 181 33 := ⟨by kernel_rfl⟩
instance : Agg Try.prog 181 := ⟨_, Try.underlying181, rfl⟩
set_option maxRecDepth 100000 in
instance : Zer Try.prog 181 (c_tabulariumref21_Person (.int .u32 0) (u8s (zeros 32))) := ⟨.agg (c_tabulariumref21_Person (.int .u32 0) (u8s (zeros 32))).toArray, by kernel_rfl, rfl⟩
set_option maxRecDepth 100000 in
instance : Blt0 Try.prog 181 (c_tabulariumref21_Person (.int .u32 0) (u8s (zeros 32))) := ⟨by kernel_rfl⟩
set_option maxRecDepth 100000 in
instance : Places Try.prog 181 [(0, 1), (1, 32)] (c_tabulariumref21_Person (.int .u32 0) (u8s (zeros 32))) := ⟨fun parts => by kernel_rfl⟩
instance : Siz Try.prog 182 33 := ⟨by kernel_rfl⟩
instance : Agg Try.prog 182 := ⟨_, Try.underlying182, rfl⟩
set_option maxRecDepth 100000 in
instance : Zer Try.prog 182 (c_tabulariumref21_Person (.int .u32 0) (u8s (zeros 32))) := ⟨.agg (c_tabulariumref21_Person (.int .u32 0) (u8s (zeros 32))).toArray, by kernel_rfl, rfl⟩
set_option maxRecDepth 100000 in
instance : Blt0 Try.prog 182 (c_tabulariumref21_Person (.int .u32 0) (u8s (zeros 32))) := ⟨by kernel_rfl⟩
set_option maxRecDepth 100000 in
instance : Places Try.prog 182 [(0, 1), (1, 32)] (c_tabulariumref21_Person (.int .u32 0) (u8s (zeros 32))) := ⟨fun parts => by kernel_rfl⟩
instance : One Try.prog 183 := ⟨⟨_, Try.underlying183, rfl⟩, by kernel_rfl⟩
instance : Siz Try.prog 183 1 := ⟨by kernel_rfl⟩
set_option maxRecDepth 100000 in
instance : Zer Try.prog 183 [.nilFunc] := ⟨.nilFunc, by kernel_rfl, rfl⟩
instance : One Try.prog 184 := ⟨⟨_, Try.underlying184, rfl⟩, by kernel_rfl⟩
instance : Siz Try.prog 184 1 := ⟨by kernel_rfl⟩
set_option maxRecDepth 100000 in
instance : Zer Try.prog 184 [.nilFunc] := ⟨.nilFunc, by kernel_rfl, rfl⟩
instance : One Try.prog 185 := ⟨⟨_, Try.underlying185, rfl⟩, by kernel_rfl⟩
instance : Siz Try.prog 185 1 := ⟨by kernel_rfl⟩
set_option maxRecDepth 100000 in
instance : Zer Try.prog 185 [.nilFunc] := ⟨.nilFunc, by kernel_rfl, rfl⟩
instance : One Try.prog 186 := ⟨⟨_, Try.underlying186, rfl⟩, by kernel_rfl⟩
instance : Siz Try.prog 186 1 := ⟨by kernel_rfl⟩
set_option maxRecDepth 100000 in
instance : Zer Try.prog 186 [.nilFunc] := ⟨.nilFunc, by kernel_rfl, rfl⟩
instance : One Try.prog 187 := ⟨⟨_, Try.underlying187, rfl⟩, by kernel_rfl⟩
instance : Siz Try.prog 187 1 := ⟨by kernel_rfl⟩
set_option maxRecDepth 100000 in
instance : Zer Try.prog 187 [.nilFunc] := ⟨.nilFunc, by kernel_rfl, rfl⟩
instance : One Try.prog 188 := ⟨⟨_, Try.underlying188, rfl⟩, by kernel_rfl⟩
instance : Siz Try.prog 188 1 := ⟨by kernel_rfl⟩
set_option maxRecDepth 100000 in
instance : Zer Try.prog 188 [.nilFunc] := ⟨.nilFunc, by kernel_rfl, rfl⟩
instance : One Try.prog 189 := ⟨⟨_, Try.underlying189, rfl⟩, by kernel_rfl⟩
instance : Siz Try.prog 189 1 := ⟨by kernel_rfl⟩
set_option maxRecDepth 100000 in
instance : Zer Try.prog 189 [.nilFunc] := ⟨.nilFunc, by kernel_rfl, rfl⟩
instance : One Try.prog 190 := ⟨⟨_, Try.underlying190, rfl⟩, by kernel_rfl⟩
instance : Siz Try.prog 190 1 := ⟨by kernel_rfl⟩
set_option maxRecDepth 100000 in
instance : Zer Try.prog 190 [.nilFunc] := ⟨.nilFunc, by kernel_rfl, rfl⟩
instance : One Try.prog 191 := ⟨⟨_, Try.underlying191, rfl⟩, by kernel_rfl⟩
instance : Siz Try.prog 191 1 := ⟨by kernel_rfl⟩
set_option maxRecDepth 100000 in
instance : Zer Try.prog 191 [.nilFunc] := ⟨.nilFunc, by kernel_rfl, rfl⟩
instance : One Try.prog 192 := ⟨⟨_, Try.underlying192, rfl⟩, by kernel_rfl⟩
instance : Siz Try.prog 192 1 := ⟨by kernel_rfl⟩
set_option maxRecDepth 100000 in
instance : Zer Try.prog 192 [.nilFunc] := ⟨.nilFunc, by kernel_rfl, rfl⟩
instance : One Try.prog 193 := ⟨⟨_, Try.underlying193, rfl⟩, by kernel_rfl⟩
instance : Siz Try.prog 193 1 := ⟨by kernel_rfl⟩
set_option maxRecDepth 100000 in
instance : Zer Try.prog 193 [.nilFunc] := ⟨.nilFunc, by kernel_rfl, rfl⟩
instance : One Try.prog 194 := ⟨⟨_, Try.underlying194, rfl⟩, by kernel_rfl⟩
instance : Siz Try.prog 194 1 := ⟨by kernel_rfl⟩
set_option maxRecDepth 100000 in
instance : Zer Try.prog 194 [.nilFunc] := ⟨.nilFunc, by kernel_rfl, rfl⟩
instance : One Try.prog 195 := ⟨⟨_, Try.underlying195, rfl⟩, by kernel_rfl⟩
instance : Siz Try.prog 195 1 := ⟨by kernel_rfl⟩
set_option maxRecDepth 100000 in
instance : Zer Try.prog 195 [.nilFunc] := ⟨.nilFunc, by kernel_rfl, rfl⟩
instance : One Try.prog 196 := ⟨⟨_, Try.underlying196, rfl⟩, by kernel_rfl⟩
instance : Siz Try.prog 196 1 := ⟨by kernel_rfl⟩
set_option maxRecDepth 100000 in
instance : Zer Try.prog 196 [.nilFunc] := ⟨.nilFunc, by kernel_rfl, rfl⟩
instance : One Try.prog 197 := ⟨⟨_, Try.underlying197, rfl⟩, by kernel_rfl⟩
instance : Siz Try.prog 197 1 := ⟨by kernel_rfl⟩
set_option maxRecDepth 100000 in
instance : Zer Try.prog 197 [.int .i64 0] := ⟨(.int .i64 0), by kernel_rfl, rfl⟩
instance : One Try.prog 199 := ⟨⟨_, Try.underlying199, rfl⟩, by kernel_rfl⟩
instance : Siz Try.prog 199 1 := ⟨by kernel_rfl⟩
set_option maxRecDepth 100000 in
instance : Zer Try.prog 199 [.nilFunc] := ⟨.nilFunc, by kernel_rfl, rfl⟩
instance : One Try.prog 200 := ⟨⟨_, Try.underlying200, rfl⟩, by kernel_rfl⟩
instance : Siz Try.prog 200 1 := ⟨by kernel_rfl⟩
set_option maxRecDepth 100000 in
instance : Zer Try.prog 200 [.nilFunc] := ⟨.nilFunc, by kernel_rfl, rfl⟩
instance : One Try.prog 201 := ⟨⟨_, Try.underlying201, rfl⟩, by kernel_rfl⟩
instance : Siz Try.prog 201 1 := ⟨by kernel_rfl⟩
set_option maxRecDepth 100000 in
instance : Zer Try.prog 201 [.nilFunc] := ⟨.nilFunc, by kernel_rfl, rfl⟩
instance : One Try.prog 202 := ⟨⟨_, Try.underlying202, rfl⟩, by kernel_rfl⟩
instance : Siz Try.prog 202 1 := ⟨by kernel_rfl⟩
set_option maxRecDepth 100000 in
instance : Zer Try.prog 202 [.nilFunc] := ⟨.nilFunc, by kernel_rfl, rfl⟩
instance : One Try.prog 203 := ⟨⟨_, Try.underlying203, rfl⟩, by kernel_rfl⟩
instance : Siz Try.prog 203 1 := ⟨by kernel_rfl⟩
set_option maxRecDepth 100000 in
instance : Zer Try.prog 203 [.nilFunc] := ⟨.nilFunc, by kernel_rfl, rfl⟩
instance : One Try.prog 204 := ⟨⟨_, Try.underlying204, rfl⟩, by kernel_rfl⟩
instance : Siz Try.prog 204 1 := ⟨by kernel_rfl⟩
set_option maxRecDepth 100000 in
instance : Zer Try.prog 204 [.nilFunc] := ⟨.nilFunc, by kernel_rfl, rfl⟩
instance : One Try.prog 205 := ⟨⟨_, Try.underlying205, rfl⟩, by kernel_rfl⟩
instance : Siz Try.prog 205 1 := ⟨by kernel_rfl⟩
set_option maxRecDepth 100000 in
instance : Zer Try.prog 205 [.nilFunc] := ⟨.nilFunc, by kernel_rfl, rfl⟩
instance : One Try.prog 206 := ⟨⟨_, Try.underlying206, rfl⟩, by kernel_rfl⟩
instance : Siz Try.prog 206 1 := ⟨by kernel_rfl⟩
set_option maxRecDepth 100000 in
instance : Zer Try.prog 206 [.nilFunc] := ⟨.nilFunc, by kernel_rfl, rfl⟩
instance : Siz Try.prog 207 6 := ⟨by kernel_rfl⟩
instance : Agg Try.prog 207 := ⟨_, Try.underlying207, rfl⟩
set_option maxRecDepth 100000 in
instance : Zer Try.prog 207 (c_api_Box (.int .i64 0) (.int .u32 0) (.int .u32 0) (.int .u32 0) (.int .u32 0) (.slice none 0 0)) := ⟨.agg (c_api_Box (.int .i64 0) (.int .u32 0) (.int .u32 0) (.int .u32 0) (.int .u32 0) (.slice none 0 0)).toArray, by kernel_rfl, rfl⟩
set_option maxRecDepth 100000 in
instance : Blt0 Try.prog 207 (c_api_Box (.int .i64 0) (.int .u32 0) (.int .u32 0) (.int .u32 0) (.int .u32 0) (.slice none 0 0)) := ⟨by kernel_rfl⟩
set_option maxRecDepth 100000 in
instance : Places Try.prog 207 [(0, 1), (1, 1), (2, 1), (3, 1), (4, 1), (5, 1)] (c_api_Box (.int .i64 0) (.int .u32 0) (.int .u32 0) (.int .u32 0) (.int .u32 0) (.slice none 0 0)) := ⟨fun parts => by kernel_rfl⟩
instance : Siz Try.prog 208 6 := ⟨by kernel_rfl⟩
instance : Agg Try.prog 208 := ⟨_, Try.underlying208, rfl⟩
set_option maxRecDepth 100000 in
instance : Zer Try.prog 208 (c_api_Box (.int .i64 0) (.int .u32 0) (.int .u32 0) (.int .u32 0) (.int .u32 0) (.slice none 0 0)) := ⟨.agg (c_api_Box (.int .i64 0) (.int .u32 0) (.int .u32 0) (.int .u32 0) (.int .u32 0) (.slice none 0 0)).toArray, by kernel_rfl, rfl⟩
set_option maxRecDepth 100000 in
instance : Blt0 Try.prog 208 (c_api_Box (.int .i64 0) (.int .u32 0) (.int .u32 0) (.int .u32 0) (.int .u32 0) (.slice none 0 0)) := ⟨by kernel_rfl⟩
set_option maxRecDepth 100000 in
instance : Places Try.prog 208 [(0, 1), (1, 1), (2, 1), (3, 1), (4, 1), (5, 1)] (c_api_Box (.int .i64 0) (.int .u32 0) (.int .u32 0) (.int .u32 0) (.int .u32 0) (.slice none 0 0)) := ⟨fun parts => by kernel_rfl⟩
instance : One Try.prog 209 := ⟨⟨_, Try.underlying209, rfl⟩, by kernel_rfl⟩
instance : Siz Try.prog 209 1 := ⟨by kernel_rfl⟩
set_option maxRecDepth 100000 in
instance : Zer Try.prog 209 [.nilFunc] := ⟨.nilFunc, by kernel_rfl, rfl⟩
instance : One Try.prog 210 := ⟨⟨_, Try.underlying210, rfl⟩, by kernel_rfl⟩
instance : Siz Try.prog 210 1 := ⟨by kernel_rfl⟩
set_option maxRecDepth 100000 in
instance : Zer Try.prog 210 [.nilFunc] := ⟨.nilFunc, by kernel_rfl, rfl⟩
instance : One Try.prog 211 := ⟨⟨_, Try.underlying211, rfl⟩, by kernel_rfl⟩
instance : Siz Try.prog 211 1 := ⟨by kernel_rfl⟩
set_option maxRecDepth 100000 in
instance : Zer Try.prog 211 [.nilFunc] := ⟨.nilFunc, by kernel_rfl, rfl⟩
instance : One Try.prog 212 := ⟨⟨_, Try.underlying212, rfl⟩, by kernel_rfl⟩
instance : Siz Try.prog 212 1 := ⟨by kernel_rfl⟩
set_option maxRecDepth 100000 in
instance : Zer Try.prog 212 [.nilFunc] := ⟨.nilFunc, by kernel_rfl, rfl⟩
instance : One Try.prog 213 := ⟨⟨_, Try.underlying213, rfl⟩, by kernel_rfl⟩
instance : Siz Try.prog 213 1 := ⟨by kernel_rfl⟩
set_option maxRecDepth 100000 in
instance : Zer Try.prog 213 [.nilFunc] := ⟨.nilFunc, by kernel_rfl, rfl⟩
instance : One Try.prog 214 := ⟨⟨_, Try.underlying214, rfl⟩, by kernel_rfl⟩
instance : Siz Try.prog 214 1 := ⟨by kernel_rfl⟩
set_option maxRecDepth 100000 in
instance : Zer Try.prog 214 [.nilFunc] := ⟨.nilFunc, by kernel_rfl, rfl⟩
instance : One Try.prog 215 := ⟨⟨_, Try.underlying215, rfl⟩, by kernel_rfl⟩
instance : Siz Try.prog 215 1 := ⟨by kernel_rfl⟩
set_option maxRecDepth 100000 in
instance : Zer Try.prog 215 [.nilFunc] := ⟨.nilFunc, by kernel_rfl, rfl⟩
instance : One Try.prog 216 := ⟨⟨_, Try.underlying216, rfl⟩, by kernel_rfl⟩
instance : Siz Try.prog 216 1 := ⟨by kernel_rfl⟩
set_option maxRecDepth 100000 in
instance : Zer Try.prog 216 [.nilFunc] := ⟨.nilFunc, by kernel_rfl, rfl⟩
instance : One Try.prog 217 := ⟨⟨_, Try.underlying217, rfl⟩, by kernel_rfl⟩
instance : Siz Try.prog 217 1 := ⟨by kernel_rfl⟩
set_option maxRecDepth 100000 in
instance : Zer Try.prog 217 [.int .u64 0] := ⟨(.int .u64 0), by kernel_rfl, rfl⟩
instance : One Try.prog 218 := ⟨⟨_, Try.underlying218, rfl⟩, by kernel_rfl⟩
instance : Siz Try.prog 218 1 := ⟨by kernel_rfl⟩
set_option maxRecDepth 100000 in
instance : Zer Try.prog 218 [.nilFunc] := ⟨.nilFunc, by kernel_rfl, rfl⟩
instance : One Try.prog 219 := ⟨⟨_, Try.underlying219, rfl⟩, by kernel_rfl⟩
instance : Siz Try.prog 219 1 := ⟨by kernel_rfl⟩
set_option maxRecDepth 100000 in
instance : Zer Try.prog 219 [.nilFunc] := ⟨.nilFunc, by kernel_rfl, rfl⟩
instance : One Try.prog 220 := ⟨⟨_, Try.underlying220, rfl⟩, by kernel_rfl⟩
instance : Siz Try.prog 220 1 := ⟨by kernel_rfl⟩
set_option maxRecDepth 100000 in
instance : Zer Try.prog 220 [.nilFunc] := ⟨.nilFunc, by kernel_rfl, rfl⟩
instance : One Try.prog 221 := ⟨⟨_, Try.underlying221, rfl⟩, by kernel_rfl⟩
instance : Siz Try.prog 221 1 := ⟨by kernel_rfl⟩
set_option maxRecDepth 100000 in
instance : Zer Try.prog 221 [.pointer none] := ⟨(.pointer none), by kernel_rfl, rfl⟩
instance : One Try.prog 222 := ⟨⟨_, Try.underlying222, rfl⟩, by kernel_rfl⟩
instance : Siz Try.prog 222 1 := ⟨by kernel_rfl⟩
set_option maxRecDepth 100000 in
instance : Zer Try.prog 222 [.nilFunc] := ⟨.nilFunc, by kernel_rfl, rfl⟩
instance : One Try.prog 223 := ⟨⟨_, Try.underlying223, rfl⟩, by kernel_rfl⟩
instance : Siz Try.prog 223 1 := ⟨by kernel_rfl⟩
set_option maxRecDepth 100000 in
instance : Zer Try.prog 223 [.nilFunc] := ⟨.nilFunc, by kernel_rfl, rfl⟩
instance : One Try.prog 224 := ⟨⟨_, Try.underlying224, rfl⟩, by kernel_rfl⟩
instance : Siz Try.prog 224 1 := ⟨by kernel_rfl⟩
set_option maxRecDepth 100000 in
instance : Zer Try.prog 224 [.nilFunc] := ⟨.nilFunc, by kernel_rfl, rfl⟩
instance : One Try.prog 225 := ⟨⟨_, Try.underlying225, rfl⟩, by kernel_rfl⟩
instance : Siz Try.prog 225 1 := ⟨by kernel_rfl⟩
set_option maxRecDepth 100000 in
instance : Zer Try.prog 225 [.nilFunc] := ⟨.nilFunc, by kernel_rfl, rfl⟩
instance : One Try.prog 226 := ⟨⟨_, Try.underlying226, rfl⟩, by kernel_rfl⟩
instance : Siz Try.prog 226 1 := ⟨by kernel_rfl⟩
set_option maxRecDepth 100000 in
instance : Zer Try.prog 226 [.nilFunc] := ⟨.nilFunc, by kernel_rfl, rfl⟩
instance : One Try.prog 227 := ⟨⟨_, Try.underlying227, rfl⟩, by kernel_rfl⟩
instance : Siz Try.prog 227 1 := ⟨by kernel_rfl⟩
set_option maxRecDepth 100000 in
instance : Zer Try.prog 227 [.nilFunc] := ⟨.nilFunc, by kernel_rfl, rfl⟩
instance : One Try.prog 228 := ⟨⟨_, Try.underlying228, rfl⟩, by kernel_rfl⟩
instance : Siz Try.prog 228 1 := ⟨by kernel_rfl⟩
set_option maxRecDepth 100000 in
instance : Zer Try.prog 228 [.nilFunc] := ⟨.nilFunc, by kernel_rfl, rfl⟩
instance : One Try.prog 229 := ⟨⟨_, Try.underlying229, rfl⟩, by kernel_rfl⟩
instance : Siz Try.prog 229 1 := ⟨by kernel_rfl⟩
set_option maxRecDepth 100000 in
instance : Zer Try.prog 229 [.nilFunc] := ⟨.nilFunc, by kernel_rfl, rfl⟩
instance : One Try.prog 230 := ⟨⟨_, Try.underlying230, rfl⟩, by kernel_rfl⟩
instance : Siz Try.prog 230 1 := ⟨by kernel_rfl⟩
set_option maxRecDepth 100000 in
instance : Zer Try.prog 230 [.nilFunc] := ⟨.nilFunc, by kernel_rfl, rfl⟩
instance : One Try.prog 231 := ⟨⟨_, Try.underlying231, rfl⟩, by kernel_rfl⟩
instance : Siz Try.prog 231 1 := ⟨by kernel_rfl⟩
set_option maxRecDepth 100000 in
instance : Zer Try.prog 231 [.nilFunc] := ⟨.nilFunc, by kernel_rfl, rfl⟩
instance : One Try.prog 232 := ⟨⟨_, Try.underlying232, rfl⟩, by kernel_rfl⟩
instance : Siz Try.prog 232 1 := ⟨by kernel_rfl⟩
set_option maxRecDepth 100000 in
instance : Zer Try.prog 232 [.pointer none] := ⟨(.pointer none), by kernel_rfl, rfl⟩
instance : One Try.prog 234 := ⟨⟨_, Try.underlying234, rfl⟩, by kernel_rfl⟩
instance : Siz Try.prog 234 1 := ⟨by kernel_rfl⟩
set_option maxRecDepth 100000 in
instance : Zer Try.prog 234 [.nilFunc] := ⟨.nilFunc, by kernel_rfl, rfl⟩
instance : One Try.prog 235 := ⟨⟨_, Try.underlying235, rfl⟩, by kernel_rfl⟩
instance : Siz Try.prog 235 1 := ⟨by kernel_rfl⟩
set_option maxRecDepth 100000 in
instance : Zer Try.prog 235 [.slice none 0 0] := ⟨(.slice none 0 0), by kernel_rfl, rfl⟩
instance : Elm Try.prog 235 255 36 112 := elm_mk (z := .agg (c_tabulariumref07_row (.int .i64 0) (u8s (zeros 32)) (.slice none 0 0) (.slice none 0 0) (.slice none 0 0)).toArray) Try.underlying235 (by kernel_rfl) (by kernel_rfl) (by decide)
instance : Siz Try.prog 236 6 := ⟨by kernel_rfl⟩
instance : Agg Try.prog 236 := ⟨_, Try.underlying236, rfl⟩
set_option maxRecDepth 100000 in
instance : Zer Try.prog 236 (c_tabulariumref07_Suite (.int .i64 0) (.slice none 0 0) (.slice none 0 0) (.slice none 0 0) (.slice none 0 0) (.bool false)) := ⟨.agg (c_tabulariumref07_Suite (.int .i64 0) (.slice none 0 0) (.slice none 0 0) (.slice none 0 0) (.slice none 0 0) (.bool false)).toArray, by kernel_rfl, rfl⟩
set_option maxRecDepth 100000 in
instance : Blt0 Try.prog 236 (c_tabulariumref07_Suite (.int .i64 0) (.slice none 0 0) (.slice none 0 0) (.slice none 0 0) (.slice none 0 0) (.bool false)) := ⟨by kernel_rfl⟩
set_option maxRecDepth 100000 in
instance : Places Try.prog 236 [(0, 1), (1, 1), (2, 1), (3, 1), (4, 1), (5, 1)] (c_tabulariumref07_Suite (.int .i64 0) (.slice none 0 0) (.slice none 0 0) (.slice none 0 0) (.slice none 0 0) (.bool false)) := ⟨fun parts => by kernel_rfl⟩
instance : Siz Try.prog 237 6 := ⟨by kernel_rfl⟩
instance : Agg Try.prog 237 := ⟨_, Try.underlying237, rfl⟩
set_option maxRecDepth 100000 in
instance : Zer Try.prog 237 (c_tabulariumref07_Suite (.int .i64 0) (.slice none 0 0) (.slice none 0 0) (.slice none 0 0) (.slice none 0 0) (.bool false)) := ⟨.agg (c_tabulariumref07_Suite (.int .i64 0) (.slice none 0 0) (.slice none 0 0) (.slice none 0 0) (.slice none 0 0) (.bool false)).toArray, by kernel_rfl, rfl⟩
set_option maxRecDepth 100000 in
instance : Blt0 Try.prog 237 (c_tabulariumref07_Suite (.int .i64 0) (.slice none 0 0) (.slice none 0 0) (.slice none 0 0) (.slice none 0 0) (.bool false)) := ⟨by kernel_rfl⟩
set_option maxRecDepth 100000 in
instance : Places Try.prog 237 [(0, 1), (1, 1), (2, 1), (3, 1), (4, 1), (5, 1)] (c_tabulariumref07_Suite (.int .i64 0) (.slice none 0 0) (.slice none 0 0) (.slice none 0 0) (.slice none 0 0) (.bool false)) := ⟨fun parts => by kernel_rfl⟩
instance : One Try.prog 238 := ⟨⟨_, Try.underlying238, rfl⟩, by kernel_rfl⟩
instance : Siz Try.prog 238 1 := ⟨by kernel_rfl⟩
set_option maxRecDepth 100000 in
instance : Zer Try.prog 238 [.nilFunc] := ⟨.nilFunc, by kernel_rfl, rfl⟩
instance : One Try.prog 239 := ⟨⟨_, Try.underlying239, rfl⟩, by kernel_rfl⟩
instance : Siz Try.prog 239 1 := ⟨by kernel_rfl⟩
set_option maxRecDepth 100000 in
instance : Zer Try.prog 239 [.nilFunc] := ⟨.nilFunc, by kernel_rfl, rfl⟩
instance : One Try.prog 240 := ⟨⟨_, Try.underlying240, rfl⟩, by kernel_rfl⟩
instance : Siz Try.prog 240 1 := ⟨by kernel_rfl⟩
set_option maxRecDepth 100000 in
instance : Zer Try.prog 240 [.nilFunc] := ⟨.nilFunc, by kernel_rfl, rfl⟩
instance : One Try.prog 241 := ⟨⟨_, Try.underlying241, rfl⟩, by kernel_rfl⟩
instance : Siz Try.prog 241 1 := ⟨by kernel_rfl⟩
set_option maxRecDepth 100000 in
instance : Zer Try.prog 241 [.nilFunc] := ⟨.nilFunc, by kernel_rfl, rfl⟩
instance : One Try.prog 242 := ⟨⟨_, Try.underlying242, rfl⟩, by kernel_rfl⟩
instance : Siz Try.prog 242 1 := ⟨by kernel_rfl⟩
set_option maxRecDepth 100000 in
instance : Zer Try.prog 242 [.nilFunc] := ⟨.nilFunc, by kernel_rfl, rfl⟩
instance : One Try.prog 243 := ⟨⟨_, Try.underlying243, rfl⟩, by kernel_rfl⟩
instance : Siz Try.prog 243 1 := ⟨by kernel_rfl⟩
set_option maxRecDepth 100000 in
instance : Zer Try.prog 243 [.nilFunc] := ⟨.nilFunc, by kernel_rfl, rfl⟩
instance : One Try.prog 244 := ⟨⟨_, Try.underlying244, rfl⟩, by kernel_rfl⟩
instance : Siz Try.prog 244 1 := ⟨by kernel_rfl⟩
set_option maxRecDepth 100000 in
instance : Zer Try.prog 244 [.nilFunc] := ⟨.nilFunc, by kernel_rfl, rfl⟩
instance : One Try.prog 245 := ⟨⟨_, Try.underlying245, rfl⟩, by kernel_rfl⟩
instance : Siz Try.prog 245 1 := ⟨by kernel_rfl⟩
set_option maxRecDepth 100000 in
instance : Zer Try.prog 245 [.nilFunc] := ⟨.nilFunc, by kernel_rfl, rfl⟩
instance : One Try.prog 246 := ⟨⟨_, Try.underlying246, rfl⟩, by kernel_rfl⟩
instance : Siz Try.prog 246 1 := ⟨by kernel_rfl⟩
set_option maxRecDepth 100000 in
instance : Zer Try.prog 246 [.nilFunc] := ⟨.nilFunc, by kernel_rfl, rfl⟩
instance : One Try.prog 247 := ⟨⟨_, Try.underlying247, rfl⟩, by kernel_rfl⟩
instance : Siz Try.prog 247 1 := ⟨by kernel_rfl⟩
set_option maxRecDepth 100000 in
instance : Zer Try.prog 247 [.nilFunc] := ⟨.nilFunc, by kernel_rfl, rfl⟩
instance : One Try.prog 248 := ⟨⟨_, Try.underlying248, rfl⟩, by kernel_rfl⟩
instance : Siz Try.prog 248 1 := ⟨by kernel_rfl⟩
set_option maxRecDepth 100000 in
instance : Zer Try.prog 248 [.nilFunc] := ⟨.nilFunc, by kernel_rfl, rfl⟩
instance : One Try.prog 249 := ⟨⟨_, Try.underlying249, rfl⟩, by kernel_rfl⟩
instance : Siz Try.prog 249 1 := ⟨by kernel_rfl⟩
set_option maxRecDepth 100000 in
instance : Zer Try.prog 249 [.nilFunc] := ⟨.nilFunc, by kernel_rfl, rfl⟩
instance : One Try.prog 250 := ⟨⟨_, Try.underlying250, rfl⟩, by kernel_rfl⟩
instance : Siz Try.prog 250 1 := ⟨by kernel_rfl⟩
set_option maxRecDepth 100000 in
instance : Zer Try.prog 250 [.nilFunc] := ⟨.nilFunc, by kernel_rfl, rfl⟩
instance : Siz Try.prog 251 12 := ⟨by kernel_rfl⟩
instance : Agg Try.prog 251 := ⟨_, Try.underlying251, rfl⟩
set_option maxRecDepth 100000 in
instance : Arr8 Try.prog 251 12 := ⟨⟨_, _, Try.underlying251, Try.underlying5, rfl, rfl⟩, by kernel_rfl⟩
set_option maxRecDepth 100000 in
instance : Zer Try.prog 251 (u8s (zeros 12)) := ⟨.agg (u8s (zeros 12)).toArray, by kernel_rfl, rfl⟩
set_option maxRecDepth 100000 in
instance : Blt0 Try.prog 251 (u8s (zeros 12)) := ⟨by kernel_rfl⟩
instance : One Try.prog 253 := ⟨⟨_, Try.underlying253, rfl⟩, by kernel_rfl⟩
instance : Siz Try.prog 253 1 := ⟨by kernel_rfl⟩
set_option maxRecDepth 100000 in
instance : Zer Try.prog 253 [.nilFunc] := ⟨.nilFunc, by kernel_rfl, rfl⟩
instance : Siz Try.prog 254 36 := ⟨by kernel_rfl⟩
instance : Agg Try.prog 254 := ⟨_, Try.underlying254, rfl⟩
set_option maxRecDepth 100000 in
instance : Zer Try.prog 254 (c_tabulariumref07_row (.int .i64 0) (u8s (zeros 32)) (.slice none 0 0) (.slice none 0 0) (.slice none 0 0)) := ⟨.agg (c_tabulariumref07_row (.int .i64 0) (u8s (zeros 32)) (.slice none 0 0) (.slice none 0 0) (.slice none 0 0)).toArray, by kernel_rfl, rfl⟩
set_option maxRecDepth 100000 in
instance : Blt0 Try.prog 254 (c_tabulariumref07_row (.int .i64 0) (u8s (zeros 32)) (.slice none 0 0) (.slice none 0 0) (.slice none 0 0)) := ⟨by kernel_rfl⟩
set_option maxRecDepth 100000 in
instance : Places Try.prog 254 [(0, 1), (1, 32), (33, 1), (34, 1), (35, 1)] (c_tabulariumref07_row (.int .i64 0) (u8s (zeros 32)) (.slice none 0 0) (.slice none 0 0) (.slice none 0 0)) := ⟨fun parts => by kernel_rfl⟩
instance : Siz Try.prog 255 36 := ⟨by kernel_rfl⟩
instance : Agg Try.prog 255 := ⟨_, Try.underlying255, rfl⟩
set_option maxRecDepth 100000 in
instance : Zer Try.prog 255 (c_tabulariumref07_row (.int .i64 0) (u8s (zeros 32)) (.slice none 0 0) (.slice none 0 0) (.slice none 0 0)) := ⟨.agg (c_tabulariumref07_row (.int .i64 0) (u8s (zeros 32)) (.slice none 0 0) (.slice none 0 0) (.slice none 0 0)).toArray, by kernel_rfl, rfl⟩
set_option maxRecDepth 100000 in
instance : Blt0 Try.prog 255 (c_tabulariumref07_row (.int .i64 0) (u8s (zeros 32)) (.slice none 0 0) (.slice none 0 0) (.slice none 0 0)) := ⟨by kernel_rfl⟩
set_option maxRecDepth 100000 in
instance : Places Try.prog 255 [(0, 1), (1, 32), (33, 1), (34, 1), (35, 1)] (c_tabulariumref07_row (.int .i64 0) (u8s (zeros 32)) (.slice none 0 0) (.slice none 0 0) (.slice none 0 0)) := ⟨fun parts => by kernel_rfl⟩
instance : One Try.prog 256 := ⟨⟨_, Try.underlying256, rfl⟩, by kernel_rfl⟩
instance : Siz Try.prog 256 1 := ⟨by kernel_rfl⟩
set_option maxRecDepth 100000 in
instance : Zer Try.prog 256 [.nilFunc] := ⟨.nilFunc, by kernel_rfl, rfl⟩
instance : One Try.prog 257 := ⟨⟨_, Try.underlying257, rfl⟩, by kernel_rfl⟩
instance : Siz Try.prog 257 1 := ⟨by kernel_rfl⟩
set_option maxRecDepth 100000 in
instance : Zer Try.prog 257 [.nilFunc] := ⟨.nilFunc, by kernel_rfl, rfl⟩
instance : Siz Try.prog 258 64 := ⟨by kernel_rfl⟩
instance : Agg Try.prog 258 := ⟨_, Try.underlying258, rfl⟩
set_option maxRecDepth 100000 in
instance : Arr8 Try.prog 258 64 := ⟨⟨_, _, Try.underlying258, Try.underlying5, rfl, rfl⟩, by kernel_rfl⟩
set_option maxRecDepth 100000 in
instance : Zer Try.prog 258 (u8s (zeros 64)) := ⟨.agg (u8s (zeros 64)).toArray, by kernel_rfl, rfl⟩
set_option maxRecDepth 100000 in
instance : Blt0 Try.prog 258 (u8s (zeros 64)) := ⟨by kernel_rfl⟩
instance : One Try.prog 259 := ⟨⟨_, Try.underlying259, rfl⟩, by kernel_rfl⟩
instance : Siz Try.prog 259 1 := ⟨by kernel_rfl⟩
set_option maxRecDepth 100000 in
instance : Zer Try.prog 259 [.nilFunc] := ⟨.nilFunc, by kernel_rfl, rfl⟩
instance : Siz Try.prog 260 8 := ⟨by kernel_rfl⟩
instance : Agg Try.prog 260 := ⟨_, Try.underlying260, rfl⟩
set_option maxRecDepth 100000 in
instance : Zer Try.prog 260 (List.replicate 8 ((.int .u32 0) : Value)) := ⟨.agg (List.replicate 8 ((.int .u32 0) : Value)).toArray, by kernel_rfl, rfl⟩
set_option maxRecDepth 100000 in
instance : Blt0 Try.prog 260 (List.replicate 8 ((.int .u32 0) : Value)) := ⟨by kernel_rfl⟩
instance : One Try.prog 261 := ⟨⟨_, Try.underlying261, rfl⟩, by kernel_rfl⟩
instance : Siz Try.prog 261 1 := ⟨by kernel_rfl⟩
set_option maxRecDepth 100000 in
instance : Zer Try.prog 261 [.slice none 0 0] := ⟨(.slice none 0 0), by kernel_rfl, rfl⟩
instance : Elm Try.prog 261 258 64 64 := elm_mk (z := .agg (u8s (zeros 64)).toArray) Try.underlying261 (by kernel_rfl) (by kernel_rfl) (by decide)
instance : One Try.prog 262 := ⟨⟨_, Try.underlying262, rfl⟩, by kernel_rfl⟩
instance : Siz Try.prog 262 1 := ⟨by kernel_rfl⟩
set_option maxRecDepth 100000 in
instance : Zer Try.prog 262 [.nilFunc] := ⟨.nilFunc, by kernel_rfl, rfl⟩
instance : One Try.prog 263 := ⟨⟨_, Try.underlying263, rfl⟩, by kernel_rfl⟩
instance : Siz Try.prog 263 1 := ⟨by kernel_rfl⟩
set_option maxRecDepth 100000 in
instance : Zer Try.prog 263 [.nilFunc] := ⟨.nilFunc, by kernel_rfl, rfl⟩
instance : Siz Try.prog 264 16 := ⟨by kernel_rfl⟩
instance : Agg Try.prog 264 := ⟨_, Try.underlying264, rfl⟩
set_option maxRecDepth 100000 in
instance : Zer Try.prog 264 (List.replicate 16 ((.int .u32 0) : Value)) := ⟨.agg (List.replicate 16 ((.int .u32 0) : Value)).toArray, by kernel_rfl, rfl⟩
set_option maxRecDepth 100000 in
instance : Blt0 Try.prog 264 (List.replicate 16 ((.int .u32 0) : Value)) := ⟨by kernel_rfl⟩
instance : One Try.prog 265 := ⟨⟨_, Try.underlying265, rfl⟩, by kernel_rfl⟩
instance : Siz Try.prog 265 1 := ⟨by kernel_rfl⟩
set_option maxRecDepth 100000 in
instance : Zer Try.prog 265 [.nilFunc] := ⟨.nilFunc, by kernel_rfl, rfl⟩
instance : One Try.prog 267 := ⟨⟨_, Try.underlying267, rfl⟩, by kernel_rfl⟩
instance : Siz Try.prog 267 1 := ⟨by kernel_rfl⟩
set_option maxRecDepth 100000 in
instance : Zer Try.prog 267 [.nilFunc] := ⟨.nilFunc, by kernel_rfl, rfl⟩
instance : Siz Try.prog 268 64 := ⟨by kernel_rfl⟩
instance : Agg Try.prog 268 := ⟨_, Try.underlying268, rfl⟩
set_option maxRecDepth 100000 in
instance : Zer Try.prog 268 (List.replicate 64 ((.int .u32 0) : Value)) := ⟨.agg (List.replicate 64 ((.int .u32 0) : Value)).toArray, by kernel_rfl, rfl⟩
set_option maxRecDepth 100000 in
instance : Blt0 Try.prog 268 (List.replicate 64 ((.int .u32 0) : Value)) := ⟨by kernel_rfl⟩
instance : One Try.prog 269 := ⟨⟨_, Try.underlying269, rfl⟩, by kernel_rfl⟩
instance : Siz Try.prog 269 1 := ⟨by kernel_rfl⟩
set_option maxRecDepth 100000 in
instance : Zer Try.prog 269 [.nilFunc] := ⟨.nilFunc, by kernel_rfl, rfl⟩
instance : One Try.prog 270 := ⟨⟨_, Try.underlying270, rfl⟩, by kernel_rfl⟩
instance : Siz Try.prog 270 1 := ⟨by kernel_rfl⟩
set_option maxRecDepth 100000 in
instance : Zer Try.prog 270 [.nilFunc] := ⟨.nilFunc, by kernel_rfl, rfl⟩
instance : One Try.prog 271 := ⟨⟨_, Try.underlying271, rfl⟩, by kernel_rfl⟩
instance : Siz Try.prog 271 1 := ⟨by kernel_rfl⟩
set_option maxRecDepth 100000 in
instance : Zer Try.prog 271 [.nilFunc] := ⟨.nilFunc, by kernel_rfl, rfl⟩
instance : One Try.prog 272 := ⟨⟨_, Try.underlying272, rfl⟩, by kernel_rfl⟩
instance : Siz Try.prog 272 1 := ⟨by kernel_rfl⟩
set_option maxRecDepth 100000 in
instance : Zer Try.prog 272 [.nilFunc] := ⟨.nilFunc, by kernel_rfl, rfl⟩
instance : One Try.prog 273 := ⟨⟨_, Try.underlying273, rfl⟩, by kernel_rfl⟩
instance : Siz Try.prog 273 1 := ⟨by kernel_rfl⟩
set_option maxRecDepth 100000 in
instance : Zer Try.prog 273 [.nilFunc] := ⟨.nilFunc, by kernel_rfl, rfl⟩
instance : Siz Try.prog 274 4 := ⟨by kernel_rfl⟩
instance : Agg Try.prog 274 := ⟨_, Try.underlying274, rfl⟩
instance : Siz Try.prog 275 4 := ⟨by kernel_rfl⟩
instance : Agg Try.prog 275 := ⟨_, Try.underlying275, rfl⟩
instance : One Try.prog 279 := ⟨⟨_, Try.underlying279, rfl⟩, by kernel_rfl⟩
instance : Siz Try.prog 279 1 := ⟨by kernel_rfl⟩
set_option maxRecDepth 100000 in
instance : Zer Try.prog 279 [.int .u8 0] := ⟨(.int .u8 0), by kernel_rfl, rfl⟩
instance : One Try.prog 280 := ⟨⟨_, Try.underlying280, rfl⟩, by kernel_rfl⟩
instance : Siz Try.prog 280 1 := ⟨by kernel_rfl⟩
set_option maxRecDepth 100000 in
instance : Zer Try.prog 280 [.int .u8 0] := ⟨(.int .u8 0), by kernel_rfl, rfl⟩
instance : One Try.prog 281 := ⟨⟨_, Try.underlying281, rfl⟩, by kernel_rfl⟩
instance : Siz Try.prog 281 1 := ⟨by kernel_rfl⟩
set_option maxRecDepth 100000 in
instance : Zer Try.prog 281 [.nilFunc] := ⟨.nilFunc, by kernel_rfl, rfl⟩
instance : One Try.prog 282 := ⟨⟨_, Try.underlying282, rfl⟩, by kernel_rfl⟩
instance : Siz Try.prog 282 1 := ⟨by kernel_rfl⟩
set_option maxRecDepth 100000 in
instance : Zer Try.prog 282 [.pointer none] := ⟨(.pointer none), by kernel_rfl, rfl⟩
instance : One Try.prog 283 := ⟨⟨_, Try.underlying283, rfl⟩, by kernel_rfl⟩
instance : Siz Try.prog 283 1 := ⟨by kernel_rfl⟩
set_option maxRecDepth 100000 in
instance : Zer Try.prog 283 [.int .i32 0] := ⟨(.int .i32 0), by kernel_rfl, rfl⟩
instance : One Try.prog 284 := ⟨⟨_, Try.underlying284, rfl⟩, by kernel_rfl⟩
instance : Siz Try.prog 284 1 := ⟨by kernel_rfl⟩
set_option maxRecDepth 100000 in
instance : Zer Try.prog 284 [.int .i32 0] := ⟨(.int .i32 0), by kernel_rfl, rfl⟩
instance : Siz Try.prog 285 11 := ⟨by kernel_rfl⟩
instance : Agg Try.prog 285 := ⟨_, Try.underlying285, rfl⟩
instance : Siz Try.prog 286 11 := ⟨by kernel_rfl⟩
instance : Agg Try.prog 286 := ⟨_, Try.underlying286, rfl⟩
instance : One Try.prog 287 := ⟨⟨_, Try.underlying287, rfl⟩, by kernel_rfl⟩
instance : Siz Try.prog 287 1 := ⟨by kernel_rfl⟩
set_option maxRecDepth 100000 in
instance : Zer Try.prog 287 [.pointer none] := ⟨(.pointer none), by kernel_rfl, rfl⟩
end Go.Proofs.Ytnokgejmlpmgfaa
