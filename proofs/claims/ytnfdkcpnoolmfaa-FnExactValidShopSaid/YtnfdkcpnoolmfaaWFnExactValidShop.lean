/- The law FnExactValidShop answers true for every input, whatever it is, and leaves its arguments as they were. Conditions: none. -/
import Derived.Test.YtnfdkcpnoolmfaaQFnExactValidShop
import Derived.Test.YtnfdkcpnoolmfaaRows
import Derived.Test.YtnfdkcpnoolmfaaL5
import Derived.Test.YtnfdkcpnoolmfaaL6
import Derived.Carry
import Derived.WalkKit
import Derived.ProofKit
import Derived.OpenShut
import Derived.JoinedOf
import Derived.Handed
set_option linter.unusedVariables false
set_option maxRecDepth 100000
namespace Go.Proofs.Ytnfdkcpnoolmfaa.fnExactValidShop
open Go.Ab Go.Ab.P
open Go.ChangeShapes Go.WideShapes Go.ChangeAt Go.RowKit
def phiL : List (Nat × Nat) := [(601, 40), (600, 41), (598, 43), (885, 74), (599, 42), (886, 75), (597, 44), (887, 76), (596, 45), (203, 17), (1029, 105), (892, 82), (607, 47), (893, 83), (606, 48), (121, 50), (894, 84), (605, 49), (895, 85), (604, 51), (896, 86), (603, 52), (199, 19), (1, 31), (946, 115), (945, 116), (716, 101), (889, 77), (719, 102), (890, 78), (891, 79), (11, 113), (12, 114), (13, 100), (804, 70), (846, 69), (462, 27), (537, 30), (993, 117), (994, 118), (834, 103), (722, 80), (1028, 104), (888, 81), (602, 46), (202, 18), (23, 36), (1126, 119), (1030, 106), (1031, 107), (897, 87), (898, 88), (608, 53), (899, 89), (21, 67), (609, 54), (610, 55), (22, 112), (24, 99), (461, 66), (83, 24), (541, 33), (534, 25), (623, 108), (1032, 109), (1033, 110), (900, 90), (611, 56), (621, 91), (213, 57), (201, 20), (1034, 111), (901, 92), (616, 58), (902, 93), (615, 59), (42, 61), (903, 94), (614, 60), (904, 95), (613, 62), (905, 96), (612, 63), (200, 21), (1235, 4)]
def phi (n : Nat) : Nat := (phiL.lookup n).getD 1000000
theorem hm : Try.prog.follows .mixedOrders = true := by kernel_rfl
theorem ck_laws_szArcS : chkFn Try.prog phi 601 laws_szArcS_ir = true := by kernel_rfl
theorem ok_laws_szArcS : FOk Try.prog phi 601 laws_szArcS_c := fn_ok hm (D := laws_szArcS_D) DOk.nil ck_laws_szArcS _ _ _ _
theorem ck_laws_szCordS : chkFn Try.prog phi 600 laws_szCordS_ir = true := by kernel_rfl
theorem ok_laws_szCordS : FOk Try.prog phi 600 laws_szCordS_c := fn_ok hm (D := laws_szCordS_D) DOk.nil ck_laws_szCordS _ _ _ _
theorem ck_laws_szInt64S : chkFn Try.prog phi 598 laws_szInt64S_ir = true := by kernel_rfl
theorem ok_laws_szInt64S : FOk Try.prog phi 598 laws_szInt64S_c := fn_ok hm (D := laws_szInt64S_D) DOk.nil ck_laws_szInt64S _ _ _ _
theorem ck_laws_szStep : chkFn Try.prog phi 885 laws_szStep_ir = true := by kernel_rfl
theorem ok_laws_szStep : FOk Try.prog phi 885 laws_szStep_c := fn_ok hm (D := laws_szStep_D) (DOk.cons ok_laws_szInt64S DOk.nil) ck_laws_szStep _ _ _ _
theorem ck_laws_szStepS : chkFn Try.prog phi 599 laws_szStepS_ir = true := by kernel_rfl
theorem ok_laws_szStepS : FOk Try.prog phi 599 laws_szStepS_c := fn_ok hm (D := laws_szStepS_D) (DOk.cons ok_laws_szStep DOk.nil) ck_laws_szStepS _ _ _ _
theorem ck_laws_szRental : chkFn Try.prog phi 886 laws_szRental_ir = true := by kernel_rfl
theorem ok_laws_szRental : FOk Try.prog phi 886 laws_szRental_c := fn_ok hm (D := laws_szRental_D) DOk.nil ck_laws_szRental _ _ _ _
theorem ck_laws_szRentalS : chkFn Try.prog phi 597 laws_szRentalS_ir = true := by kernel_rfl
theorem ok_laws_szRentalS : FOk Try.prog phi 597 laws_szRentalS_c := fn_ok hm (D := laws_szRentalS_D) (DOk.cons ok_laws_szRental DOk.nil) ck_laws_szRentalS _ _ _ _
theorem ck_laws_szEntry : chkFn Try.prog phi 887 laws_szEntry_ir = true := by kernel_rfl
theorem ok_laws_szEntry : FOk Try.prog phi 887 laws_szEntry_c := fn_ok hm (D := laws_szEntry_D) DOk.nil ck_laws_szEntry _ _ _ _
theorem ck_laws_szEntryS : chkFn Try.prog phi 596 laws_szEntryS_ir = true := by kernel_rfl
theorem ok_laws_szEntryS : FOk Try.prog phi 596 laws_szEntryS_c := fn_ok hm (D := laws_szEntryS_D) (DOk.cons ok_laws_szEntry DOk.nil) ck_laws_szEntryS _ _ _ _
theorem ck_laws_szShop : chkFn Try.prog phi 203 laws_szShop_ir = true := by kernel_rfl
theorem ok_laws_szShop : FOk Try.prog phi 203 laws_szShop_c := fn_ok hm (D := laws_szShop_D) (DOk.cons ok_laws_szEntryS (DOk.cons ok_laws_szRentalS (DOk.cons ok_laws_szInt64S (DOk.cons ok_laws_szStepS (DOk.cons ok_laws_szCordS (DOk.cons ok_laws_szArcS DOk.nil)))))) ck_laws_szShop _ _ _ _
theorem ck_laws_toPoint : chkFn Try.prog phi 1029 laws_toPoint_ir = true := by kernel_rfl
theorem ok_laws_toPoint : FOk Try.prog phi 1029 laws_toPoint_c := fn_ok hm (D := laws_toPoint_D) DOk.nil ck_laws_toPoint _ _ _ _
theorem ck_laws_toArc : chkFn Try.prog phi 892 laws_toArc_ir = true := by kernel_rfl
theorem ok_laws_toArc : FOk Try.prog phi 892 laws_toArc_c := fn_ok hm (D := laws_toArc_D) (DOk.cons ok_laws_toPoint DOk.nil) ck_laws_toArc _ _ _ _
theorem ck_laws_toArcS : chkFn Try.prog phi 607 laws_toArcS_ir = true := by kernel_rfl
theorem ok_laws_toArcS : FOk Try.prog phi 607 laws_toArcS_c := fn_ok hm (D := laws_toArcS_D) (DOk.cons ok_laws_toArc DOk.nil) ck_laws_toArcS _ _ _ _
theorem ck_laws_toCord : chkFn Try.prog phi 893 laws_toCord_ir = true := by kernel_rfl
theorem ok_laws_toCord : FOk Try.prog phi 893 laws_toCord_c := fn_ok hm (D := laws_toCord_D) DOk.nil ck_laws_toCord _ _ _ _
theorem ck_laws_toCordS : chkFn Try.prog phi 606 laws_toCordS_ir = true := by kernel_rfl
theorem ok_laws_toCordS : FOk Try.prog phi 606 laws_toCordS_c := fn_ok hm (D := laws_toCordS_D) (DOk.cons ok_laws_toCord DOk.nil) ck_laws_toCordS _ _ _ _
theorem ck_laws_toInt64S : chkFn Try.prog phi 121 laws_toInt64S_ir = true := by kernel_rfl
theorem ok_laws_toInt64S : FOk Try.prog phi 121 laws_toInt64S_c := fn_ok hm (D := laws_toInt64S_D) DOk.nil ck_laws_toInt64S _ _ _ _
theorem ck_laws_toStep : chkFn Try.prog phi 894 laws_toStep_ir = true := by kernel_rfl
theorem ok_laws_toStep : FOk Try.prog phi 894 laws_toStep_c := fn_ok hm (D := laws_toStep_D) (DOk.cons ok_laws_toInt64S DOk.nil) ck_laws_toStep _ _ _ _
theorem ck_laws_toStepS : chkFn Try.prog phi 605 laws_toStepS_ir = true := by kernel_rfl
theorem ok_laws_toStepS : FOk Try.prog phi 605 laws_toStepS_c := fn_ok hm (D := laws_toStepS_D) (DOk.cons ok_laws_toStep DOk.nil) ck_laws_toStepS _ _ _ _
theorem ck_laws_toRental : chkFn Try.prog phi 895 laws_toRental_ir = true := by kernel_rfl
theorem ok_laws_toRental : FOk Try.prog phi 895 laws_toRental_c := fn_ok hm (D := laws_toRental_D) DOk.nil ck_laws_toRental _ _ _ _
theorem ck_laws_toRentalS : chkFn Try.prog phi 604 laws_toRentalS_ir = true := by kernel_rfl
theorem ok_laws_toRentalS : FOk Try.prog phi 604 laws_toRentalS_c := fn_ok hm (D := laws_toRentalS_D) (DOk.cons ok_laws_toRental DOk.nil) ck_laws_toRentalS _ _ _ _
theorem ck_laws_toEntry : chkFn Try.prog phi 896 laws_toEntry_ir = true := by kernel_rfl
theorem ok_laws_toEntry : FOk Try.prog phi 896 laws_toEntry_c := fn_ok hm (D := laws_toEntry_D) DOk.nil ck_laws_toEntry _ _ _ _
theorem ck_laws_toEntryS : chkFn Try.prog phi 603 laws_toEntryS_ir = true := by kernel_rfl
theorem ok_laws_toEntryS : FOk Try.prog phi 603 laws_toEntryS_c := fn_ok hm (D := laws_toEntryS_D) (DOk.cons ok_laws_toEntry DOk.nil) ck_laws_toEntryS _ _ _ _
theorem ck_laws_toShop : chkFn Try.prog phi 199 laws_toShop_ir = true := by kernel_rfl
theorem ok_laws_toShop : FOk Try.prog phi 199 laws_toShop_c := fn_ok hm (D := laws_toShop_D) (DOk.cons ok_laws_toInt64S (DOk.cons ok_laws_toEntryS (DOk.cons ok_laws_toRentalS (DOk.cons ok_laws_toStepS (DOk.cons ok_laws_toCordS (DOk.cons ok_laws_toArcS DOk.nil)))))) ck_laws_toShop _ _ _ _
theorem ck_spec_l00In : chkFn Try.prog phi 1 spec_l00In_ir = true := by kernel_rfl
theorem ok_spec_l00In : FOk Try.prog phi 1 spec_l00In_c := fn_ok hm (D := spec_l00In_D) DOk.nil ck_spec_l00In _ _ _ _
theorem ck_spec_l05Point : chkFn Try.prog phi 946 spec_l05Point_ir = true := by kernel_rfl
theorem ok_spec_l05Point : FOk Try.prog phi 946 spec_l05Point_c := fn_ok hm (D := spec_l05Point_D) (DOk.cons ok_spec_l00In DOk.nil) ck_spec_l05Point _ _ _ _
theorem ck_spec_l05Square : chkFn Try.prog phi 945 spec_l05Square_ir = true := by kernel_rfl
theorem ok_spec_l05Square : FOk Try.prog phi 945 spec_l05Square_c := fn_ok hm (D := spec_l05Square_D) DOk.nil ck_spec_l05Square _ _ _ _
theorem ck_spec_l05One : chkFn Try.prog phi 716 spec_l05One_ir = true := by kernel_rfl
theorem ok_spec_l05One : FOk Try.prog phi 716 spec_l05One_c := fn_ok hm (D := spec_l05One_D) (DOk.cons ok_spec_l05Square (DOk.cons ok_spec_l05Point DOk.nil)) ck_spec_l05One _ _ _ _
theorem ck_spec_l05Ok : chkFn Try.prog phi 889 spec_l05Ok_ir = true := by kernel_rfl
theorem ok_spec_l05Ok : FOk Try.prog phi 889 spec_l05Ok_c := fn_ok hm (D := spec_l05Ok_D) (DOk.cons ok_spec_l05One DOk.nil) ck_spec_l05Ok _ _ _ _
theorem ck_spec_l09One : chkFn Try.prog phi 719 spec_l09One_ir = true := by kernel_rfl
theorem ok_spec_l09One : FOk Try.prog phi 719 spec_l09One_c := fn_ok hm (D := spec_l09One_D) (DOk.cons ok_spec_l00In DOk.nil) ck_spec_l09One _ _ _ _
theorem ck_spec_l09List : chkFn Try.prog phi 890 spec_l09List_ir = true := by kernel_rfl
theorem ok_spec_l09List : FOk Try.prog phi 890 spec_l09List_c := fn_ok hm (D := spec_l09List_D) (DOk.cons ok_spec_l09One DOk.nil) ck_spec_l09List _ _ _ _
theorem ck_spec_l09Share : chkFn Try.prog phi 891 spec_l09Share_ir = true := by kernel_rfl
theorem ok_spec_l09Share : FOk Try.prog phi 891 spec_l09Share_c := fn_ok hm (D := spec_l09Share_D) (DOk.cons ok_spec_l00In DOk.nil) ck_spec_l09Share _ _ _ _
theorem ck_spec_l01Small : chkFn Try.prog phi 11 spec_l01Small_ir = true := by kernel_rfl
theorem ok_spec_l01Small : FOk Try.prog phi 11 spec_l01Small_c := fn_ok hm (D := spec_l01Small_D) DOk.nil ck_spec_l01Small _ _ _ _
theorem ck_spec_l01Digit : chkFn Try.prog phi 12 spec_l01Digit_ir = true := by kernel_rfl
theorem ok_spec_l01Digit : FOk Try.prog phi 12 spec_l01Digit_c := fn_ok hm (D := spec_l01Digit_D) DOk.nil ck_spec_l01Digit _ _ _ _
theorem ck_spec_l01Name : chkFn Try.prog phi 13 spec_l01Name_ir = true := by kernel_rfl
theorem ok_spec_l01Name : FOk Try.prog phi 13 spec_l01Name_c := fn_ok hm (D := spec_l01Name_D) (DOk.cons ok_spec_l01Small (DOk.cons ok_spec_l01Digit DOk.nil)) ck_spec_l01Name _ _ _ _
theorem ck_spec_l00Rises : chkFn Try.prog phi 804 spec_l00Rises_ir = true := by kernel_rfl
theorem ok_spec_l00Rises : FOk Try.prog phi 804 spec_l00Rises_c := fn_ok hm (D := spec_l00Rises_D) (DOk.cons ok_spec_l00In DOk.nil) ck_spec_l00Rises _ _ _ _
theorem ck_spec_l17One : chkFn Try.prog phi 846 spec_l17One_ir = true := by kernel_rfl
theorem ok_spec_l17One : FOk Try.prog phi 846 spec_l17One_c := fn_ok hm (D := spec_l17One_D) (DOk.cons ok_spec_l00In (DOk.cons ok_spec_l01Name (DOk.cons ok_spec_l00Rises DOk.nil))) ck_spec_l17One _ _ _ _
theorem ck_spec_l17Ok : chkFn Try.prog phi 462 spec_l17Ok_ir = true := by kernel_rfl
theorem ok_spec_l17Ok : FOk Try.prog phi 462 spec_l17Ok_c := fn_ok hm (D := spec_l17Ok_D) (DOk.cons ok_spec_l00Rises (DOk.cons ok_spec_l17One DOk.nil)) ck_spec_l17Ok _ _ _ _
theorem ck_spec_l17Starts : chkFn Try.prog phi 537 spec_l17Starts_ir = true := by kernel_rfl
theorem ok_spec_l17Starts : FOk Try.prog phi 537 spec_l17Starts_c := fn_ok hm (D := spec_l17Starts_D) (DOk.cons ok_spec_l00In DOk.nil) ck_spec_l17Starts _ _ _ _
theorem ck_spec_l21Day : chkFn Try.prog phi 993 spec_l21Day_ir = true := by kernel_rfl
theorem ok_spec_l21Day : FOk Try.prog phi 993 spec_l21Day_c := fn_ok hm (D := spec_l21Day_D) (DOk.cons ok_spec_l00In DOk.nil) ck_spec_l21Day _ _ _ _
theorem ck_spec_l21Money : chkFn Try.prog phi 994 spec_l21Money_ir = true := by kernel_rfl
theorem ok_spec_l21Money : FOk Try.prog phi 994 spec_l21Money_c := fn_ok hm (D := spec_l21Money_D) (DOk.cons ok_spec_l00In DOk.nil) ck_spec_l21Money _ _ _ _
theorem ck_spec_l21One : chkFn Try.prog phi 834 spec_l21One_ir = true := by kernel_rfl
theorem ok_spec_l21One : FOk Try.prog phi 834 spec_l21One_c := fn_ok hm (D := spec_l21One_D) (DOk.cons ok_spec_l00In (DOk.cons ok_spec_l01Name (DOk.cons ok_spec_l21Day (DOk.cons ok_spec_l21Money DOk.nil)))) ck_spec_l21One _ _ _ _
theorem ck_spec_l21Ok : chkFn Try.prog phi 722 spec_l21Ok_ir = true := by kernel_rfl
theorem ok_spec_l21Ok : FOk Try.prog phi 722 spec_l21Ok_c := fn_ok hm (D := spec_l21Ok_D) (DOk.cons ok_spec_l21One DOk.nil) ck_spec_l21Ok _ _ _ _
theorem ck_spec_l25One : chkFn Try.prog phi 1028 spec_l25One_ir = true := by kernel_rfl
theorem ok_spec_l25One : FOk Try.prog phi 1028 spec_l25One_c := fn_ok hm (D := spec_l25One_D) (DOk.cons ok_spec_l00In (DOk.cons ok_spec_l01Name (DOk.cons ok_spec_l21Day DOk.nil))) ck_spec_l25One _ _ _ _
theorem ck_spec_l25Ok : chkFn Try.prog phi 888 spec_l25Ok_ir = true := by kernel_rfl
theorem ok_spec_l25Ok : FOk Try.prog phi 888 spec_l25Ok_c := fn_ok hm (D := spec_l25Ok_D) (DOk.cons ok_spec_l25One DOk.nil) ck_spec_l25Ok _ _ _ _
theorem ck_spec_l31Ok : chkFn Try.prog phi 602 spec_l31Ok_ir = true := by kernel_rfl
theorem ok_spec_l31Ok : FOk Try.prog phi 602 spec_l31Ok_c := fn_ok hm (D := spec_l31Ok_D) (DOk.cons ok_spec_l00In (DOk.cons ok_spec_l17Ok (DOk.cons ok_spec_l17Starts (DOk.cons ok_spec_l21Ok (DOk.cons ok_spec_l25Ok (DOk.cons ok_spec_l05Ok (DOk.cons ok_spec_l09List (DOk.cons ok_spec_l09Share DOk.nil)))))))) ck_spec_l31Ok _ _ _ _
theorem ck_spec_ValidShop : chkFn Try.prog phi 202 spec_ValidShop_ir = true := by kernel_rfl
theorem ok_spec_ValidShop : FOk Try.prog phi 202 spec_ValidShop_c := fn_ok hm (D := spec_ValidShop_D) (DOk.cons ok_spec_l31Ok DOk.nil) ck_spec_ValidShop _ _ _ _
theorem ck_impl_within : chkFn Try.prog phi 23 impl_within_ir = true := by kernel_rfl
theorem ok_impl_within : FOk Try.prog phi 23 impl_within_c := fn_ok hm (D := impl_within_D) DOk.nil ck_impl_within _ _ _ _
theorem ck_impl_isCoord : chkFn Try.prog phi 1126 impl_isCoord_ir = true := by kernel_rfl
theorem ok_impl_isCoord : FOk Try.prog phi 1126 impl_isCoord_c := fn_ok hm (D := impl_isCoord_D) (DOk.cons ok_impl_within DOk.nil) ck_impl_isCoord _ _ _ _
theorem ck_impl_Point_valid : chkFn Try.prog phi 1030 impl_Point_valid_ir = true := by kernel_rfl
theorem ok_impl_Point_valid : FOk Try.prog phi 1030 impl_Point_valid_c := fn_ok hm (D := impl_Point_valid_D) (DOk.cons ok_impl_isCoord DOk.nil) ck_impl_Point_valid _ _ _ _
theorem ck_impl_squared : chkFn Try.prog phi 1031 impl_squared_ir = true := by kernel_rfl
theorem ok_impl_squared : FOk Try.prog phi 1031 impl_squared_c := fn_ok hm (D := impl_squared_D) DOk.nil ck_impl_squared _ _ _ _
theorem ck_impl_ValidArc : chkFn Try.prog phi 897 impl_ValidArc_ir = true := by kernel_rfl
theorem ok_impl_ValidArc : FOk Try.prog phi 897 impl_ValidArc_c := fn_ok hm (D := impl_ValidArc_D) (DOk.cons ok_impl_Point_valid (DOk.cons ok_impl_squared DOk.nil)) ck_impl_ValidArc _ _ _ _
theorem ck_impl_next : chkFn Try.prog phi 898 impl_next_ir = true := by kernel_rfl
theorem ok_impl_next : FOk Try.prog phi 898 impl_next_c := fn_ok hm (D := impl_next_D) DOk.nil ck_impl_next _ _ _ _
theorem ck_impl_ValidOutline : chkFn Try.prog phi 608 impl_ValidOutline_ir = true := by kernel_rfl
theorem ok_impl_ValidOutline : FOk Try.prog phi 608 impl_ValidOutline_c := fn_ok hm (D := impl_ValidOutline_D) (DOk.cons ok_impl_within (DOk.cons ok_impl_ValidArc (DOk.cons ok_impl_next DOk.nil))) ck_impl_ValidOutline _ _ _ _
theorem ck_impl_ValidString : chkFn Try.prog phi 899 impl_ValidString_ir = true := by kernel_rfl
theorem ok_impl_ValidString : FOk Try.prog phi 899 impl_ValidString_c := fn_ok hm (D := impl_ValidString_D) (DOk.cons ok_impl_within DOk.nil) ck_impl_ValidString _ _ _ _
theorem ck_impl_few : chkFn Try.prog phi 21 impl_few_ir = true := by kernel_rfl
theorem ok_impl_few : FOk Try.prog phi 21 impl_few_c := fn_ok hm (D := impl_few_D) DOk.nil ck_impl_few _ _ _ _
theorem ck_impl_validCords : chkFn Try.prog phi 609 impl_validCords_ir = true := by kernel_rfl
theorem ok_impl_validCords : FOk Try.prog phi 609 impl_validCords_c := fn_ok hm (D := impl_validCords_D) (DOk.cons ok_impl_few (DOk.cons ok_impl_ValidString DOk.nil)) ck_impl_validCords _ _ _ _
theorem ck_impl_isShare : chkFn Try.prog phi 610 impl_isShare_ir = true := by kernel_rfl
theorem ok_impl_isShare : FOk Try.prog phi 610 impl_isShare_c := fn_ok hm (D := impl_isShare_D) (DOk.cons ok_impl_within DOk.nil) ck_impl_isShare _ _ _ _
theorem ck_impl_isDigit : chkFn Try.prog phi 22 impl_isDigit_ir = true := by kernel_rfl
theorem ok_impl_isDigit : FOk Try.prog phi 22 impl_isDigit_c := fn_ok hm (D := impl_isDigit_D) DOk.nil ck_impl_isDigit _ _ _ _
theorem ck_impl_IsName : chkFn Try.prog phi 24 impl_IsName_ir = true := by kernel_rfl
theorem ok_impl_IsName : FOk Try.prog phi 24 impl_IsName_c := fn_ok hm (D := impl_IsName_D) (DOk.cons ok_impl_few (DOk.cons ok_impl_isDigit DOk.nil)) ck_impl_IsName _ _ _ _
theorem ck_impl_Step_valid : chkFn Try.prog phi 461 impl_Step_valid_ir = true := by kernel_rfl
theorem ok_impl_Step_valid : FOk Try.prog phi 461 impl_Step_valid_c := fn_ok hm (D := impl_Step_valid_D) (DOk.cons ok_impl_within (DOk.cons ok_impl_IsName DOk.nil)) ck_impl_Step_valid _ _ _ _
theorem vs_key : Maps.Keyed Try.prog 9 := Maps.string_keyed Try.underlying9
theorem vs_zero (w : World) : (zeroValue 4).run Try.prog w = .ok (.bool false) w := by kernel_rfl
theorem vs_none (a : Option Addr) (cap : Nat) (w : World) (fin : Bool)
    (hF : ∀ w', Lo w.heap.size w w' → Calls Try.prog 67 #[.int .i64 0, .int .i64 12] w' fun e w'' => e = .returned (.bool fin) ∧ Lo w'.heap.size w' w'') :
    Calls Try.prog 24 #[.slice a 0 cap] w fun e w' => e = .returned (.bool fin) ∧ Lo w.heap.size w w' := by
  have hmm := @run_makeMap Try.prog
  go_enter Try.func24, Try.ntmps24
  go_wp2
  refine wp_loop_rounds 1 ?_
  rw [rounds_succ]
  go_wp2_with (go_at_call 67; refine (hF _ ((Lo.refl _ _).alloc (Nat.le_refl _) _)).mono ?_; rintro e w1 ⟨rfl, hw1⟩)
  go_ret
  exact ⟨rfl, ((Lo.refl _ _).alloc (Nat.le_refl _) _).trans (hw1.mono (by simp))⟩
set_option maxHeartbeats 1600000 in
theorem vs_run (b off len cap : Nat) (w : World) (ids : Nat → List UInt8) (hs cs : Nat → Int) (aa : Nat → Option Addr) (al ac : Nat → Nat) (ok : Nat → Bool) (last : Nat → Int) (fin : Bool)
    (hb : b < w.heap.size) (hl : len ≤ 9223372036854775807)
    (h0 : ∀ j, j < len → w.cell? ⟨b, off + j * 4, none⟩ = some (.string ⟨(ids j).toArray⟩))
    (h1 : ∀ j, j < len → w.cell? ⟨b, off + j * 4 + 1, none⟩ = some (.int .i64 (hs j)))
    (h2 : ∀ j, j < len → w.cell? ⟨b, off + j * 4 + 2, none⟩ = some (.int .i64 (cs j)))
    (h3 : ∀ j, j < len → w.cell? ⟨b, off + j * 4 + 3, none⟩ = some (.slice (aa j) (al j) (ac j)))
    (h4 : ∀ j, j < len → 0 < al j → ∃ c o, aa j = some ⟨c, o, none⟩ ∧ c < w.heap.size ∧ al j ≤ 9223372036854775807 ∧ w.cell? ⟨c, o + (al j - 1), none⟩ = some (.int .i64 (last j)))
    (h5 : ∀ j, j < len → (ids j).length ≤ 9223372036854775807)
    (hV : ∀ j, j < len → ∀ w', Lo w.heap.size w w' → Calls Try.prog 66 #[.agg #[.string ⟨(ids j).toArray⟩, .int .i64 (hs j), .int .i64 (cs j), .slice (aa j) (al j) (ac j)]] w' fun e w'' => e = .returned (.bool (ok j)) ∧ Lo w'.heap.size w' w'')
    (hF : ∀ w', Lo w.heap.size w w' → Calls Try.prog 67 #[.int .i64 len, .int .i64 12] w' fun e w'' => e = .returned (.bool fin) ∧ Lo w'.heap.size w' w'') :
    Calls Try.prog 24 #[.slice (some ⟨b, off, none⟩) len cap] w fun e w' => e = .returned (.bool (vsGo ids al last ok fin len 0)) ∧ Lo w.heap.size w w' := by
  have hmm := @run_makeMap Try.prog
  go_enter Try.func24, Try.ntmps24
  go_wp2
  go_loopw [9] (fun i wr => ∃ k : Nat, k ≤ len ∧ i = .int .i64 k ∧ wr.ownsMap Try.prog 9 (Go.plainElem (H := Unit) Try.prog 4) w.heap.size k (vsD ids k) ∧
      Lo w.heap.size w wr ∧ w.heap.size + 1 ≤ wr.heap.size ∧ vsGo ids al last ok fin len 0 = vsGo ids al last ok fin (len - k) k)
    (fun i _ => len - (intOf i).toNat)
  case atStart => exact ⟨0, Nat.zero_le _, rfl, World.ownsMap_made _ _ _ _, (Lo.refl _ _).alloc (Nat.le_refl _) _, by simp, rfl⟩
  case round =>
    obtain ⟨k, hk, rfl, hown, hnx, hws, hgo⟩ := hrel
    rcases Nat.lt_or_ge k len with hkl | hkl
    · have HG : Hid (vsGo ids al last ok fin len 0 = if ok k then (if vsSeen ids k k then false else if decide (0 < al k) && decide ((k : Int) ≤ last k) then false else vsGo ids al last ok fin (len - (k + 1)) (k + 1)) else false) := by
        rw [hgo, show len - k = (len - (k + 1)) + 1 from by omega]; rfl
      clear hgo
      have c0 := (hnx.cell (by exact hb)).trans (h0 k hkl)
      have c1 := (hnx.cell (by exact hb)).trans (h1 k hkl)
      have c2 := (hnx.cell (by exact hb)).trans (h2 k hkl)
      have c3 := (hnx.cell (by exact hb)).trans (h3 k hkl)
      have V := hV k hkl
      have hkey : keyOf Try.prog 9 (.string ⟨(ids k).toArray⟩) = some (.string (ids k)) := WideMaps.keyOf_string_mk Try.underlying9 (show (ids k).length ≤ Go.maxLen from h5 k hkl)
      rcases Nat.eq_zero_or_pos (al k) with ha | ha
      · have A : Hid (al k = 0) := ha
        rw [ha] at c3 V
        clear ha
        go_wp2_with (first
          | (go_at_call 66; refine (V _ (hnx.alloc hnx.size _)).mono ?_; rintro e w1 ⟨rfl, hw1⟩
             have g0 : w1.cell? ⟨wr.heap.size, 0, none⟩ = some (.string ⟨(ids k).toArray⟩) := (hw1.cell (by rw [size_alloc]; exact Nat.lt_succ_self _)).trans (cell_new4 _ _ _ _ _ rfl)
             have g3 : w1.cell? ⟨wr.heap.size, 3, none⟩ = some (.slice (aa k) 0 (ac k)) := (hw1.cell (by rw [size_alloc]; exact Nat.lt_succ_self _)).trans (cell_new4 _ _ _ _ _ rfl))
          | (at_lookup; refine wpList_lookup_own_bool _ rfl _ _ 101 rfl 9 4 vs_key Try.underlying101 Try.underlying4 (vs_zero _) w.heap.size k _ rfl (ownsMap_below (hown.alloc _) hw1) _ _ rfl hkey _ (vsD_at ids k k) ?_)
          | (at_mapUpdate; refine wpList_mapUpdate_own _ rfl _ _ _ 101 rfl 9 4 vs_key Try.underlying101 (Go.plainElem (H := Unit) Try.prog 4) w.heap.size k _ rfl (ownsMap_below (hown.alloc _) hw1) (by unfold maxLen; omega) _ _ _ rfl rfl hkey _ [] (plainElem_bool Try.underlying4 true) ?_; intro w2 hown2 hgrow2)
          | go_in)
        · go_ret
          exact ⟨by rw [HG.out]; simp [*], (hnx.alloc hnx.size _).trans (hw1.mono (by simp; omega))⟩
        · have A := A.out
          go_roundw
          case rel => exact ⟨k + 1, by omega, by go_num, hown2, ((hnx.alloc hnx.size _).trans (hw1.mono (by simp; omega))).grown hgrow2 (by have := hw1.size; rw [size_alloc] at this; omega) (fun j hj => by cases hj; exact Nat.le_refl _), by have h1 := hw1.size; have h2 := hgrow2.size; simp at h1; omega, by rw [HG.out]; simp [*]⟩
          case measure => simp [intOf]; omega
        · go_ret
          exact ⟨by rw [HG.out]; simp [*], (hnx.alloc hnx.size _).trans (hw1.mono (by simp; omega))⟩
      · obtain ⟨c, o, e, hc, hcap, hcl⟩ := h4 k hkl ha
        have A : Hid (0 < al k) := ha
        obtain ⟨m, hm⟩ : ∃ m, al k = m + 1 := ⟨al k - 1, by omega⟩
        have M : Hid (al k = m + 1) := hm
        rw [hm] at hcap hcl
        rw [hm, e] at c3 V
        rw [Nat.add_sub_cancel] at hcl
        have hw64 : wrap64 (m : Int) = m := by unfold wrap64; omega
        have hcl' := (hnx.cell (by exact hc)).trans hcl
        clear ha hm hcl
        go_wp2_with (first
          | (go_at_call 66; refine (V _ (hnx.alloc hnx.size _)).mono ?_; rintro e w1 ⟨rfl, hw1⟩
             have g0 : w1.cell? ⟨wr.heap.size, 0, none⟩ = some (.string ⟨(ids k).toArray⟩) := (hw1.cell (by rw [size_alloc]; exact Nat.lt_succ_self _)).trans (cell_new4 _ _ _ _ _ rfl)
             have g3 : w1.cell? ⟨wr.heap.size, 3, none⟩ = some (.slice (some ⟨c, o, none⟩) (m + 1) (ac k)) := (hw1.cell (by rw [size_alloc]; exact Nat.lt_succ_self _)).trans (cell_new4 _ _ _ _ _ rfl)
             have gl : w1.cell? ⟨c, o + m, none⟩ = some (.int .i64 (last k)) := (hw1.cell (by have := hnx.size; rw [size_alloc]; show c < _; omega)).trans ((cell_old _ _ _ _ (by have := hnx.size; omega)).trans hcl'))
          | (at_lookup; refine wpList_lookup_own_bool _ rfl _ _ 101 rfl 9 4 vs_key Try.underlying101 Try.underlying4 (vs_zero _) w.heap.size k _ rfl (ownsMap_below (hown.alloc _) hw1) _ _ rfl hkey _ (vsD_at ids k k) ?_)
          | (at_mapUpdate; refine wpList_mapUpdate_own _ rfl _ _ _ 101 rfl 9 4 vs_key Try.underlying101 (Go.plainElem (H := Unit) Try.prog 4) w.heap.size k _ rfl (ownsMap_below (hown.alloc _) hw1) (by unfold maxLen; omega) _ _ _ rfl rfl hkey _ [] (plainElem_bool Try.underlying4 true) ?_; intro w2 hown2 hgrow2)
          | go_in)
        · go_ret
          exact ⟨by rw [HG.out]; simp [*], (hnx.alloc hnx.size _).trans (hw1.mono (by simp; omega))⟩
        · have A := A.out
          go_ret
          exact ⟨by rw [HG.out]; simp [*], (hnx.alloc hnx.size _).trans (hw1.mono (by simp; omega))⟩
        · have A := A.out
          go_roundw
          case rel => exact ⟨k + 1, by omega, by go_num, hown2, ((hnx.alloc hnx.size _).trans (hw1.mono (by simp; omega))).grown hgrow2 (by have := hw1.size; rw [size_alloc] at this; omega) (fun j hj => by cases hj; exact Nat.le_refl _), by have h1 := hw1.size; have h2 := hgrow2.size; simp at h1; omega, by rw [HG.out]; simp [*]⟩
          case measure => simp [intOf]; omega
        · go_ret
          exact ⟨by rw [HG.out]; simp [*], (hnx.alloc hnx.size _).trans (hw1.mono (by simp; omega))⟩
    · have : k = len := by omega
      subst this
      go_wp2_with (go_at_call 67; refine (hF _ hnx).mono ?_; rintro e w1 ⟨rfl, hw1⟩)
      go_ret
      exact ⟨by rw [hgo, Nat.sub_self]; rfl, hnx.trans (hw1.mono hnx.size)⟩
theorem vs_walk : VsWalk Try.prog 24 66 67 := ⟨⟨_, Try.func24, by decide +kernel, rfl⟩, vs_none, vs_run⟩
theorem ok_impl_ValidSteps : FOk Try.prog phi 83 impl_ValidSteps_c := validSteps_ok (gv := 461) (gf := 21) vs_walk (fun x b h => callOk_one ok_impl_Step_valid h) (fun m n b h => callOk_two ok_impl_few h) (by kernel_rfl)
theorem ck_impl_areStarts : chkFn Try.prog phi 541 impl_areStarts_ir = true := by kernel_rfl
theorem ok_impl_areStarts : FOk Try.prog phi 541 impl_areStarts_c := fn_ok hm (D := impl_areStarts_D) (DOk.cons ok_impl_within DOk.nil) ck_impl_areStarts _ _ _ _
theorem ck_impl_isClamps : chkFn Try.prog phi 534 impl_isClamps_ir = true := by kernel_rfl
theorem ok_impl_isClamps : FOk Try.prog phi 534 impl_isClamps_c := fn_ok hm (D := impl_isClamps_D) (DOk.cons ok_impl_within DOk.nil) ck_impl_isClamps _ _ _ _
theorem ck_impl_isRentDay : chkFn Try.prog phi 623 impl_isRentDay_ir = true := by kernel_rfl
theorem ok_impl_isRentDay : FOk Try.prog phi 623 impl_isRentDay_c := fn_ok hm (D := impl_isRentDay_D) (DOk.cons ok_impl_within DOk.nil) ck_impl_isRentDay _ _ _ _
theorem ck_impl_isMonths : chkFn Try.prog phi 1032 impl_isMonths_ir = true := by kernel_rfl
theorem ok_impl_isMonths : FOk Try.prog phi 1032 impl_isMonths_c := fn_ok hm (D := impl_isMonths_D) (DOk.cons ok_impl_within DOk.nil) ck_impl_isMonths _ _ _ _
theorem ck_impl_isMoney : chkFn Try.prog phi 1033 impl_isMoney_ir = true := by kernel_rfl
theorem ok_impl_isMoney : FOk Try.prog phi 1033 impl_isMoney_c := fn_ok hm (D := impl_isMoney_D) (DOk.cons ok_impl_within DOk.nil) ck_impl_isMoney _ _ _ _
theorem ck_impl_Rental_valid : chkFn Try.prog phi 900 impl_Rental_valid_ir = true := by kernel_rfl
theorem ok_impl_Rental_valid : FOk Try.prog phi 900 impl_Rental_valid_c := fn_ok hm (D := impl_Rental_valid_D) (DOk.cons ok_impl_IsName (DOk.cons ok_impl_isRentDay (DOk.cons ok_impl_isMonths (DOk.cons ok_impl_isMoney DOk.nil)))) ck_impl_Rental_valid _ _ _ _
theorem ck_impl_ValidRentals : chkFn Try.prog phi 611 impl_ValidRentals_ir = true := by kernel_rfl
theorem ok_impl_ValidRentals : FOk Try.prog phi 611 impl_ValidRentals_c := fn_ok hm (D := impl_ValidRentals_D) (DOk.cons ok_impl_few (DOk.cons ok_impl_Rental_valid DOk.nil)) ck_impl_ValidRentals _ _ _ _
theorem ck_impl_Entry_valid : chkFn Try.prog phi 621 impl_Entry_valid_ir = true := by kernel_rfl
theorem ok_impl_Entry_valid : FOk Try.prog phi 621 impl_Entry_valid_c := fn_ok hm (D := impl_Entry_valid_D) (DOk.cons ok_impl_within (DOk.cons ok_impl_IsName (DOk.cons ok_impl_isRentDay DOk.nil))) ck_impl_Entry_valid _ _ _ _
theorem ck_impl_ValidBook : chkFn Try.prog phi 213 impl_ValidBook_ir = true := by kernel_rfl
theorem ok_impl_ValidBook : FOk Try.prog phi 213 impl_ValidBook_c := fn_ok hm (D := impl_ValidBook_D) (DOk.cons ok_impl_few (DOk.cons ok_impl_Entry_valid DOk.nil)) ck_impl_ValidBook _ _ _ _
theorem ck_impl_ValidShop : chkFn Try.prog phi 201 impl_ValidShop_ir = true := by kernel_rfl
theorem ok_impl_ValidShop : FOk Try.prog phi 201 impl_ValidShop_c := fn_ok hm (D := impl_ValidShop_D) (DOk.cons ok_impl_ValidSteps (DOk.cons ok_impl_ValidBook (DOk.cons ok_impl_isClamps (DOk.cons ok_impl_areStarts (DOk.cons ok_impl_ValidOutline (DOk.cons ok_impl_validCords (DOk.cons ok_impl_isShare (DOk.cons ok_impl_ValidRentals DOk.nil)))))))) ck_impl_ValidShop _ _ _ _
theorem ck_laws_eqPoint : chkFn Try.prog phi 1034 laws_eqPoint_ir = true := by kernel_rfl
theorem ok_laws_eqPoint : FOk Try.prog phi 1034 laws_eqPoint_c := fn_ok hm (D := laws_eqPoint_D) DOk.nil ck_laws_eqPoint _ _ _ _
theorem ck_laws_eqArc : chkFn Try.prog phi 901 laws_eqArc_ir = true := by kernel_rfl
theorem ok_laws_eqArc : FOk Try.prog phi 901 laws_eqArc_c := fn_ok hm (D := laws_eqArc_D) (DOk.cons ok_laws_eqPoint DOk.nil) ck_laws_eqArc _ _ _ _
theorem ck_laws_eqArcS : chkFn Try.prog phi 616 laws_eqArcS_ir = true := by kernel_rfl
theorem ok_laws_eqArcS : FOk Try.prog phi 616 laws_eqArcS_c := fn_ok hm (D := laws_eqArcS_D) (DOk.cons ok_laws_eqArc DOk.nil) ck_laws_eqArcS _ _ _ _
theorem ck_laws_eqCord : chkFn Try.prog phi 902 laws_eqCord_ir = true := by kernel_rfl
theorem ok_laws_eqCord : FOk Try.prog phi 902 laws_eqCord_c := fn_ok hm (D := laws_eqCord_D) DOk.nil ck_laws_eqCord _ _ _ _
theorem ck_laws_eqCordS : chkFn Try.prog phi 615 laws_eqCordS_ir = true := by kernel_rfl
theorem ok_laws_eqCordS : FOk Try.prog phi 615 laws_eqCordS_c := fn_ok hm (D := laws_eqCordS_D) (DOk.cons ok_laws_eqCord DOk.nil) ck_laws_eqCordS _ _ _ _
theorem ck_laws_eqInt64S : chkFn Try.prog phi 42 laws_eqInt64S_ir = true := by kernel_rfl
theorem ok_laws_eqInt64S : FOk Try.prog phi 42 laws_eqInt64S_c := fn_ok hm (D := laws_eqInt64S_D) DOk.nil ck_laws_eqInt64S _ _ _ _
theorem ck_laws_eqStep : chkFn Try.prog phi 903 laws_eqStep_ir = true := by kernel_rfl
theorem ok_laws_eqStep : FOk Try.prog phi 903 laws_eqStep_c := fn_ok hm (D := laws_eqStep_D) (DOk.cons ok_laws_eqInt64S DOk.nil) ck_laws_eqStep _ _ _ _
theorem ck_laws_eqStepS : chkFn Try.prog phi 614 laws_eqStepS_ir = true := by kernel_rfl
theorem ok_laws_eqStepS : FOk Try.prog phi 614 laws_eqStepS_c := fn_ok hm (D := laws_eqStepS_D) (DOk.cons ok_laws_eqStep DOk.nil) ck_laws_eqStepS _ _ _ _
theorem ck_laws_eqRental : chkFn Try.prog phi 904 laws_eqRental_ir = true := by kernel_rfl
theorem ok_laws_eqRental : FOk Try.prog phi 904 laws_eqRental_c := fn_ok hm (D := laws_eqRental_D) DOk.nil ck_laws_eqRental _ _ _ _
theorem ck_laws_eqRentalS : chkFn Try.prog phi 613 laws_eqRentalS_ir = true := by kernel_rfl
theorem ok_laws_eqRentalS : FOk Try.prog phi 613 laws_eqRentalS_c := fn_ok hm (D := laws_eqRentalS_D) (DOk.cons ok_laws_eqRental DOk.nil) ck_laws_eqRentalS _ _ _ _
theorem ck_laws_eqEntry : chkFn Try.prog phi 905 laws_eqEntry_ir = true := by kernel_rfl
theorem ok_laws_eqEntry : FOk Try.prog phi 905 laws_eqEntry_c := fn_ok hm (D := laws_eqEntry_D) DOk.nil ck_laws_eqEntry _ _ _ _
theorem ck_laws_eqEntryS : chkFn Try.prog phi 612 laws_eqEntryS_ir = true := by kernel_rfl
theorem ok_laws_eqEntryS : FOk Try.prog phi 612 laws_eqEntryS_c := fn_ok hm (D := laws_eqEntryS_D) (DOk.cons ok_laws_eqEntry DOk.nil) ck_laws_eqEntryS _ _ _ _
theorem ck_laws_eqShop : chkFn Try.prog phi 200 laws_eqShop_ir = true := by kernel_rfl
theorem ok_laws_eqShop : FOk Try.prog phi 200 laws_eqShop_c := fn_ok hm (D := laws_eqShop_D) (DOk.cons ok_laws_eqInt64S (DOk.cons ok_laws_eqEntryS (DOk.cons ok_laws_eqRentalS (DOk.cons ok_laws_eqStepS (DOk.cons ok_laws_eqCordS (DOk.cons ok_laws_eqArcS DOk.nil)))))) ck_laws_eqShop _ _ _ _
theorem ck_laws_FnExactValidShop : chkFn Try.prog phi 1235 laws_FnExactValidShop_ir = true := by kernel_rfl
theorem ok_laws_FnExactValidShop : FOk Try.prog phi 1235 laws_FnExactValidShop_c := fn_ok hm (D := laws_FnExactValidShop_D) (DOk.cons ok_laws_toShop (DOk.cons ok_laws_eqShop (DOk.cons ok_impl_ValidShop (DOk.cons ok_spec_ValidShop (DOk.cons ok_laws_szShop DOk.nil))))) ck_laws_FnExactValidShop _ _ _ _
theorem law : ∀ x, wfU laws_FnExactValidShop_c.ps x → ∃ y, laws_FnExactValidShop_c.f x = some y ∧ resA laws_FnExactValidShop_c y = ([A.bool true], []) := fun x hx => ⟨true, (laws_FnExactValidShop_true x.1 hx.1), rfl⟩
theorem own : ownKnob Try.prog.godebug = none := by kernel_rfl
theorem laid : laidOutB Try.prog = true := by kernel_rfl
theorem reads : ∀ t ∈ Try.f4.params.toList, Try.prog.readableRec t = true ∧ t < Try.prog.types.size := by
  have h : (Try.f4.params.toList.all fun t => Try.prog.readableRec t && decide (t < Try.prog.types.size)) = true := by kernel_rfl
  intro t ht
  have := List.all_eq_true.1 h t ht
  simpa only [Bool.and_eq_true, decide_eq_true_eq] using this
theorem spec_eq (H : Type) : ∀ (ds : List (DataW H)), ds.length = Try.f4.params.toList.length → Rows.fnExactValidShopSpec.fn H ds = { results := [.lit (.bool true)], args := ds } := by
  intro ds hd
  have hd : ds.length = 1 := hd
  match ds, hd with
  | [d0], _ => rfl
theorem tab (W : World) : ∀ i, Try.prog.globalNamed pow10Name = some i → Lib.TabIs Try.prog W pow10Name .u64 Lib.pow10Tab := by
  intro i hi
  have h : Try.prog.globalNamed pow10Name = none := by kernel_rfl
  rw [h] at hi; cases hi
theorem errs (W : World) : ∀ n, errNames.contains n = true → ∀ i, Try.prog.globalNamed n = some i → ∃ u v, W.var? Try.prog n = some #[.iface u v] := by
  intro n hn i hi
  have hn : n = "strconv.ErrSyntax" ∨ n = "strconv.ErrRange" := by simpa [errNames] using hn
  rcases hn with rfl | rfl
  · have h : Try.prog.globalNamed "strconv.ErrSyntax" = none := by kernel_rfl
    rw [h] at hi; cases hi
  · have h : Try.prog.globalNamed "strconv.ErrRange" = none := by kernel_rfl
    rw [h] at hi; cases hi
theorem contract (H : Type) (enc : TypeId × Value → H) (W : World) (base : Nat) (args : Array Value) (ds gs : List (DataW H)) (before : List MemPlace)
    (hval : ∀ (j : Nat) t v, Try.f4.params[j]? = some t → args[j]? = some v → Value.okWide Try.prog W .any base t v)
    (hW : DataW.Whole enc Try.prog Try.f4.params.toList Rows.fnExactValidShopSpec.vars false W args.toList ds gs before) (hsh : W.ShapedOpen Try.prog) :
    Calls Try.prog 4 args W fun e W' => ∃ v, e = .returned v ∧ Rows.fnExactValidShopSpec.post enc Try.prog Try.f4 false true false false W args v W' :=
  row_contract (φ := phi) (g := 1235) (n := 20) ok_laws_FnExactValidShop rfl rfl (tb := 4) Try.underlying4 (by kernel_rfl) rfl law laid reads spec_eq W base args ds gs before hval hW (Glob.start hsh (tab W) (errs W))
theorem lifted (os : Os) (started : os.Started) (H : Type) (enc : TypeId × Value → H) :
    ReturnsInHanded {} Try.checked os 4 .any (Rows.fnExactValidShopSpec.pre6 enc Try.prog Try.f4 Rows.fnExactValidShopRow.domain false) (Rows.fnExactValidShopSpec.post enc Try.prog Try.f4 false true false false) := by
  refine returnsInHanded_of_change_shaped (C := Try.checked) own started (by kernel_rfl) Try.func4
    (ChangeSpec.witness6 (enc := enc) (C := Try.checked) false ⟨#[], #[.agg #[.slice none 0 0, .slice none 0 0, .int .i64 0, .slice none 0 0, .slice none 0 0, .int .i64 0, .slice none 0 0, .slice none 0 0]], []⟩ 12 (by kernel_rfl) (by kernel_rfl) (by kernel_rfl) (by kernel_rfl)) ?_
  intro W base args ds gs before hval hW _ _ hsh _
  exact contract H enc W base args ds gs before hval hW hsh
theorem over : Rows.fnExactValidShopRow.holds Try.pinned (OpenSpec.ofChange Rows.fnExactValidShopSpec) :=
  OpenClaim.holds_of_wide 4 Try.f4 rfl rfl rfl rfl rfl rfl rfl ⟨rfl, rfl, rfl, rfl, rfl⟩ rfl rfl rfl rfl rfl (by kernel_rfl) Try.func4 (by kernel_rfl)
    (of_decide_eq_true (by kernel_rfl)) (by unfold Func.isWrapper; first | (rw [if_pos (by decide +kernel)]; kernel_rfl) | (rw [if_neg (by decide +kernel)]; exact ⟨rfl, rfl⟩))
    (fun os started H enc _ => lifted os started H enc)
/-- The statement. -/
theorem proved : Rows.FnExactValidShopSaid := over
end Go.Proofs.Ytnfdkcpnoolmfaa.fnExactValidShop
