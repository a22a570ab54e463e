/- The law FnAudit answers true for every input, whatever it is, and leaves its arguments as they were. Conditions: none. -/
import Derived.Test.YtcadiimcjfakjaaGreatDoorQFnAudit
import Derived.Test.YtcadiimcjfakjaaGreatDoorRows
import Derived.Test.YtcadiimcjfakjaaGreatDoorL5
import Derived.Test.YtcadiimcjfakjaaGreatDoorL6
import Derived.Carry
import Derived.Test.YtcadiimcjfakjaaGreatDoorShelf
import Derived.Test.YtcadiimcjfakjaaGreatDoorCards
import Derived.Test.YtcadiimcjfakjaaGreatDoorTie
import Derived.LaidMore
import Derived.Lay
import Derived.SevenTiedAt
import Derived.Stop.Joined
import Derived.WalkKit
import Derived.ProofKit
import Derived.OpenShut
import Derived.JoinedOf
import Derived.Handed
set_option linter.unusedVariables false
set_option maxRecDepth 100000
namespace Go.Proofs.YtcadiimcjfakjaaGreatDoor.fnAudit
open Go.Ab Go.Ab.P
open Go.ChangeShapes Go.WideShapes Go.ChangeAt Go.RowKit
def phiL : List (Nat × Nat) := [(441,21),(847,84),(463,49),(1044,85),(938,50),(642,91),(845,86),(453,51),(17,87),(720,43),(869,88),(542,52),(937,53),(557,107),(992,89),(830,54),(906,108),(618,90),(617,55),(707,22),(287,5),(1,41),(946,76),(945,77),(716,36),(889,56),(719,38),(890,57),(891,58),(11,105),(12,106),(13,83),(804,80),(846,79),(462,40),(537,42),(993,102),(994,103),(834,81),(722,44),(1028,92),(888,59),(602,23),(202,6),(23,34),(1126,118),(1030,109),(1031,110),(897,93),(898,69),(608,60),(899,94),(21,95),(609,61),(610,62),(22,101),(24,74),(461,96),(83,63),(541,64),(534,65),(623,111),(1032,112),(1033,113),(900,97),(611,66),(621,98),(213,67),(201,24),(939,68),(710,25),(864,70),(524,26),(27,72),(708,28),(940,71),(709,27),(283,9),(540,29),(539,30),(285,10),(1045,100),(941,73),(711,31),(622,33),(210,32),(282,11),(286,8),(284,7),(44,12),(4,75),(5,35),(6,14),(8,13),(1259,3)]
def phi (n : Nat) : Nat := (phiL.lookup n).getD 1000000
theorem hm : Tryz.prog.follows .mixedOrders = true := by kernel_rfl
theorem ok_spec_l00From : FOk Tryz.prog phi 441 spec_l00From_c := fn_ok hm (D := spec_l00From_D) DOk.nil (by kernel_rfl) _ _ _ _
theorem ok_spec_l00Src_next : FOk Tryz.prog phi 847 spec_l00Src_next_c := fn_ok hm (D := spec_l00Src_next_D) DOk.nil (by kernel_rfl) _ _ _ _
theorem ok_spec_l00Src_pick : FOk Tryz.prog phi 463 spec_l00Src_pick_c := fn_ok hm (D := spec_l00Src_pick_D) (DOk.cons ok_spec_l00Src_next DOk.nil) (by kernel_rfl) _ _ _ _
theorem ok_spec_l05Arc : FOk Tryz.prog phi 1044 spec_l05Arc_c := fn_ok hm (D := spec_l05Arc_D) DOk.nil (by kernel_rfl) _ _ _ _
theorem ok_spec_l05Oval : FOk Tryz.prog phi 938 spec_l05Oval_c := fn_ok hm (D := spec_l05Oval_D) (DOk.cons ok_spec_l05Arc DOk.nil) (by kernel_rfl) _ _ _ _
theorem ok_spec_l00Src_one : FOk Tryz.prog phi 642 spec_l00Src_one_c := fn_ok hm (D := spec_l00Src_one_D) (DOk.cons ok_spec_l00Src_pick DOk.nil) (by kernel_rfl) _ _ _ _
theorem ok_spec_l17DrawOne : FOk Tryz.prog phi 845 spec_l17DrawOne_c := fn_ok hm (D := spec_l17DrawOne_D) (DOk.cons ok_spec_l00Src_pick (DOk.cons ok_spec_l00Src_one DOk.nil)) (by kernel_rfl) _ _ _ _
theorem ok_spec_l17Draw : FOk Tryz.prog phi 453 spec_l17Draw_c := fn_ok hm (D := spec_l17Draw_D) (DOk.cons ok_spec_l00Src_pick (DOk.cons ok_spec_l17DrawOne DOk.nil)) (by kernel_rfl) _ _ _ _
theorem ok_spec_l00Max : FOk Tryz.prog phi 17 spec_l00Max_c := fn_ok hm (D := spec_l00Max_D) DOk.nil (by kernel_rfl) _ _ _ _
theorem ok_spec_l17Used : FOk Tryz.prog phi 720 spec_l17Used_c := fn_ok hm (D := spec_l17Used_D) DOk.nil (by kernel_rfl) _ _ _ _
theorem ok_spec_l17Free : FOk Tryz.prog phi 869 spec_l17Free_c := fn_ok hm (D := spec_l17Free_D) (DOk.cons ok_spec_l17Used DOk.nil) (by kernel_rfl) _ _ _ _
theorem ok_spec_l17Plan : FOk Tryz.prog phi 542 spec_l17Plan_c := fn_ok hm (D := spec_l17Plan_D) (DOk.cons ok_spec_l00Max (DOk.cons ok_spec_l17Free DOk.nil)) (by kernel_rfl) _ _ _ _
theorem ok_spec_l05Draw : FOk Tryz.prog phi 937 spec_l05Draw_c := fn_ok hm (D := spec_l05Draw_D) (DOk.cons ok_spec_l00Src_pick (DOk.cons ok_spec_l05Oval (DOk.cons ok_spec_l05Arc DOk.nil))) (by kernel_rfl) _ _ _ _
theorem ok_spec_l00Src_text : FOk Tryz.prog phi 557 spec_l00Src_text_c := fn_ok hm (D := spec_l00Src_text_D) (DOk.cons ok_spec_l00Src_pick DOk.nil) (by kernel_rfl) _ _ _ _
theorem ok_spec_l21DrawOne : FOk Tryz.prog phi 992 spec_l21DrawOne_c := fn_ok hm (D := spec_l21DrawOne_D) (DOk.cons ok_spec_l00Src_pick (DOk.cons ok_spec_l00Src_text DOk.nil)) (by kernel_rfl) _ _ _ _
theorem ok_spec_l21Draw : FOk Tryz.prog phi 830 spec_l21Draw_c := fn_ok hm (D := spec_l21Draw_D) (DOk.cons ok_spec_l00Src_pick (DOk.cons ok_spec_l21DrawOne DOk.nil)) (by kernel_rfl) _ _ _ _
theorem ok_spec_l25DrawName : FOk Tryz.prog phi 906 spec_l25DrawName_c := fn_ok hm (D := spec_l25DrawName_D) (DOk.cons ok_spec_l00Src_text DOk.nil) (by kernel_rfl) _ _ _ _
theorem ok_spec_l25DrawOne : FOk Tryz.prog phi 618 spec_l25DrawOne_c := fn_ok hm (D := spec_l25DrawOne_D) (DOk.cons ok_spec_l00Src_pick (DOk.cons ok_spec_l25DrawName DOk.nil)) (by kernel_rfl) _ _ _ _
theorem ok_spec_l25Draw : FOk Tryz.prog phi 617 spec_l25Draw_c := fn_ok hm (D := spec_l25Draw_D) (DOk.cons ok_spec_l00Src_pick (DOk.cons ok_spec_l25DrawOne (DOk.cons ok_spec_l00Src_one DOk.nil))) (by kernel_rfl) _ _ _ _
theorem ok_spec_l31Draw : FOk Tryz.prog phi 707 spec_l31Draw_c := fn_ok hm (D := spec_l31Draw_D) (DOk.cons ok_spec_l17Draw (DOk.cons ok_spec_l00Src_pick (DOk.cons ok_spec_l17Plan (DOk.cons ok_spec_l25Draw (DOk.cons ok_spec_l21Draw (DOk.cons ok_spec_l05Draw (DOk.cons ok_spec_l05Oval DOk.nil))))))) (by kernel_rfl) _ _ _ _
theorem ok_spec_R8Shop : FOk Tryz.prog phi 287 spec_R8Shop_c := fn_ok hm (D := spec_R8Shop_D) (DOk.cons ok_spec_l00From (DOk.cons ok_spec_l31Draw DOk.nil)) (by kernel_rfl) _ _ _ _
theorem ok_spec_l00In : FOk Tryz.prog phi 1 spec_l00In_c := fn_ok hm (D := spec_l00In_D) DOk.nil (by kernel_rfl) _ _ _ _
theorem ok_spec_l05Point : FOk Tryz.prog phi 946 spec_l05Point_c := fn_ok hm (D := spec_l05Point_D) (DOk.cons ok_spec_l00In DOk.nil) (by kernel_rfl) _ _ _ _
theorem ok_spec_l05Square : FOk Tryz.prog phi 945 spec_l05Square_c := fn_ok hm (D := spec_l05Square_D) DOk.nil (by kernel_rfl) _ _ _ _
theorem ok_spec_l05One : FOk Tryz.prog phi 716 spec_l05One_c := fn_ok hm (D := spec_l05One_D) (DOk.cons ok_spec_l05Square (DOk.cons ok_spec_l05Point DOk.nil)) (by kernel_rfl) _ _ _ _
theorem ok_spec_l05Ok : FOk Tryz.prog phi 889 spec_l05Ok_c := fn_ok hm (D := spec_l05Ok_D) (DOk.cons ok_spec_l05One DOk.nil) (by kernel_rfl) _ _ _ _
theorem ok_spec_l09One : FOk Tryz.prog phi 719 spec_l09One_c := fn_ok hm (D := spec_l09One_D) (DOk.cons ok_spec_l00In DOk.nil) (by kernel_rfl) _ _ _ _
theorem ok_spec_l09List : FOk Tryz.prog phi 890 spec_l09List_c := fn_ok hm (D := spec_l09List_D) (DOk.cons ok_spec_l09One DOk.nil) (by kernel_rfl) _ _ _ _
theorem ok_spec_l09Share : FOk Tryz.prog phi 891 spec_l09Share_c := fn_ok hm (D := spec_l09Share_D) (DOk.cons ok_spec_l00In DOk.nil) (by kernel_rfl) _ _ _ _
theorem ok_spec_l01Small : FOk Tryz.prog phi 11 spec_l01Small_c := fn_ok hm (D := spec_l01Small_D) DOk.nil (by kernel_rfl) _ _ _ _
theorem ok_spec_l01Digit : FOk Tryz.prog phi 12 spec_l01Digit_c := fn_ok hm (D := spec_l01Digit_D) DOk.nil (by kernel_rfl) _ _ _ _
theorem ok_spec_l01Name : FOk Tryz.prog phi 13 spec_l01Name_c := fn_ok hm (D := spec_l01Name_D) (DOk.cons ok_spec_l01Small (DOk.cons ok_spec_l01Digit DOk.nil)) (by kernel_rfl) _ _ _ _
theorem ok_spec_l00Rises : FOk Tryz.prog phi 804 spec_l00Rises_c := fn_ok hm (D := spec_l00Rises_D) (DOk.cons ok_spec_l00In DOk.nil) (by kernel_rfl) _ _ _ _
theorem ok_spec_l17One : FOk Tryz.prog phi 846 spec_l17One_c := fn_ok hm (D := spec_l17One_D) (DOk.cons ok_spec_l00In (DOk.cons ok_spec_l01Name (DOk.cons ok_spec_l00Rises DOk.nil))) (by kernel_rfl) _ _ _ _
theorem ok_spec_l17Ok : FOk Tryz.prog phi 462 spec_l17Ok_c := fn_ok hm (D := spec_l17Ok_D) (DOk.cons ok_spec_l00Rises (DOk.cons ok_spec_l17One DOk.nil)) (by kernel_rfl) _ _ _ _
theorem ok_spec_l17Starts : FOk Tryz.prog phi 537 spec_l17Starts_c := fn_ok hm (D := spec_l17Starts_D) (DOk.cons ok_spec_l00In DOk.nil) (by kernel_rfl) _ _ _ _
theorem ok_spec_l21Day : FOk Tryz.prog phi 993 spec_l21Day_c := fn_ok hm (D := spec_l21Day_D) (DOk.cons ok_spec_l00In DOk.nil) (by kernel_rfl) _ _ _ _
theorem ok_spec_l21Money : FOk Tryz.prog phi 994 spec_l21Money_c := fn_ok hm (D := spec_l21Money_D) (DOk.cons ok_spec_l00In DOk.nil) (by kernel_rfl) _ _ _ _
theorem ok_spec_l21One : FOk Tryz.prog phi 834 spec_l21One_c := fn_ok hm (D := spec_l21One_D) (DOk.cons ok_spec_l00In (DOk.cons ok_spec_l01Name (DOk.cons ok_spec_l21Day (DOk.cons ok_spec_l21Money DOk.nil)))) (by kernel_rfl) _ _ _ _
theorem ok_spec_l21Ok : FOk Tryz.prog phi 722 spec_l21Ok_c := fn_ok hm (D := spec_l21Ok_D) (DOk.cons ok_spec_l21One DOk.nil) (by kernel_rfl) _ _ _ _
theorem ok_spec_l25One : FOk Tryz.prog phi 1028 spec_l25One_c := fn_ok hm (D := spec_l25One_D) (DOk.cons ok_spec_l00In (DOk.cons ok_spec_l01Name (DOk.cons ok_spec_l21Day DOk.nil))) (by kernel_rfl) _ _ _ _
theorem ok_spec_l25Ok : FOk Tryz.prog phi 888 spec_l25Ok_c := fn_ok hm (D := spec_l25Ok_D) (DOk.cons ok_spec_l25One DOk.nil) (by kernel_rfl) _ _ _ _
theorem ok_spec_l31Ok : FOk Tryz.prog phi 602 spec_l31Ok_c := fn_ok hm (D := spec_l31Ok_D) (DOk.cons ok_spec_l00In (DOk.cons ok_spec_l17Ok (DOk.cons ok_spec_l17Starts (DOk.cons ok_spec_l21Ok (DOk.cons ok_spec_l25Ok (DOk.cons ok_spec_l05Ok (DOk.cons ok_spec_l09List (DOk.cons ok_spec_l09Share DOk.nil)))))))) (by kernel_rfl) _ _ _ _
theorem ok_spec_ValidShop : FOk Tryz.prog phi 202 spec_ValidShop_c := fn_ok hm (D := spec_ValidShop_D) (DOk.cons ok_spec_l31Ok DOk.nil) (by kernel_rfl) _ _ _ _
theorem ok_impl_within : FOk Tryz.prog phi 23 impl_within_c := fn_ok hm (D := impl_within_D) DOk.nil (by kernel_rfl) _ _ _ _
theorem ok_impl_isCoord : FOk Tryz.prog phi 1126 impl_isCoord_c := fn_ok hm (D := impl_isCoord_D) (DOk.cons ok_impl_within DOk.nil) (by kernel_rfl) _ _ _ _
theorem ok_impl_Point_valid : FOk Tryz.prog phi 1030 impl_Point_valid_c := fn_ok hm (D := impl_Point_valid_D) (DOk.cons ok_impl_isCoord DOk.nil) (by kernel_rfl) _ _ _ _
theorem ok_impl_squared : FOk Tryz.prog phi 1031 impl_squared_c := fn_ok hm (D := impl_squared_D) DOk.nil (by kernel_rfl) _ _ _ _
theorem ok_impl_ValidArc : FOk Tryz.prog phi 897 impl_ValidArc_c := fn_ok hm (D := impl_ValidArc_D) (DOk.cons ok_impl_Point_valid (DOk.cons ok_impl_squared DOk.nil)) (by kernel_rfl) _ _ _ _
theorem ok_impl_next : FOk Tryz.prog phi 898 impl_next_c := fn_ok hm (D := impl_next_D) DOk.nil (by kernel_rfl) _ _ _ _
theorem ok_impl_ValidOutline : FOk Tryz.prog phi 608 impl_ValidOutline_c := fn_ok hm (D := impl_ValidOutline_D) (DOk.cons ok_impl_within (DOk.cons ok_impl_ValidArc (DOk.cons ok_impl_next DOk.nil))) (by kernel_rfl) _ _ _ _
theorem ok_impl_ValidString : FOk Tryz.prog phi 899 impl_ValidString_c := fn_ok hm (D := impl_ValidString_D) (DOk.cons ok_impl_within DOk.nil) (by kernel_rfl) _ _ _ _
theorem ok_impl_few : FOk Tryz.prog phi 21 impl_few_c := fn_ok hm (D := impl_few_D) DOk.nil (by kernel_rfl) _ _ _ _
theorem ok_impl_validCords : FOk Tryz.prog phi 609 impl_validCords_c := fn_ok hm (D := impl_validCords_D) (DOk.cons ok_impl_few (DOk.cons ok_impl_ValidString DOk.nil)) (by kernel_rfl) _ _ _ _
theorem ok_impl_isShare : FOk Tryz.prog phi 610 impl_isShare_c := fn_ok hm (D := impl_isShare_D) (DOk.cons ok_impl_within DOk.nil) (by kernel_rfl) _ _ _ _
theorem ok_impl_isDigit : FOk Tryz.prog phi 22 impl_isDigit_c := fn_ok hm (D := impl_isDigit_D) DOk.nil (by kernel_rfl) _ _ _ _
theorem ok_impl_IsName : FOk Tryz.prog phi 24 impl_IsName_c := fn_ok hm (D := impl_IsName_D) (DOk.cons ok_impl_few (DOk.cons ok_impl_isDigit DOk.nil)) (by kernel_rfl) _ _ _ _
theorem ok_impl_Step_valid : FOk Tryz.prog phi 461 impl_Step_valid_c := fn_ok hm (D := impl_Step_valid_D) (DOk.cons ok_impl_within (DOk.cons ok_impl_IsName DOk.nil)) (by kernel_rfl) _ _ _ _
theorem vs_key : Maps.Keyed Tryz.prog 9 := Maps.string_keyed Tryz.underlying9
theorem vs_zero (w : World) : (zeroValue 4).run Tryz.prog w = .ok (.bool false) w := by kernel_rfl
theorem vs_none (a : Option Addr) (cap : Nat) (w : World) (fin : Bool)
 (hF : ∀ w',Lo w.heap.size w w' → Calls Tryz.prog 95 #[.int .i64 0,.int .i64 12] w' fun e w'' => e = .returned (.bool fin) ∧ Lo w'.heap.size w' w'') :
 Calls Tryz.prog 63 #[.slice a 0 cap] w fun e w' => e = .returned (.bool fin) ∧ Lo w.heap.size w w' := by
 have hmm := @run_makeMap Tryz.prog
 go_enter Tryz.func63,Tryz.ntmps63
 go_wp2
 refine wp_loop_rounds 1 ?_
 rw [rounds_succ]
 go_wp2_with (go_at_call 95; refine (hF _ ((Lo.refl _ _).alloc (Nat.le_refl _) _)).mono ?_; rintro e w1 ⟨rfl,hw1⟩)
 go_ret
 exact ⟨rfl,((Lo.refl _ _).alloc (Nat.le_refl _) _).trans (hw1.mono (by simp))⟩
set_option maxHeartbeats 1600000 in
theorem vs_run (b off len cap : Nat) (w : World) (ids : Nat → List UInt8) (hs cs : Nat → Int) (aa : Nat → Option Addr) (al ac : Nat → Nat) (ok : Nat → Bool) (last : Nat → Int) (fin : Bool)
 (hb : b < w.heap.size) (hl : len ≤ 9223372036854775807)
 (h0 : ∀ j,j < len → w.cell? ⟨b,off + j * 4,none⟩ = some (.string ⟨(ids j).toArray⟩))
 (h1 : ∀ j,j < len → w.cell? ⟨b,off + j * 4 + 1,none⟩ = some (.int .i64 (hs j)))
 (h2 : ∀ j,j < len → w.cell? ⟨b,off + j * 4 + 2,none⟩ = some (.int .i64 (cs j)))
 (h3 : ∀ j,j < len → w.cell? ⟨b,off + j * 4 + 3,none⟩ = some (.slice (aa j) (al j) (ac j)))
 (h4 : ∀ j,j < len → 0 < al j → ∃ c o,aa j = some ⟨c,o,none⟩ ∧ c < w.heap.size ∧ al j ≤ 9223372036854775807 ∧ w.cell? ⟨c,o + (al j - 1),none⟩ = some (.int .i64 (last j)))
 (h5 : ∀ j,j < len → (ids j).length ≤ 9223372036854775807)
 (hV : ∀ j,j < len → ∀ w',Lo w.heap.size w w' → Calls Tryz.prog 96 #[.agg #[.string ⟨(ids j).toArray⟩,.int .i64 (hs j),.int .i64 (cs j),.slice (aa j) (al j) (ac j)]] w' fun e w'' => e = .returned (.bool (ok j)) ∧ Lo w'.heap.size w' w'')
 (hF : ∀ w',Lo w.heap.size w w' → Calls Tryz.prog 95 #[.int .i64 len,.int .i64 12] w' fun e w'' => e = .returned (.bool fin) ∧ Lo w'.heap.size w' w'') :
 Calls Tryz.prog 63 #[.slice (some ⟨b,off,none⟩) len cap] w fun e w' => e = .returned (.bool (vsGo ids al last ok fin len 0)) ∧ Lo w.heap.size w w' := by
 have hmm := @run_makeMap Tryz.prog
 go_enter Tryz.func63,Tryz.ntmps63
 go_wp2
 go_loopw [9] (fun i wr => ∃ k : Nat,k ≤ len ∧ i = .int .i64 k ∧ wr.ownsMap Tryz.prog 9 (Go.plainElem (H := Unit) Tryz.prog 4) w.heap.size k (vsD ids k) ∧
  Lo w.heap.size w wr ∧ w.heap.size + 1 ≤ wr.heap.size ∧ vsGo ids al last ok fin len 0 = vsGo ids al last ok fin (len - k) k)
  (fun i _ => len - (intOf i).toNat)
 case atStart => exact ⟨0,Nat.zero_le _,rfl,World.ownsMap_made _ _ _ _,(Lo.refl _ _).alloc (Nat.le_refl _) _,by simp,rfl⟩
 case round =>
  obtain ⟨k,hk,rfl,hown,hnx,hws,hgo⟩ := hrel
  rcases Nat.lt_or_ge k len with hkl | hkl
  ·have HG : Hid (vsGo ids al last ok fin len 0 = if ok k then (if vsSeen ids k k then false else if decide (0 < al k) && decide ((k : Int) ≤ last k) then false else vsGo ids al last ok fin (len - (k + 1)) (k + 1)) else false) := by
    rw [hgo,show len - k = (len - (k + 1)) + 1 from by omega]; rfl
   clear hgo
   have c0 := (hnx.cell (by exact hb)).trans (h0 k hkl)
   have c1 := (hnx.cell (by exact hb)).trans (h1 k hkl)
   have c2 := (hnx.cell (by exact hb)).trans (h2 k hkl)
   have c3 := (hnx.cell (by exact hb)).trans (h3 k hkl)
   have V := hV k hkl
   have hkey : keyOf Tryz.prog 9 (.string ⟨(ids k).toArray⟩) = some (.string (ids k)) := WideMaps.keyOf_string_mk Tryz.underlying9 (show (ids k).length ≤ Go.maxLen from h5 k hkl)
   rcases Nat.eq_zero_or_pos (al k) with ha | ha
   ·have A : Hid (al k = 0) := ha
    rw [ha] at c3 V
    clear ha
    go_wp2_with (first
     | (go_at_call 96; refine (V _ (hnx.alloc hnx.size _)).mono ?_; rintro e w1 ⟨rfl,hw1⟩
        have g0 : w1.cell? ⟨wr.heap.size,0,none⟩ = some (.string ⟨(ids k).toArray⟩) := (hw1.cell (by rw [size_alloc]; exact Nat.lt_succ_self _)).trans (cell_new4 _ _ _ _ _ rfl)
        have g3 : w1.cell? ⟨wr.heap.size,3,none⟩ = some (.slice (aa k) 0 (ac k)) := (hw1.cell (by rw [size_alloc]; exact Nat.lt_succ_self _)).trans (cell_new4 _ _ _ _ _ rfl))
     | (at_lookup; refine wpList_lookup_own_bool _ rfl _ _ 129 rfl 9 4 vs_key Tryz.underlying129 Tryz.underlying4 (vs_zero _) w.heap.size k _ rfl (ownsMap_below (hown.alloc _) hw1) _ _ rfl hkey _ (vsD_at ids k k) ?_)
     | (at_mapUpdate; refine wpList_mapUpdate_own _ rfl _ _ _ 129 rfl 9 4 vs_key Tryz.underlying129 (Go.plainElem (H := Unit) Tryz.prog 4) w.heap.size k _ rfl (ownsMap_below (hown.alloc _) hw1) (by unfold maxLen; omega) _ _ _ rfl rfl hkey _ [] (plainElem_bool Tryz.underlying4 true) ?_; intro w2 hown2 hgrow2)
     | go_in)
    ·go_ret
     exact ⟨by rw [HG.out]; simp [*],(hnx.alloc hnx.size _).trans (hw1.mono (by simp; omega))⟩
    ·have A := A.out
     go_roundw
     case rel => exact ⟨k + 1,by omega,by go_num,hown2,((hnx.alloc hnx.size _).trans (hw1.mono (by simp; omega))).grown hgrow2 (by have := hw1.size; rw [size_alloc] at this; omega) (fun j hj => by cases hj; exact Nat.le_refl _),by have h1 := hw1.size; have h2 := hgrow2.size; simp at h1; omega,by rw [HG.out]; simp [*]⟩
     case measure => simp [intOf]; omega
    ·go_ret
     exact ⟨by rw [HG.out]; simp [*],(hnx.alloc hnx.size _).trans (hw1.mono (by simp; omega))⟩
   ·obtain ⟨c,o,e,hc,hcap,hcl⟩ := h4 k hkl ha
    have A : Hid (0 < al k) := ha
    obtain ⟨m,hm⟩ : ∃ m,al k = m + 1 := ⟨al k - 1,by omega⟩
    have M : Hid (al k = m + 1) := hm
    rw [hm] at hcap hcl
    rw [hm,e] at c3 V
    rw [Nat.add_sub_cancel] at hcl
    have hw64 : wrap64 (m : Int) = m := by unfold wrap64; omega
    have hcl' := (hnx.cell (by exact hc)).trans hcl
    clear ha hm hcl
    go_wp2_with (first
     | (go_at_call 96; refine (V _ (hnx.alloc hnx.size _)).mono ?_; rintro e w1 ⟨rfl,hw1⟩
        have g0 : w1.cell? ⟨wr.heap.size,0,none⟩ = some (.string ⟨(ids k).toArray⟩) := (hw1.cell (by rw [size_alloc]; exact Nat.lt_succ_self _)).trans (cell_new4 _ _ _ _ _ rfl)
        have g3 : w1.cell? ⟨wr.heap.size,3,none⟩ = some (.slice (some ⟨c,o,none⟩) (m + 1) (ac k)) := (hw1.cell (by rw [size_alloc]; exact Nat.lt_succ_self _)).trans (cell_new4 _ _ _ _ _ rfl)
        have gl : w1.cell? ⟨c,o + m,none⟩ = some (.int .i64 (last k)) := (hw1.cell (by have := hnx.size; rw [size_alloc]; show c < _; omega)).trans ((cell_old _ _ _ _ (by have := hnx.size; omega)).trans hcl'))
     | (at_lookup; refine wpList_lookup_own_bool _ rfl _ _ 129 rfl 9 4 vs_key Tryz.underlying129 Tryz.underlying4 (vs_zero _) w.heap.size k _ rfl (ownsMap_below (hown.alloc _) hw1) _ _ rfl hkey _ (vsD_at ids k k) ?_)
     | (at_mapUpdate; refine wpList_mapUpdate_own _ rfl _ _ _ 129 rfl 9 4 vs_key Tryz.underlying129 (Go.plainElem (H := Unit) Tryz.prog 4) w.heap.size k _ rfl (ownsMap_below (hown.alloc _) hw1) (by unfold maxLen; omega) _ _ _ rfl rfl hkey _ [] (plainElem_bool Tryz.underlying4 true) ?_; intro w2 hown2 hgrow2)
     | go_in)
    ·go_ret
     exact ⟨by rw [HG.out]; simp [*],(hnx.alloc hnx.size _).trans (hw1.mono (by simp; omega))⟩
    ·have A := A.out
     go_ret
     exact ⟨by rw [HG.out]; simp [*],(hnx.alloc hnx.size _).trans (hw1.mono (by simp; omega))⟩
    ·have A := A.out
     go_roundw
     case rel => exact ⟨k + 1,by omega,by go_num,hown2,((hnx.alloc hnx.size _).trans (hw1.mono (by simp; omega))).grown hgrow2 (by have := hw1.size; rw [size_alloc] at this; omega) (fun j hj => by cases hj; exact Nat.le_refl _),by have h1 := hw1.size; have h2 := hgrow2.size; simp at h1; omega,by rw [HG.out]; simp [*]⟩
     case measure => simp [intOf]; omega
    ·go_ret
     exact ⟨by rw [HG.out]; simp [*],(hnx.alloc hnx.size _).trans (hw1.mono (by simp; omega))⟩
  ·have : k = len := by omega
   subst this
   go_wp2_with (go_at_call 95; refine (hF _ hnx).mono ?_; rintro e w1 ⟨rfl,hw1⟩)
   go_ret
   exact ⟨by rw [hgo,Nat.sub_self]; rfl,hnx.trans (hw1.mono hnx.size)⟩
theorem vs_walk : VsWalk Tryz.prog 63 96 95 := ⟨⟨_,Tryz.func63,by decide +kernel,rfl⟩,vs_none,vs_run⟩
theorem ok_impl_ValidSteps : FOk Tryz.prog phi 83 impl_ValidSteps_c := validSteps_ok (gv := 461) (gf := 21) vs_walk (fun x b h => callOk_one ok_impl_Step_valid h) (fun m n b h => callOk_two ok_impl_few h) (by kernel_rfl)
theorem ok_impl_areStarts : FOk Tryz.prog phi 541 impl_areStarts_c := fn_ok hm (D := impl_areStarts_D) (DOk.cons ok_impl_within DOk.nil) (by kernel_rfl) _ _ _ _
theorem ok_impl_isClamps : FOk Tryz.prog phi 534 impl_isClamps_c := fn_ok hm (D := impl_isClamps_D) (DOk.cons ok_impl_within DOk.nil) (by kernel_rfl) _ _ _ _
theorem ok_impl_isRentDay : FOk Tryz.prog phi 623 impl_isRentDay_c := fn_ok hm (D := impl_isRentDay_D) (DOk.cons ok_impl_within DOk.nil) (by kernel_rfl) _ _ _ _
theorem ok_impl_isMonths : FOk Tryz.prog phi 1032 impl_isMonths_c := fn_ok hm (D := impl_isMonths_D) (DOk.cons ok_impl_within DOk.nil) (by kernel_rfl) _ _ _ _
theorem ok_impl_isMoney : FOk Tryz.prog phi 1033 impl_isMoney_c := fn_ok hm (D := impl_isMoney_D) (DOk.cons ok_impl_within DOk.nil) (by kernel_rfl) _ _ _ _
theorem ok_impl_Rental_valid : FOk Tryz.prog phi 900 impl_Rental_valid_c := fn_ok hm (D := impl_Rental_valid_D) (DOk.cons ok_impl_IsName (DOk.cons ok_impl_isRentDay (DOk.cons ok_impl_isMonths (DOk.cons ok_impl_isMoney DOk.nil)))) (by kernel_rfl) _ _ _ _
theorem ok_impl_ValidRentals : FOk Tryz.prog phi 611 impl_ValidRentals_c := fn_ok hm (D := impl_ValidRentals_D) (DOk.cons ok_impl_few (DOk.cons ok_impl_Rental_valid DOk.nil)) (by kernel_rfl) _ _ _ _
theorem ok_impl_Entry_valid : FOk Tryz.prog phi 621 impl_Entry_valid_c := fn_ok hm (D := impl_Entry_valid_D) (DOk.cons ok_impl_within (DOk.cons ok_impl_IsName (DOk.cons ok_impl_isRentDay DOk.nil))) (by kernel_rfl) _ _ _ _
theorem ok_impl_ValidBook : FOk Tryz.prog phi 213 impl_ValidBook_c := fn_ok hm (D := impl_ValidBook_D) (DOk.cons ok_impl_few (DOk.cons ok_impl_Entry_valid DOk.nil)) (by kernel_rfl) _ _ _ _
theorem ok_impl_ValidShop : FOk Tryz.prog phi 201 impl_ValidShop_c := fn_ok hm (D := impl_ValidShop_D) (DOk.cons ok_impl_ValidSteps (DOk.cons ok_impl_ValidBook (DOk.cons ok_impl_isClamps (DOk.cons ok_impl_areStarts (DOk.cons ok_impl_ValidOutline (DOk.cons ok_impl_validCords (DOk.cons ok_impl_isShare (DOk.cons ok_impl_ValidRentals DOk.nil)))))))) (by kernel_rfl) _ _ _ _
theorem ok_impl_smooth : FOk Tryz.prog phi 939 impl_smooth_c := fn_ok hm (D := impl_smooth_D) DOk.nil (by kernel_rfl) _ _ _ _
theorem ok_impl_CornersOf : FOk Tryz.prog phi 710 impl_CornersOf_c := fn_ok hm (D := impl_CornersOf_D) (DOk.cons ok_impl_ValidOutline (DOk.cons ok_impl_next (DOk.cons ok_impl_smooth DOk.nil))) (by kernel_rfl) _ _ _ _
theorem ok_strconv_FormatInt : FOk Tryz.prog phi 864 strconv_FormatInt_c := formatInt_ok Tryz.laysM173 ⟨0,by kernel_rfl⟩ (by kernel_rfl)
theorem ok_impl_Decimal : FOk Tryz.prog phi 524 impl_Decimal_c := fn_ok hm (D := impl_Decimal_D) (DOk.cons ok_strconv_FormatInt DOk.nil) (by kernel_rfl) _ _ _ _
theorem ok_impl_divRound : FOk Tryz.prog phi 27 impl_divRound_c := fn_ok hm (D := impl_divRound_D) DOk.nil (by kernel_rfl) _ _ _ _
theorem ok_impl_Cord_tension : FOk Tryz.prog phi 708 impl_Cord_tension_c := fn_ok hm (D := impl_Cord_tension_D) (DOk.cons ok_impl_divRound DOk.nil) (by kernel_rfl) _ _ _ _
theorem ok_impl_Cord_holds : FOk Tryz.prog phi 940 impl_Cord_holds_c := fn_ok hm (D := impl_Cord_holds_D) (DOk.cons ok_impl_Cord_tension DOk.nil) (by kernel_rfl) _ _ _ _
theorem ok_impl_BreakingStrings : FOk Tryz.prog phi 709 impl_BreakingStrings_c := fn_ok hm (D := impl_BreakingStrings_D) (DOk.cons ok_impl_validCords (DOk.cons ok_impl_isShare (DOk.cons ok_impl_Cord_holds DOk.nil))) (by kernel_rfl) _ _ _ _
theorem ok_impl_BodyProblems : FOk Tryz.prog phi 283 impl_BodyProblems_c := fn_ok hm (D := impl_BodyProblems_D) (DOk.cons ok_impl_ValidShop (DOk.cons ok_impl_Decimal (DOk.cons ok_impl_Cord_tension (DOk.cons ok_impl_BreakingStrings (DOk.cons ok_impl_CornersOf DOk.nil))))) (by kernel_rfl) _ _ _ _
theorem ok_impl_used : FOk Tryz.prog phi 540 impl_used_c := fn_ok hm (D := impl_used_D) (DOk.cons ok_impl_within DOk.nil) (by kernel_rfl) _ _ _ _
theorem ok_impl_ready : FOk Tryz.prog phi 539 impl_ready_c := fn_ok hm (D := impl_ready_D) DOk.nil (by kernel_rfl) _ _ _ _
theorem ok_impl_WorkProblems : FOk Tryz.prog phi 285 impl_WorkProblems_c := fn_ok hm (D := impl_WorkProblems_D) (DOk.cons ok_impl_ValidShop (DOk.cons ok_impl_Decimal (DOk.cons ok_impl_ready (DOk.cons ok_impl_used DOk.nil)))) (by kernel_rfl) _ _ _ _
theorem ok_impl_Rental_end : FOk Tryz.prog phi 1045 impl_Rental_end_c := fn_ok hm (D := impl_Rental_end_D) DOk.nil (by kernel_rfl) _ _ _ _
theorem ok_impl_Rental_clashes : FOk Tryz.prog phi 941 impl_Rental_clashes_c := fn_ok hm (D := impl_Rental_clashes_D) (DOk.cons ok_impl_Rental_end DOk.nil) (by kernel_rfl) _ _ _ _
theorem ok_impl_ClashesOf : FOk Tryz.prog phi 711 impl_ClashesOf_c := fn_ok hm (D := impl_ClashesOf_D) (DOk.cons ok_impl_ValidRentals (DOk.cons ok_impl_Rental_clashes DOk.nil)) (by kernel_rfl) _ _ _ _
theorem ok_impl_Entry_change : FOk Tryz.prog phi 622 impl_Entry_change_c := fn_ok hm (D := impl_Entry_change_D) DOk.nil (by kernel_rfl) _ _ _ _
theorem ok_impl_FirstBelow : FOk Tryz.prog phi 210 impl_FirstBelow_c := fn_ok hm (D := impl_FirstBelow_D) (DOk.cons ok_impl_IsName (DOk.cons ok_impl_ValidBook (DOk.cons ok_impl_Entry_change DOk.nil))) (by kernel_rfl) _ _ _ _
theorem ok_impl_TradeProblems : FOk Tryz.prog phi 282 impl_TradeProblems_c := fn_ok hm (D := impl_TradeProblems_D) (DOk.cons ok_impl_ValidShop (DOk.cons ok_impl_FirstBelow (DOk.cons ok_impl_Decimal (DOk.cons ok_impl_Entry_change (DOk.cons ok_impl_ClashesOf DOk.nil))))) (by kernel_rfl) _ _ _ _
theorem ok_impl_AuditShop : FOk Tryz.prog phi 286 impl_AuditShop_c := fn_ok hm (D := impl_AuditShop_D) (DOk.cons ok_impl_TradeProblems (DOk.cons ok_impl_BodyProblems (DOk.cons ok_impl_WorkProblems DOk.nil))) (by kernel_rfl) _ _ _ _
theorem ok_impl_PassesAudit : FOk Tryz.prog phi 284 impl_PassesAudit_c := fn_ok hm (D := impl_PassesAudit_D) (DOk.cons ok_impl_AuditShop DOk.nil) (by kernel_rfl) _ _ _ _
theorem ok_impl_CountProblems : FOk Tryz.prog phi 44 impl_CountProblems_c := fn_ok hm (D := impl_CountProblems_D) (DOk.cons ok_impl_within DOk.nil) (by kernel_rfl) _ _ _ _
theorem ok_impl_at : FOk Tryz.prog phi 4 impl_at_c := fn_ok hm (D := impl_at_D) DOk.nil (by kernel_rfl) _ _ _ _
theorem ok_impl_pick : FOk Tryz.prog phi 5 impl_pick_c := fn_ok hm (D := impl_pick_D) (DOk.cons ok_impl_at DOk.nil) (by kernel_rfl) _ _ _ _
theorem ok_impl_ProblemName : FOk Tryz.prog phi 6 impl_ProblemName_c := fn_ok hm (D := impl_ProblemName_D) (DOk.cons ok_impl_pick DOk.nil) (by kernel_rfl) _ _ _ _
theorem ok_impl_ProblemText : FOk Tryz.prog phi 8 impl_ProblemText_c := fn_ok hm (D := impl_ProblemText_D) (DOk.cons ok_impl_ProblemName DOk.nil) (by kernel_rfl) _ _ _ _
theorem ok_laws_FnAudit : FOk Tryz.prog phi 1259 laws_FnAudit_c := fn_ok hm (D := laws_FnAudit_D) (DOk.cons ok_impl_ProblemName (DOk.cons ok_impl_ProblemText (DOk.cons ok_impl_CountProblems (DOk.cons ok_spec_ValidShop (DOk.cons ok_impl_TradeProblems (DOk.cons ok_impl_BodyProblems (DOk.cons ok_impl_PassesAudit (DOk.cons ok_impl_WorkProblems (DOk.cons ok_impl_AuditShop (DOk.cons ok_spec_R8Shop DOk.nil)))))))))) (by kernel_rfl) _ _ _ _
theorem law : ∀ x,wfU laws_FnAudit_c.ps x → ∃ y,laws_FnAudit_c.f x = some y ∧ resA laws_FnAudit_c y = ([A.bool true],[]) := fun x hx => ⟨true,(laws_FnAudit_true x.1 hx.1),rfl⟩
theorem own : ownKnob Tryz.prog.godebug = none := by kernel_rfl
theorem laid : laidOutB Tryz.prog = true := by kernel_rfl
theorem reads : ∀ t ∈ Tryz.f3.params.toList,Tryz.prog.readableRec t = true ∧ t < Tryz.prog.types.size := by
 have h : (Tryz.f3.params.toList.all fun t => Tryz.prog.readableRec t && decide (t < Tryz.prog.types.size)) = true := by kernel_rfl
 intro t ht
 have := List.all_eq_true.1 h t ht
 simpa only [Bool.and_eq_true,decide_eq_true_eq] using this
theorem spec_eq (H : Type) : ∀ (ds : List (DataW H)),ds.length = Tryz.f3.params.toList.length → Rows.fnAuditSpec.fn H ds = { results := [.lit (.bool true)],args := ds } := by
 intro ds hd
 have hd : ds.length = 1 := hd
 match ds,hd with
 | [d0],_ => rfl
theorem tab (W : World) (hL : laidMetH Tryz.prog Rows.fnAuditRow.laid W) : ∀ i,Tryz.prog.globalNamed pow10Name = some i → Lib.TabIs Tryz.prog W pow10Name .u64 Lib.pow10Tab := by
 intro i hi
 have hp : (Rows.fnAuditRow.laid.all fun x => x.2.handleName?.isNone) = true := by kernel_rfl
 rw [MakeChecks.laidMetH_plain _ _ _ hp] at hL
 have h1 : laidMet Tryz.prog (("internal/strconv.uint64pow10",Rows.laid_internal_strconv_uint64pow10) :: []) W := (laidMet.tail (laidMet.tail hL))
 have e : (Rows.laid_internal_strconv_uint64pow10 : DataW Unit) = Lib.tabData .u64 Lib.pow10Tab := by kernel_rfl
 rw [e] at h1
 exact Lib.tabIs_of_head (t := 144) (e := 91) (n := 20) hi (by obtain rfl := Option.some.inj ((show Tryz.prog.globalNamed pow10Name = some 0 by kernel_rfl).symm.trans hi); kernel_rfl) (by kernel_rfl) (by kernel_rfl) (by kernel_rfl) (by kernel_rfl) h1
theorem errs (W : World) (hL : laidMetH Tryz.prog Rows.fnAuditRow.laid W) : ∀ n,errNames.contains n = true → ∀ i,Tryz.prog.globalNamed n = some i → ∃ u v,W.var? Tryz.prog n = some #[.iface u v] := by
 intro n hn i hi
 have hn : n = "strconv.ErrSyntax" ∨ n = "strconv.ErrRange" := by simpa [errNames] using hn
 rcases hn with rfl | rfl
 ·have h : Tryz.prog.globalNamed "strconv.ErrSyntax" = none := by kernel_rfl
  rw [h] at hi; cases hi
 ·have h : Tryz.prog.globalNamed "strconv.ErrRange" = none := by kernel_rfl
  rw [h] at hi; cases hi
theorem contract (H : Type) (enc : TypeId × Value → H) (W : World) (base : Nat) (args : Array Value) (ds gs : List (DataW H)) (before : List MemPlace)
 (hval : ∀ (j : Nat) t v,Tryz.f3.params[j]? = some t → args[j]? = some v → Value.okWide Tryz.prog W .any base t v)
 (hW : DataW.Whole enc Tryz.prog Tryz.f3.params.toList Rows.fnAuditSpec.vars false W args.toList ds gs before) (hL : laidMetH Tryz.prog Rows.fnAuditRow.laid W) (hsh : W.ShapedOpen Tryz.prog) :
 Calls Tryz.prog 3 args W fun e W' => ∃ v,e = .returned v ∧ Rows.fnAuditSpec.post enc Tryz.prog Tryz.f3 false true false false W args v W' :=
 row_contract (φ := phi) (g := 1259) (n := 20) ok_laws_FnAudit rfl rfl (tb := 4) Tryz.underlying4 (by kernel_rfl) rfl law laid reads spec_eq W base args ds gs before hval hW (Glob.start hsh (tab W hL) (errs W hL))
theorem lifted (os : Os) (started : os.Started) (H : Type) (enc : TypeId × Value → H) :
 ReturnsInHanded {} Tryz.checked os 3 .any (fun w args => (Rows.fnAuditSpec.pre enc Tryz.prog Tryz.f3 Rows.fnAuditRow.domain false w args ∧ laidMetH Tryz.prog Rows.fnAuditRow.laid w) ∧ sizedMet enc Tryz.prog Tryz.f3 (OpenSpec.ofChange Rows.fnAuditSpec) false w args) (Rows.fnAuditSpec.post enc Tryz.prog Tryz.f3 false true false false) := by
 refine returnsInHanded_laid (C := Tryz.checked) (laid := Rows.fnAuditRow.laid) own started (by kernel_rfl) Tryz.func3
  (ChangeSpec.witness_shaped (enc := enc) (C := Tryz.checked) (os := os) (X := fun w _ => laidMetH Tryz.prog Rows.fnAuditRow.laid w) false (World.laidAll Tryz.prog os Rows.fnAuditRow.laid) #[.slice none 0 0] 12 (World.laidAll_os _ _ _)
    (World.shaped_of_ZipB (by kernel_rfl) (by kernel_rfl)) (by kernel_rfl) (by kernel_rfl) (by kernel_rfl)
    (by rw [MakeChecks.laidMetH_plain _ _ _ (by kernel_rfl)]; exact laidMet_laidAll _ (by kernel_rfl) (by kernel_rfl))) ?_
 intro W base args ds gs before hval hW hL hsh
 exact contract H enc W base args ds gs before hval hW hL hsh
theorem over : Rows.fnAuditRow.holds Tryz.pinned (OpenSpec.ofChange Rows.fnAuditSpec) :=
 OpenClaim.holds_of_wide 3 Tryz.f3 rfl rfl rfl rfl rfl rfl rfl ⟨rfl,rfl,rfl,rfl,rfl⟩ rfl rfl rfl rfl rfl (by kernel_rfl) Tryz.func3 (by kernel_rfl)
  (of_decide_eq_true (by kernel_rfl)) (by unfold Func.isWrapper; first | (rw [if_pos (by decide +kernel)]; kernel_rfl) | (rw [if_neg (by decide +kernel)]; exact ⟨rfl,rfl⟩))
  (fun os started H enc _ => lifted os started H enc)
theorem card : Rows.FnAuditCardSaid :=
 Claim7.holds_tied_plain_at .later [] [.data,.data,.data] true (true,"ca8f410eba1c2d94e3067a88b4bbe58e9906c051aadf8aa4cdba24a8645b3695") false over (fun _ h => by cases h) (by kernel_rfl) (fun _ h => by cases h) fnAudit_row_tie rfl ⟨rfl,rfl⟩ (by kernel_rfl) rfl
  (fun f fn hf hfn => by
    obtain rfl : f = 3 := Option.some.inj ((show Tryz.prog.funcNamed "loop.example/g01061/laws.FnAudit" = some 3 by kernel_rfl).symm.trans hf) |>.symm
    obtain rfl : fn = Tryz.f3 := (Option.some.inj (Tryz.func3.symm.trans hfn)).symm
    exact ⟨by kernel_rfl,fun j t ht => by
     have hm : t ∈ Tryz.f3.params.toList := by simpa using Array.mem_of_getElem? ht
     have hall : (Tryz.f3.params.toList.all fun u => !Tryz.prog.wantsStandIn u) = true := by kernel_rfl
     exact (show Tryz.prog.wantsStandIn t = false by simpa using List.all_eq_true.1 hall t hm)⟩)
  (by kernel_rfl)
theorem proved : Rows.FnAuditCardSaid := card
end Go.Proofs.YtcadiimcjfakjaaGreatDoor.fnAudit
