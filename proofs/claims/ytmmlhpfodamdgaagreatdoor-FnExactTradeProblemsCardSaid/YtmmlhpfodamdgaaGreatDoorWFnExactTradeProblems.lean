/- The law FnExactTradeProblems answers true for every input, whatever it is, and leaves its arguments as they were. Conditions: none. -/
import Derived.Test.YtmmlhpfodamdgaaGreatDoorQFnExactTradeProblems
import Derived.Test.YtmmlhpfodamdgaaGreatDoorRows
import Derived.Test.YtmmlhpfodamdgaaGreatDoorL5
import Derived.Test.YtmmlhpfodamdgaaGreatDoorL6
import Derived.Carry
import Derived.Test.YtmmlhpfodamdgaaGreatDoorL7
import Derived.Deep.RegionHeld3
import Derived.Test.YtmmlhpfodamdgaaGreatDoorShelf
import Derived.Test.YtmmlhpfodamdgaaGreatDoorCards
import Derived.Test.YtmmlhpfodamdgaaGreatDoorTie
import Derived.LaidMore
import Derived.Lay
import Derived.SevenTiedAt
import Derived.Stop.Joined
import Derived.WalkKit
import Derived.ProofKit
import Derived.OpenShut
import Derived.JoinedOf
import Derived.Handed
set_option linter.unusedVariables false
set_option maxRecDepth 100000
namespace Go.Proofs.YtmmlhpfodamdgaaGreatDoor.fnExactTradeProblems
open Go.Ab Go.Ab.P
open Go.ChangeShapes Go.WideShapes Go.ChangeAt Go.RowKit
def phiL : List (Nat × Nat) := [(601,22),(600,23),(598,25),(885,63),(599,24),(886,64),(597,26),(887,65),(596,27),(203,7),(1,71),(946,128),(945,129),(716,107),(889,66),(719,108),(890,67),(891,68),(11,143),(12,144),(13,130),(804,110),(846,109),(462,69),(537,70),(993,131),(994,132),(834,111),(722,72),(1028,112),(888,73),(602,28),(1046,142),(947,122),(721,96),(723,97),(726,75),(765,54),(349,16),(23,89),(1126,145),(1030,133),(1031,134),(897,114),(898,104),(608,81),(899,115),(21,116),(609,82),(610,83),(22,124),(24,99),(461,117),(83,84),(541,85),(534,86),(623,135),(1032,136),(1033,137),(900,118),(611,87),(621,119),(213,88),(201,36),(1045,123),(941,98),(711,55),(622,57),(210,56),(864,90),(524,39),(282,17),(39,40),(47,11),(1034,121),(901,91),(616,41),(902,92),(615,42),(42,44),(903,93),(614,43),(904,94),(613,45),(905,95),(612,46),(200,12),(1029,113),(892,76),(607,30),(893,77),(606,31),(121,33),(895,79),(604,34),(896,80),(603,35),(755,47),(754,48),(45,50),(40,53),(752,51),(751,52),(46,14),(336,15),(1246,4)]
def phi (n : Nat) : Nat := (phiL.lookup n).getD 1000000
theorem hm : Tryz.prog.follows .mixedOrders = true := by kernel_rfl
theorem ok_laws_szArcS : FOk Tryz.prog phi 601 laws_szArcS_c := fn_ok hm (D := laws_szArcS_D) DOk.nil (by kernel_rfl) _ _ _ _
theorem ok_laws_szCordS : FOk Tryz.prog phi 600 laws_szCordS_c := fn_ok hm (D := laws_szCordS_D) DOk.nil (by kernel_rfl) _ _ _ _
theorem ok_laws_szInt64S : FOk Tryz.prog phi 598 laws_szInt64S_c := fn_ok hm (D := laws_szInt64S_D) DOk.nil (by kernel_rfl) _ _ _ _
theorem ok_laws_szStep : FOk Tryz.prog phi 885 laws_szStep_c := fn_ok hm (D := laws_szStep_D) (DOk.cons ok_laws_szInt64S DOk.nil) (by kernel_rfl) _ _ _ _
theorem ok_laws_szStepS : FOk Tryz.prog phi 599 laws_szStepS_c := fn_ok hm (D := laws_szStepS_D) (DOk.cons ok_laws_szStep DOk.nil) (by kernel_rfl) _ _ _ _
theorem ok_laws_szRental : FOk Tryz.prog phi 886 laws_szRental_c := fn_ok hm (D := laws_szRental_D) DOk.nil (by kernel_rfl) _ _ _ _
theorem ok_laws_szRentalS : FOk Tryz.prog phi 597 laws_szRentalS_c := fn_ok hm (D := laws_szRentalS_D) (DOk.cons ok_laws_szRental DOk.nil) (by kernel_rfl) _ _ _ _
theorem ok_laws_szEntry : FOk Tryz.prog phi 887 laws_szEntry_c := fn_ok hm (D := laws_szEntry_D) DOk.nil (by kernel_rfl) _ _ _ _
theorem ok_laws_szEntryS : FOk Tryz.prog phi 596 laws_szEntryS_c := fn_ok hm (D := laws_szEntryS_D) (DOk.cons ok_laws_szEntry DOk.nil) (by kernel_rfl) _ _ _ _
theorem ok_laws_szShop : FOk Tryz.prog phi 203 laws_szShop_c := fn_ok hm (D := laws_szShop_D) (DOk.cons ok_laws_szEntryS (DOk.cons ok_laws_szRentalS (DOk.cons ok_laws_szInt64S (DOk.cons ok_laws_szStepS (DOk.cons ok_laws_szCordS (DOk.cons ok_laws_szArcS DOk.nil)))))) (by kernel_rfl) _ _ _ _
theorem ok_spec_l00In : FOk Tryz.prog phi 1 spec_l00In_c := fn_ok hm (D := spec_l00In_D) DOk.nil (by kernel_rfl) _ _ _ _
theorem ok_spec_l05Point : FOk Tryz.prog phi 946 spec_l05Point_c := fn_ok hm (D := spec_l05Point_D) (DOk.cons ok_spec_l00In DOk.nil) (by kernel_rfl) _ _ _ _
theorem ok_spec_l05Square : FOk Tryz.prog phi 945 spec_l05Square_c := fn_ok hm (D := spec_l05Square_D) DOk.nil (by kernel_rfl) _ _ _ _
theorem ok_spec_l05One : FOk Tryz.prog phi 716 spec_l05One_c := fn_ok hm (D := spec_l05One_D) (DOk.cons ok_spec_l05Square (DOk.cons ok_spec_l05Point DOk.nil)) (by kernel_rfl) _ _ _ _
theorem ok_spec_l05Ok : FOk Tryz.prog phi 889 spec_l05Ok_c := fn_ok hm (D := spec_l05Ok_D) (DOk.cons ok_spec_l05One DOk.nil) (by kernel_rfl) _ _ _ _
theorem ok_spec_l09One : FOk Tryz.prog phi 719 spec_l09One_c := fn_ok hm (D := spec_l09One_D) (DOk.cons ok_spec_l00In DOk.nil) (by kernel_rfl) _ _ _ _
theorem ok_spec_l09List : FOk Tryz.prog phi 890 spec_l09List_c := fn_ok hm (D := spec_l09List_D) (DOk.cons ok_spec_l09One DOk.nil) (by kernel_rfl) _ _ _ _
theorem ok_spec_l09Share : FOk Tryz.prog phi 891 spec_l09Share_c := fn_ok hm (D := spec_l09Share_D) (DOk.cons ok_spec_l00In DOk.nil) (by kernel_rfl) _ _ _ _
theorem ok_spec_l01Small : FOk Tryz.prog phi 11 spec_l01Small_c := fn_ok hm (D := spec_l01Small_D) DOk.nil (by kernel_rfl) _ _ _ _
theorem ok_spec_l01Digit : FOk Tryz.prog phi 12 spec_l01Digit_c := fn_ok hm (D := spec_l01Digit_D) DOk.nil (by kernel_rfl) _ _ _ _
theorem ok_spec_l01Name : FOk Tryz.prog phi 13 spec_l01Name_c := fn_ok hm (D := spec_l01Name_D) (DOk.cons ok_spec_l01Small (DOk.cons ok_spec_l01Digit DOk.nil)) (by kernel_rfl) _ _ _ _
theorem ok_spec_l00Rises : FOk Tryz.prog phi 804 spec_l00Rises_c := fn_ok hm (D := spec_l00Rises_D) (DOk.cons ok_spec_l00In DOk.nil) (by kernel_rfl) _ _ _ _
theorem ok_spec_l17One : FOk Tryz.prog phi 846 spec_l17One_c := fn_ok hm (D := spec_l17One_D) (DOk.cons ok_spec_l00In (DOk.cons ok_spec_l01Name (DOk.cons ok_spec_l00Rises DOk.nil))) (by kernel_rfl) _ _ _ _
theorem ok_spec_l17Ok : FOk Tryz.prog phi 462 spec_l17Ok_c := fn_ok hm (D := spec_l17Ok_D) (DOk.cons ok_spec_l00Rises (DOk.cons ok_spec_l17One DOk.nil)) (by kernel_rfl) _ _ _ _
theorem ok_spec_l17Starts : FOk Tryz.prog phi 537 spec_l17Starts_c := fn_ok hm (D := spec_l17Starts_D) (DOk.cons ok_spec_l00In DOk.nil) (by kernel_rfl) _ _ _ _
theorem ok_spec_l21Day : FOk Tryz.prog phi 993 spec_l21Day_c := fn_ok hm (D := spec_l21Day_D) (DOk.cons ok_spec_l00In DOk.nil) (by kernel_rfl) _ _ _ _
theorem ok_spec_l21Money : FOk Tryz.prog phi 994 spec_l21Money_c := fn_ok hm (D := spec_l21Money_D) (DOk.cons ok_spec_l00In DOk.nil) (by kernel_rfl) _ _ _ _
theorem ok_spec_l21One : FOk Tryz.prog phi 834 spec_l21One_c := fn_ok hm (D := spec_l21One_D) (DOk.cons ok_spec_l00In (DOk.cons ok_spec_l01Name (DOk.cons ok_spec_l21Day (DOk.cons ok_spec_l21Money DOk.nil)))) (by kernel_rfl) _ _ _ _
theorem ok_spec_l21Ok : FOk Tryz.prog phi 722 spec_l21Ok_c := fn_ok hm (D := spec_l21Ok_D) (DOk.cons ok_spec_l21One DOk.nil) (by kernel_rfl) _ _ _ _
theorem ok_spec_l25One : FOk Tryz.prog phi 1028 spec_l25One_c := fn_ok hm (D := spec_l25One_D) (DOk.cons ok_spec_l00In (DOk.cons ok_spec_l01Name (DOk.cons ok_spec_l21Day DOk.nil))) (by kernel_rfl) _ _ _ _
theorem ok_spec_l25Ok : FOk Tryz.prog phi 888 spec_l25Ok_c := fn_ok hm (D := spec_l25Ok_D) (DOk.cons ok_spec_l25One DOk.nil) (by kernel_rfl) _ _ _ _
theorem ok_spec_l31Ok : FOk Tryz.prog phi 602 spec_l31Ok_c := fn_ok hm (D := spec_l31Ok_D) (DOk.cons ok_spec_l00In (DOk.cons ok_spec_l17Ok (DOk.cons ok_spec_l17Starts (DOk.cons ok_spec_l21Ok (DOk.cons ok_spec_l25Ok (DOk.cons ok_spec_l05Ok (DOk.cons ok_spec_l09List (DOk.cons ok_spec_l09Share DOk.nil)))))))) (by kernel_rfl) _ _ _ _
theorem ok_spec_l21End : FOk Tryz.prog phi 1046 spec_l21End_c := fn_ok hm (D := spec_l21End_D) DOk.nil (by kernel_rfl) _ _ _ _
theorem ok_spec_l21Clash : FOk Tryz.prog phi 947 spec_l21Clash_c := fn_ok hm (D := spec_l21Clash_D) (DOk.cons ok_spec_l21End DOk.nil) (by kernel_rfl) _ _ _ _
theorem ok_spec_l21Clashes : FOk Tryz.prog phi 721 spec_l21Clashes_c := fn_ok hm (D := spec_l21Clashes_D) (DOk.cons ok_spec_l21Clash DOk.nil) (by kernel_rfl) _ _ _ _
theorem ok_spec_l25Change : FOk Tryz.prog phi 723 spec_l25Change_c := fn_ok hm (D := spec_l25Change_D) DOk.nil (by kernel_rfl) _ _ _ _
theorem ok_spec_l01Dec : FOk Tryz.prog phi 726 spec_l01Dec_c := fn_ok hm (D := spec_l01Dec_D) DOk.nil (by kernel_rfl) _ _ _ _
theorem ok_spec_l31Trade : FOk Tryz.prog phi 765 spec_l31Trade_c := fn_ok hm (D := spec_l31Trade_D) (DOk.cons ok_spec_l21Clashes (DOk.cons ok_spec_l25Change (DOk.cons ok_spec_l01Dec DOk.nil))) (by kernel_rfl) _ _ _ _
theorem ok_spec_TradeProblems : FOk Tryz.prog phi 349 spec_TradeProblems_c := fn_ok hm (D := spec_TradeProblems_D) (DOk.cons ok_spec_l31Ok (DOk.cons ok_spec_l31Trade DOk.nil)) (by kernel_rfl) _ _ _ _
theorem ok_impl_within : FOk Tryz.prog phi 23 impl_within_c := fn_ok hm (D := impl_within_D) DOk.nil (by kernel_rfl) _ _ _ _
theorem ok_impl_isCoord : FOk Tryz.prog phi 1126 impl_isCoord_c := fn_ok hm (D := impl_isCoord_D) (DOk.cons ok_impl_within DOk.nil) (by kernel_rfl) _ _ _ _
theorem ok_impl_Point_valid : FOk Tryz.prog phi 1030 impl_Point_valid_c := fn_ok hm (D := impl_Point_valid_D) (DOk.cons ok_impl_isCoord DOk.nil) (by kernel_rfl) _ _ _ _
theorem ok_impl_squared : FOk Tryz.prog phi 1031 impl_squared_c := fn_ok hm (D := impl_squared_D) DOk.nil (by kernel_rfl) _ _ _ _
theorem ok_impl_ValidArc : FOk Tryz.prog phi 897 impl_ValidArc_c := fn_ok hm (D := impl_ValidArc_D) (DOk.cons ok_impl_Point_valid (DOk.cons ok_impl_squared DOk.nil)) (by kernel_rfl) _ _ _ _
theorem ok_impl_next : FOk Tryz.prog phi 898 impl_next_c := fn_ok hm (D := impl_next_D) DOk.nil (by kernel_rfl) _ _ _ _
theorem ok_impl_ValidOutline : FOk Tryz.prog phi 608 impl_ValidOutline_c := fn_ok hm (D := impl_ValidOutline_D) (DOk.cons ok_impl_within (DOk.cons ok_impl_ValidArc (DOk.cons ok_impl_next DOk.nil))) (by kernel_rfl) _ _ _ _
theorem ok_impl_ValidString : FOk Tryz.prog phi 899 impl_ValidString_c := fn_ok hm (D := impl_ValidString_D) (DOk.cons ok_impl_within DOk.nil) (by kernel_rfl) _ _ _ _
theorem ok_impl_few : FOk Tryz.prog phi 21 impl_few_c := fn_ok hm (D := impl_few_D) DOk.nil (by kernel_rfl) _ _ _ _
theorem ok_impl_validCords : FOk Tryz.prog phi 609 impl_validCords_c := fn_ok hm (D := impl_validCords_D) (DOk.cons ok_impl_few (DOk.cons ok_impl_ValidString DOk.nil)) (by kernel_rfl) _ _ _ _
theorem ok_impl_isShare : FOk Tryz.prog phi 610 impl_isShare_c := fn_ok hm (D := impl_isShare_D) (DOk.cons ok_impl_within DOk.nil) (by kernel_rfl) _ _ _ _
theorem ok_impl_isDigit : FOk Tryz.prog phi 22 impl_isDigit_c := fn_ok hm (D := impl_isDigit_D) DOk.nil (by kernel_rfl) _ _ _ _
theorem ok_impl_IsName : FOk Tryz.prog phi 24 impl_IsName_c := fn_ok hm (D := impl_IsName_D) (DOk.cons ok_impl_few (DOk.cons ok_impl_isDigit DOk.nil)) (by kernel_rfl) _ _ _ _
theorem ok_impl_Step_valid : FOk Tryz.prog phi 461 impl_Step_valid_c := fn_ok hm (D := impl_Step_valid_D) (DOk.cons ok_impl_within (DOk.cons ok_impl_IsName DOk.nil)) (by kernel_rfl) _ _ _ _
theorem vs_key : Maps.Keyed Tryz.prog 9 := Maps.string_keyed Tryz.underlying9
theorem vs_zero (w : World) : (zeroValue 4).run Tryz.prog w = .ok (.bool false) w := by kernel_rfl
theorem vs_none (a : Option Addr) (cap : Nat) (w : World) (fin : Bool)
 (hF : ∀ w',Lo w.heap.size w w' → Calls Tryz.prog 116 #[.int .i64 0,.int .i64 12] w' fun e w'' => e = .returned (.bool fin) ∧ Lo w'.heap.size w' w'') :
 Calls Tryz.prog 84 #[.slice a 0 cap] w fun e w' => e = .returned (.bool fin) ∧ Lo w.heap.size w w' := by
 have hmm := @run_makeMap Tryz.prog
 go_enter Tryz.func84,Tryz.ntmps84
 go_wp2
 refine wp_loop_rounds 1 ?_
 rw [rounds_succ]
 go_wp2_with (go_at_call 116; refine (hF _ ((Lo.refl _ _).alloc (Nat.le_refl _) _)).mono ?_; rintro e w1 ⟨rfl,hw1⟩)
 go_ret
 exact ⟨rfl,((Lo.refl _ _).alloc (Nat.le_refl _) _).trans (hw1.mono (by simp))⟩
set_option maxHeartbeats 1600000 in
theorem vs_run (b off len cap : Nat) (w : World) (ids : Nat → List UInt8) (hs cs : Nat → Int) (aa : Nat → Option Addr) (al ac : Nat → Nat) (ok : Nat → Bool) (last : Nat → Int) (fin : Bool)
 (hb : b < w.heap.size) (hl : len ≤ 9223372036854775807)
 (h0 : ∀ j,j < len → w.cell? ⟨b,off + j * 4,none⟩ = some (.string ⟨(ids j).toArray⟩))
 (h1 : ∀ j,j < len → w.cell? ⟨b,off + j * 4 + 1,none⟩ = some (.int .i64 (hs j)))
 (h2 : ∀ j,j < len → w.cell? ⟨b,off + j * 4 + 2,none⟩ = some (.int .i64 (cs j)))
 (h3 : ∀ j,j < len → w.cell? ⟨b,off + j * 4 + 3,none⟩ = some (.slice (aa j) (al j) (ac j)))
 (h4 : ∀ j,j < len → 0 < al j → ∃ c o,aa j = some ⟨c,o,none⟩ ∧ c < w.heap.size ∧ al j ≤ 9223372036854775807 ∧ w.cell? ⟨c,o + (al j - 1),none⟩ = some (.int .i64 (last j)))
 (h5 : ∀ j,j < len → (ids j).length ≤ 9223372036854775807)
 (hV : ∀ j,j < len → ∀ w',Lo w.heap.size w w' → Calls Tryz.prog 117 #[.agg #[.string ⟨(ids j).toArray⟩,.int .i64 (hs j),.int .i64 (cs j),.slice (aa j) (al j) (ac j)]] w' fun e w'' => e = .returned (.bool (ok j)) ∧ Lo w'.heap.size w' w'')
 (hF : ∀ w',Lo w.heap.size w w' → Calls Tryz.prog 116 #[.int .i64 len,.int .i64 12] w' fun e w'' => e = .returned (.bool fin) ∧ Lo w'.heap.size w' w'') :
 Calls Tryz.prog 84 #[.slice (some ⟨b,off,none⟩) len cap] w fun e w' => e = .returned (.bool (vsGo ids al last ok fin len 0)) ∧ Lo w.heap.size w w' := by
 have hmm := @run_makeMap Tryz.prog
 go_enter Tryz.func84,Tryz.ntmps84
 go_wp2
 go_loopw [9] (fun i wr => ∃ k : Nat,k ≤ len ∧ i = .int .i64 k ∧ wr.ownsMap Tryz.prog 9 (Go.plainElem (H := Unit) Tryz.prog 4) w.heap.size k (vsD ids k) ∧
  Lo w.heap.size w wr ∧ w.heap.size + 1 ≤ wr.heap.size ∧ vsGo ids al last ok fin len 0 = vsGo ids al last ok fin (len - k) k)
  (fun i _ => len - (intOf i).toNat)
 case atStart => exact ⟨0,Nat.zero_le _,rfl,World.ownsMap_made _ _ _ _,(Lo.refl _ _).alloc (Nat.le_refl _) _,by simp,rfl⟩
 case round =>
  obtain ⟨k,hk,rfl,hown,hnx,hws,hgo⟩ := hrel
  rcases Nat.lt_or_ge k len with hkl | hkl
  ·have HG : Hid (vsGo ids al last ok fin len 0 = if ok k then (if vsSeen ids k k then false else if decide (0 < al k) && decide ((k : Int) ≤ last k) then false else vsGo ids al last ok fin (len - (k + 1)) (k + 1)) else false) := by
    rw [hgo,show len - k = (len - (k + 1)) + 1 from by omega]; rfl
   clear hgo
   have c0 := (hnx.cell (by exact hb)).trans (h0 k hkl)
   have c1 := (hnx.cell (by exact hb)).trans (h1 k hkl)
   have c2 := (hnx.cell (by exact hb)).trans (h2 k hkl)
   have c3 := (hnx.cell (by exact hb)).trans (h3 k hkl)
   have V := hV k hkl
   have hkey : keyOf Tryz.prog 9 (.string ⟨(ids k).toArray⟩) = some (.string (ids k)) := WideMaps.keyOf_string_mk Tryz.underlying9 (show (ids k).length ≤ Go.maxLen from h5 k hkl)
   rcases Nat.eq_zero_or_pos (al k) with ha | ha
   ·have A : Hid (al k = 0) := ha
    rw [ha] at c3 V
    clear ha
    go_wp2_with (first
     | (go_at_call 117; refine (V _ (hnx.alloc hnx.size _)).mono ?_; rintro e w1 ⟨rfl,hw1⟩
        have g0 : w1.cell? ⟨wr.heap.size,0,none⟩ = some (.string ⟨(ids k).toArray⟩) := (hw1.cell (by rw [size_alloc]; exact Nat.lt_succ_self _)).trans (cell_new4 _ _ _ _ _ rfl)
        have g3 : w1.cell? ⟨wr.heap.size,3,none⟩ = some (.slice (aa k) 0 (ac k)) := (hw1.cell (by rw [size_alloc]; exact Nat.lt_succ_self _)).trans (cell_new4 _ _ _ _ _ rfl))
     | (at_lookup; refine wpList_lookup_own_bool _ rfl _ _ 158 rfl 9 4 vs_key Tryz.underlying158 Tryz.underlying4 (vs_zero _) w.heap.size k _ rfl (ownsMap_below (hown.alloc _) hw1) _ _ rfl hkey _ (vsD_at ids k k) ?_)
     | (at_mapUpdate; refine wpList_mapUpdate_own _ rfl _ _ _ 158 rfl 9 4 vs_key Tryz.underlying158 (Go.plainElem (H := Unit) Tryz.prog 4) w.heap.size k _ rfl (ownsMap_below (hown.alloc _) hw1) (by unfold maxLen; omega) _ _ _ rfl rfl hkey _ [] (plainElem_bool Tryz.underlying4 true) ?_; intro w2 hown2 hgrow2)
     | go_in)
    ·go_ret
     exact ⟨by rw [HG.out]; simp [*],(hnx.alloc hnx.size _).trans (hw1.mono (by simp; omega))⟩
    ·have A := A.out
     go_roundw
     case rel => exact ⟨k + 1,by omega,by go_num,hown2,((hnx.alloc hnx.size _).trans (hw1.mono (by simp; omega))).grown hgrow2 (by have := hw1.size; rw [size_alloc] at this; omega) (fun j hj => by cases hj; exact Nat.le_refl _),by have h1 := hw1.size; have h2 := hgrow2.size; simp at h1; omega,by rw [HG.out]; simp [*]⟩
     case measure => simp [intOf]; omega
    ·go_ret
     exact ⟨by rw [HG.out]; simp [*],(hnx.alloc hnx.size _).trans (hw1.mono (by simp; omega))⟩
   ·obtain ⟨c,o,e,hc,hcap,hcl⟩ := h4 k hkl ha
    have A : Hid (0 < al k) := ha
    obtain ⟨m,hm⟩ : ∃ m,al k = m + 1 := ⟨al k - 1,by omega⟩
    have M : Hid (al k = m + 1) := hm
    rw [hm] at hcap hcl
    rw [hm,e] at c3 V
    rw [Nat.add_sub_cancel] at hcl
    have hw64 : wrap64 (m : Int) = m := by unfold wrap64; omega
    have hcl' := (hnx.cell (by exact hc)).trans hcl
    clear ha hm hcl
    go_wp2_with (first
     | (go_at_call 117; refine (V _ (hnx.alloc hnx.size _)).mono ?_; rintro e w1 ⟨rfl,hw1⟩
        have g0 : w1.cell? ⟨wr.heap.size,0,none⟩ = some (.string ⟨(ids k).toArray⟩) := (hw1.cell (by rw [size_alloc]; exact Nat.lt_succ_self _)).trans (cell_new4 _ _ _ _ _ rfl)
        have g3 : w1.cell? ⟨wr.heap.size,3,none⟩ = some (.slice (some ⟨c,o,none⟩) (m + 1) (ac k)) := (hw1.cell (by rw [size_alloc]; exact Nat.lt_succ_self _)).trans (cell_new4 _ _ _ _ _ rfl)
        have gl : w1.cell? ⟨c,o + m,none⟩ = some (.int .i64 (last k)) := (hw1.cell (by have := hnx.size; rw [size_alloc]; show c < _; omega)).trans ((cell_old _ _ _ _ (by have := hnx.size; omega)).trans hcl'))
     | (at_lookup; refine wpList_lookup_own_bool _ rfl _ _ 158 rfl 9 4 vs_key Tryz.underlying158 Tryz.underlying4 (vs_zero _) w.heap.size k _ rfl (ownsMap_below (hown.alloc _) hw1) _ _ rfl hkey _ (vsD_at ids k k) ?_)
     | (at_mapUpdate; refine wpList_mapUpdate_own _ rfl _ _ _ 158 rfl 9 4 vs_key Tryz.underlying158 (Go.plainElem (H := Unit) Tryz.prog 4) w.heap.size k _ rfl (ownsMap_below (hown.alloc _) hw1) (by unfold maxLen; omega) _ _ _ rfl rfl hkey _ [] (plainElem_bool Tryz.underlying4 true) ?_; intro w2 hown2 hgrow2)
     | go_in)
    ·go_ret
     exact ⟨by rw [HG.out]; simp [*],(hnx.alloc hnx.size _).trans (hw1.mono (by simp; omega))⟩
    ·have A := A.out
     go_ret
     exact ⟨by rw [HG.out]; simp [*],(hnx.alloc hnx.size _).trans (hw1.mono (by simp; omega))⟩
    ·have A := A.out
     go_roundw
     case rel => exact ⟨k + 1,by omega,by go_num,hown2,((hnx.alloc hnx.size _).trans (hw1.mono (by simp; omega))).grown hgrow2 (by have := hw1.size; rw [size_alloc] at this; omega) (fun j hj => by cases hj; exact Nat.le_refl _),by have h1 := hw1.size; have h2 := hgrow2.size; simp at h1; omega,by rw [HG.out]; simp [*]⟩
     case measure => simp [intOf]; omega
    ·go_ret
     exact ⟨by rw [HG.out]; simp [*],(hnx.alloc hnx.size _).trans (hw1.mono (by simp; omega))⟩
  ·have : k = len := by omega
   subst this
   go_wp2_with (go_at_call 116; refine (hF _ hnx).mono ?_; rintro e w1 ⟨rfl,hw1⟩)
   go_ret
   exact ⟨by rw [hgo,Nat.sub_self]; rfl,hnx.trans (hw1.mono hnx.size)⟩
theorem vs_walk : VsWalk Tryz.prog 84 117 116 := ⟨⟨_,Tryz.func84,by decide +kernel,rfl⟩,vs_none,vs_run⟩
theorem ok_impl_ValidSteps : FOk Tryz.prog phi 83 impl_ValidSteps_c := validSteps_ok (gv := 461) (gf := 21) vs_walk (fun x b h => callOk_one ok_impl_Step_valid h) (fun m n b h => callOk_two ok_impl_few h) (by kernel_rfl)
theorem ok_impl_areStarts : FOk Tryz.prog phi 541 impl_areStarts_c := fn_ok hm (D := impl_areStarts_D) (DOk.cons ok_impl_within DOk.nil) (by kernel_rfl) _ _ _ _
theorem ok_impl_isClamps : FOk Tryz.prog phi 534 impl_isClamps_c := fn_ok hm (D := impl_isClamps_D) (DOk.cons ok_impl_within DOk.nil) (by kernel_rfl) _ _ _ _
theorem ok_impl_isRentDay : FOk Tryz.prog phi 623 impl_isRentDay_c := fn_ok hm (D := impl_isRentDay_D) (DOk.cons ok_impl_within DOk.nil) (by kernel_rfl) _ _ _ _
theorem ok_impl_isMonths : FOk Tryz.prog phi 1032 impl_isMonths_c := fn_ok hm (D := impl_isMonths_D) (DOk.cons ok_impl_within DOk.nil) (by kernel_rfl) _ _ _ _
theorem ok_impl_isMoney : FOk Tryz.prog phi 1033 impl_isMoney_c := fn_ok hm (D := impl_isMoney_D) (DOk.cons ok_impl_within DOk.nil) (by kernel_rfl) _ _ _ _
theorem ok_impl_Rental_valid : FOk Tryz.prog phi 900 impl_Rental_valid_c := fn_ok hm (D := impl_Rental_valid_D) (DOk.cons ok_impl_IsName (DOk.cons ok_impl_isRentDay (DOk.cons ok_impl_isMonths (DOk.cons ok_impl_isMoney DOk.nil)))) (by kernel_rfl) _ _ _ _
theorem ok_impl_ValidRentals : FOk Tryz.prog phi 611 impl_ValidRentals_c := fn_ok hm (D := impl_ValidRentals_D) (DOk.cons ok_impl_few (DOk.cons ok_impl_Rental_valid DOk.nil)) (by kernel_rfl) _ _ _ _
theorem ok_impl_Entry_valid : FOk Tryz.prog phi 621 impl_Entry_valid_c := fn_ok hm (D := impl_Entry_valid_D) (DOk.cons ok_impl_within (DOk.cons ok_impl_IsName (DOk.cons ok_impl_isRentDay DOk.nil))) (by kernel_rfl) _ _ _ _
theorem ok_impl_ValidBook : FOk Tryz.prog phi 213 impl_ValidBook_c := fn_ok hm (D := impl_ValidBook_D) (DOk.cons ok_impl_few (DOk.cons ok_impl_Entry_valid DOk.nil)) (by kernel_rfl) _ _ _ _
theorem ok_impl_ValidShop : FOk Tryz.prog phi 201 impl_ValidShop_c := fn_ok hm (D := impl_ValidShop_D) (DOk.cons ok_impl_ValidSteps (DOk.cons ok_impl_ValidBook (DOk.cons ok_impl_isClamps (DOk.cons ok_impl_areStarts (DOk.cons ok_impl_ValidOutline (DOk.cons ok_impl_validCords (DOk.cons ok_impl_isShare (DOk.cons ok_impl_ValidRentals DOk.nil)))))))) (by kernel_rfl) _ _ _ _
theorem ok_impl_Rental_end : FOk Tryz.prog phi 1045 impl_Rental_end_c := fn_ok hm (D := impl_Rental_end_D) DOk.nil (by kernel_rfl) _ _ _ _
theorem ok_impl_Rental_clashes : FOk Tryz.prog phi 941 impl_Rental_clashes_c := fn_ok hm (D := impl_Rental_clashes_D) (DOk.cons ok_impl_Rental_end DOk.nil) (by kernel_rfl) _ _ _ _
theorem ok_impl_ClashesOf : FOk Tryz.prog phi 711 impl_ClashesOf_c := fn_ok hm (D := impl_ClashesOf_D) (DOk.cons ok_impl_ValidRentals (DOk.cons ok_impl_Rental_clashes DOk.nil)) (by kernel_rfl) _ _ _ _
theorem ok_impl_Entry_change : FOk Tryz.prog phi 622 impl_Entry_change_c := fn_ok hm (D := impl_Entry_change_D) DOk.nil (by kernel_rfl) _ _ _ _
theorem ok_impl_FirstBelow : FOk Tryz.prog phi 210 impl_FirstBelow_c := fn_ok hm (D := impl_FirstBelow_D) (DOk.cons ok_impl_IsName (DOk.cons ok_impl_ValidBook (DOk.cons ok_impl_Entry_change DOk.nil))) (by kernel_rfl) _ _ _ _
theorem ok_strconv_FormatInt : FOk Tryz.prog phi 864 strconv_FormatInt_c := formatInt_ok Tryz.laysM173 ⟨0,by kernel_rfl⟩ (by kernel_rfl)
theorem ok_impl_Decimal : FOk Tryz.prog phi 524 impl_Decimal_c := fn_ok hm (D := impl_Decimal_D) (DOk.cons ok_strconv_FormatInt DOk.nil) (by kernel_rfl) _ _ _ _
theorem ok_impl_TradeProblems : FOk Tryz.prog phi 282 impl_TradeProblems_c := fn_ok hm (D := impl_TradeProblems_D) (DOk.cons ok_impl_ValidShop (DOk.cons ok_impl_FirstBelow (DOk.cons ok_impl_Decimal (DOk.cons ok_impl_Entry_change (DOk.cons ok_impl_ClashesOf DOk.nil))))) (by kernel_rfl) _ _ _ _
theorem ok_laws_eqProblem : FOk Tryz.prog phi 39 laws_eqProblem_c := fn_ok hm (D := laws_eqProblem_D) DOk.nil (by kernel_rfl) _ _ _ _
theorem ok_laws_eqProblemS : FOk Tryz.prog phi 47 laws_eqProblemS_c := fn_ok hm (D := laws_eqProblemS_D) (DOk.cons ok_laws_eqProblem DOk.nil) (by kernel_rfl) _ _ _ _
theorem ok_laws_eqPoint : FOk Tryz.prog phi 1034 laws_eqPoint_c := fn_ok hm (D := laws_eqPoint_D) DOk.nil (by kernel_rfl) _ _ _ _
theorem ok_laws_eqArc : FOk Tryz.prog phi 901 laws_eqArc_c := fn_ok hm (D := laws_eqArc_D) (DOk.cons ok_laws_eqPoint DOk.nil) (by kernel_rfl) _ _ _ _
theorem ok_laws_eqArcS : FOk Tryz.prog phi 616 laws_eqArcS_c := fn_ok hm (D := laws_eqArcS_D) (DOk.cons ok_laws_eqArc DOk.nil) (by kernel_rfl) _ _ _ _
theorem ok_laws_eqCord : FOk Tryz.prog phi 902 laws_eqCord_c := fn_ok hm (D := laws_eqCord_D) DOk.nil (by kernel_rfl) _ _ _ _
theorem ok_laws_eqCordS : FOk Tryz.prog phi 615 laws_eqCordS_c := fn_ok hm (D := laws_eqCordS_D) (DOk.cons ok_laws_eqCord DOk.nil) (by kernel_rfl) _ _ _ _
theorem ok_laws_eqInt64S : FOk Tryz.prog phi 42 laws_eqInt64S_c := fn_ok hm (D := laws_eqInt64S_D) DOk.nil (by kernel_rfl) _ _ _ _
theorem ok_laws_eqStep : FOk Tryz.prog phi 903 laws_eqStep_c := fn_ok hm (D := laws_eqStep_D) (DOk.cons ok_laws_eqInt64S DOk.nil) (by kernel_rfl) _ _ _ _
theorem ok_laws_eqStepS : FOk Tryz.prog phi 614 laws_eqStepS_c := fn_ok hm (D := laws_eqStepS_D) (DOk.cons ok_laws_eqStep DOk.nil) (by kernel_rfl) _ _ _ _
theorem ok_laws_eqRental : FOk Tryz.prog phi 904 laws_eqRental_c := fn_ok hm (D := laws_eqRental_D) DOk.nil (by kernel_rfl) _ _ _ _
theorem ok_laws_eqRentalS : FOk Tryz.prog phi 613 laws_eqRentalS_c := fn_ok hm (D := laws_eqRentalS_D) (DOk.cons ok_laws_eqRental DOk.nil) (by kernel_rfl) _ _ _ _
theorem ok_laws_eqEntry : FOk Tryz.prog phi 905 laws_eqEntry_c := fn_ok hm (D := laws_eqEntry_D) DOk.nil (by kernel_rfl) _ _ _ _
theorem ok_laws_eqEntryS : FOk Tryz.prog phi 612 laws_eqEntryS_c := fn_ok hm (D := laws_eqEntryS_D) (DOk.cons ok_laws_eqEntry DOk.nil) (by kernel_rfl) _ _ _ _
theorem ok_laws_eqShop : FOk Tryz.prog phi 200 laws_eqShop_c := fn_ok hm (D := laws_eqShop_D) (DOk.cons ok_laws_eqInt64S (DOk.cons ok_laws_eqEntryS (DOk.cons ok_laws_eqRentalS (DOk.cons ok_laws_eqStepS (DOk.cons ok_laws_eqCordS (DOk.cons ok_laws_eqArcS DOk.nil)))))) (by kernel_rfl) _ _ _ _
theorem ok_laws_toPoint : FOk Tryz.prog phi 1029 laws_toPoint_c := fn_ok hm (D := laws_toPoint_D) DOk.nil (by kernel_rfl) _ _ _ _
theorem ok_laws_toArc : FOk Tryz.prog phi 892 laws_toArc_c := fn_ok hm (D := laws_toArc_D) (DOk.cons ok_laws_toPoint DOk.nil) (by kernel_rfl) _ _ _ _
theorem ok_laws_toArcS : FOk Tryz.prog phi 607 laws_toArcS_c := fn_ok hm (D := laws_toArcS_D) (DOk.cons ok_laws_toArc DOk.nil) (by kernel_rfl) _ _ _ _
theorem ok_laws_toCord : FOk Tryz.prog phi 893 laws_toCord_c := fn_ok hm (D := laws_toCord_D) DOk.nil (by kernel_rfl) _ _ _ _
theorem ok_laws_toCordS : FOk Tryz.prog phi 606 laws_toCordS_c := fn_ok hm (D := laws_toCordS_D) (DOk.cons ok_laws_toCord DOk.nil) (by kernel_rfl) _ _ _ _
theorem ok_laws_toInt64S : FOk Tryz.prog phi 121 laws_toInt64S_c := fn_ok hm (D := laws_toInt64S_D) DOk.nil (by kernel_rfl) _ _ _ _
theorem ok_laws_toRental : FOk Tryz.prog phi 895 laws_toRental_c := fn_ok hm (D := laws_toRental_D) DOk.nil (by kernel_rfl) _ _ _ _
theorem ok_laws_toRentalS : FOk Tryz.prog phi 604 laws_toRentalS_c := fn_ok hm (D := laws_toRentalS_D) (DOk.cons ok_laws_toRental DOk.nil) (by kernel_rfl) _ _ _ _
theorem ok_laws_toEntry : FOk Tryz.prog phi 896 laws_toEntry_c := fn_ok hm (D := laws_toEntry_D) DOk.nil (by kernel_rfl) _ _ _ _
theorem ok_laws_toEntryS : FOk Tryz.prog phi 603 laws_toEntryS_c := fn_ok hm (D := laws_toEntryS_D) (DOk.cons ok_laws_toEntry DOk.nil) (by kernel_rfl) _ _ _ _
theorem ok_laws_markArcS : FOk Tryz.prog phi 755 laws_markArcS_c := fn_ok hm (D := laws_markArcS_D) DOk.nil (by kernel_rfl) _ _ _ _
theorem ok_laws_markCordS : FOk Tryz.prog phi 754 laws_markCordS_c := fn_ok hm (D := laws_markCordS_D) DOk.nil (by kernel_rfl) _ _ _ _
theorem ok_laws_markInt64S : FOk Tryz.prog phi 45 laws_markInt64S_c := fn_ok hm (D := laws_markInt64S_D) DOk.nil (by kernel_rfl) _ _ _ _
theorem ok_laws_markText : FOk Tryz.prog phi 40 laws_markText_c := fn_ok hm (D := laws_markText_D) DOk.nil (by kernel_rfl) _ _ _ _
theorem ok_laws_markRentalS : FOk Tryz.prog phi 752 laws_markRentalS_c := fn_ok hm (D := laws_markRentalS_D) (DOk.cons ok_laws_markText DOk.nil) (by kernel_rfl) _ _ _ _
theorem ok_laws_markEntryS : FOk Tryz.prog phi 751 laws_markEntryS_c := fn_ok hm (D := laws_markEntryS_D) (DOk.cons ok_laws_markText DOk.nil) (by kernel_rfl) _ _ _ _
theorem ok_laws_markProblemS : FOk Tryz.prog phi 46 laws_markProblemS_c := fn_ok hm (D := laws_markProblemS_D) (DOk.cons ok_laws_markText DOk.nil) (by kernel_rfl) _ _ _ _
theorem ok_laws_heldProblemS : FOk Tryz.prog phi 336 laws_heldProblemS_c := fn_ok hm (D := laws_heldProblemS_D) (DOk.cons ok_laws_markText DOk.nil) (by kernel_rfl) _ _ _ _
section
open Go.Ab
set_option maxHeartbeats 3200000 in
theorem to_step (w : World) (s : ByteArray) (h c : Int) (va : Value) (V4 : Value → Nat → World → Prop)
 (hV : ∀ v lo w w',V4 v lo w → Hi lo w w' → V4 v lo w')
 (hI : ∀ w',Lo w.heap.size w w' → Calls Tryz.prog 33 #[va] w' fun e w'' => ∃ ad n cap,e = .returned (.slice ad n cap) ∧ Lo w'.heap.size w' w'' ∧ V4 (.slice ad n cap) w'.heap.size w'') :
 Calls Tryz.prog 78 #[.agg #[.string s,.int .i64 h,.int .i64 c,va]] w fun e w' => ∃ ad n cap,e = .returned (.agg #[.string s,.int .i64 h,.int .i64 c,.slice ad n cap]) ∧ Lo w.heap.size w w' ∧ V4 (.slice ad n cap) (w.heap.size + 3) w' := by
 go_enter Tryz.func78,Tryz.ntmps78
 go_wp2_with (fail)
 go_at_call 33
 refine (hI _ (((Lo.refl _ w).alloc (Nat.le_refl _) _).alloc (by simp) _ |>.alloc (by simp; omega) _)).mono ?_
 rintro e w1 ⟨ad,n,cap,rfl,hw1,hv1⟩
 have z : w1.heap.size ≥ w.heap.size + 3 := by have := hw1.size; simp at this; omega
 have k2 : w1.heap[w.heap.size + 1 + 1]? = some (.cells #[Value.string s,Value.int IntKind.i64 h,Value.int IntKind.i64 c,Value.slice none 0 0] 64) := (hw1.block (w.heap.size + 1 + 1) (by simp)).trans (get_new _ _ (by simp))
 have k1 : w1.heap[w.heap.size + 1]? = some (.cells #[Value.string { data := #[] },Value.int IntKind.i64 0,Value.int IntKind.i64 0,Value.slice none 0 0] 64) := (hw1.block (w.heap.size + 1) (by simp)).trans ((get_old _ _ (by simp)).trans (get_new _ _ (by simp)))
 have g0 : w1.cell? ⟨w.heap.size + 1 + 1,0,none⟩ = some (Value.string s) := by simp [World.cell?,k2]
 have g1 : w1.cell? ⟨w.heap.size + 1 + 1,1,none⟩ = some (Value.int IntKind.i64 h) := by simp [World.cell?,k2]
 have g2 : w1.cell? ⟨w.heap.size + 1 + 1,2,none⟩ = some (Value.int IntKind.i64 c) := by simp [World.cell?,k2]
 have g3 : w1.cell? ⟨w.heap.size + 1 + 1,3,none⟩ = some (Value.slice none 0 0) := by simp [World.cell?,k2]
 have q0 : w1.cell? ⟨w.heap.size + 1,0,none⟩ = some (Value.string { data := #[] }) := by simp [World.cell?,k1]
 have q1 : w1.cell? ⟨w.heap.size + 1,1,none⟩ = some (Value.int IntKind.i64 0) := by simp [World.cell?,k1]
 have q2 : w1.cell? ⟨w.heap.size + 1,2,none⟩ = some (Value.int IntKind.i64 0) := by simp [World.cell?,k1]
 have q3 : w1.cell? ⟨w.heap.size + 1,3,none⟩ = some (Value.slice none 0 0) := by simp [World.cell?,k1]
 have f2 : ∀ j,w1.frozen? ⟨w.heap.size + 1 + 1,j,none⟩ = false := fun j => by simp [World.frozen?,k2]
 have f1 : ∀ j,w1.frozen? ⟨w.heap.size + 1,j,none⟩ = false := fun j => by simp [World.frozen?,k1]
 have e1 : w.heap.size + 1 ≠ w.heap.size + 1 + 1 := by omega
 all_goals go_wp2
 have hs := hw1.size
 simp only [World.alloc,Array.size_push] at hs
 refine bodyPost_ret (v := .agg #[.string s,.int .i64 h,.int .i64 c,.slice ad n cap]) (by simp [results,Tryz.results78,go_sem,q0,q1,q2,q3,World.cell?_setCell_same',World.cell?_setCell_other]) rfl ⟨_,_,_,rfl,?_,?_⟩
 ·refine Lo.setCell (Lo.setCell (Lo.setCell (Lo.setCell (Lo.setCell (Lo.trans (((Lo.refl _ w).alloc (Nat.le_refl _) _).alloc (by simp) _ |>.alloc (by simp; omega) _) (hw1.mono (by simp; omega))) ?_) ?_) ?_) ?_) ?_ <;> omega
 ·have e : ((((w.alloc (Obj.cells #[Value.string s,Value.int IntKind.i64 h,Value.int IntKind.i64 c,va] 101)).alloc (Obj.cells #[Value.string { data := #[] },Value.int IntKind.i64 0,Value.int IntKind.i64 0,Value.slice none 0 0] 64)).alloc (Obj.cells #[Value.string s,Value.int IntKind.i64 h,Value.int IntKind.i64 c,Value.slice none 0 0] 64)).heap.size) = w.heap.size + 3 := by simp
  rw [e] at hv1
  refine hV _ _ _ _ hv1 ?_
  exact ((((Hi.refl _ _).setCell (by omega)).setCell (by omega)).setCell (by omega)).setCell (by omega) |>.setCell (by omega)
set_option maxHeartbeats 3200000 in
theorem to_stepS (b off len cap : Nat) (w : World) (ids : Nat → ByteArray) (hs cs : Nat → Int) (aa : Nat → Value) (V4 : Nat → Value → Nat → Nat → World → Prop)
 (hb : b < w.heap.size) (hl : len ≤ 1099511627776)
 (h0 : ∀ j,j < len → w.cell? ⟨b,off + j * 4,none⟩ = some (.string (ids j)))
 (h1 : ∀ j,j < len → w.cell? ⟨b,off + j * 4 + 1,none⟩ = some (.int .i64 (hs j)))
 (h2 : ∀ j,j < len → w.cell? ⟨b,off + j * 4 + 2,none⟩ = some (.int .i64 (cs j)))
 (h3 : ∀ j,j < len → w.cell? ⟨b,off + j * 4 + 3,none⟩ = some (aa j))
 (hV : ∀ j v lo hi w w',V4 j v lo hi w → Hi lo w w' → V4 j v lo hi w')
 (hT : ∀ j,j < len → ∀ w',Lo w.heap.size w w' → Calls Tryz.prog 78 #[.agg #[.string (ids j),.int .i64 (hs j),.int .i64 (cs j),aa j]] w' fun e w'' =>
   ∃ ad n cap,e = .returned (.agg #[.string (ids j),.int .i64 (hs j),.int .i64 (cs j),.slice ad n cap]) ∧ Lo w'.heap.size w' w'' ∧ V4 j (.slice ad n cap) w'.heap.size w''.heap.size w'') :
 Calls Tryz.prog 32 #[.slice (some ⟨b,off,none⟩) len cap] w fun e w' => e = .returned (.slice (some ⟨w.heap.size,0,none⟩) len len) ∧ Lo w.heap.size w w' ∧
  ∃ (C : Array Value) (lo hi : Nat → Nat),w'.heap[w.heap.size]? = some (.cells C 64) ∧ C.size = len * 4 ∧ (∀ j,j < len → ∃ ad n cap,C[j * 4]? = some (.string (ids j)) ∧ C[j * 4 + 1]? = some (.int .i64 (hs j)) ∧ C[j * 4 + 2]? = some (.int .i64 (cs j)) ∧ C[j * 4 + 3]? = some (.slice ad n cap) ∧
    V4 j (.slice ad n cap) (lo j) (hi j) w' ∧ w.heap.size < lo j ∧ hi j ≤ w'.heap.size) ∧ ∀ i j,i < j → j < len → hi i ≤ lo j := by
 have hmk : ∀ w' : World,(Instr.makeSlice 36 (.int .i64 (len : Int)) (.int .i64 (len : Int))).run Tryz.prog w' = .ok (.slice (some ⟨w'.heap.size,0,none⟩) len len) (w'.alloc (.cells (madeCells #[Value.string { data := #[] },.int .i64 0,.int .i64 0,.slice none 0 0] (len * 4)) 64)) := by
  intro w'
  have hI : (Tryz.prog.info? 64).map (fun i => (i.zero,i.size,i.bytes)) = some (some (.agg #[Value.string { data := #[] },.int .i64 0,.int .i64 0,.slice none 0 0]),4,56) := by kernel_rfl
  obtain ⟨i,hi,he⟩ := Option.map_eq_some_iff.1 hI
  simp only [Prod.mk.injEq] at he
  have h := run_make (P := Tryz.prog) w' 36 64 i _ Tryz.underlying36 hi he.1 .i64 .i64 len len (by omega) (Int.le_refl _) (by rw [he.2.2]; omega) (by omega)
  rw [he.2.1] at h
  exact h
 go_enter Tryz.func32,Tryz.ntmps32
 go_wp2_with (fail)
 go_loopw [4] (fun i wr => ∃ k : Nat,k ≤ len ∧ i = .int .i64 k ∧ Lo w.heap.size w wr ∧ w.heap.size + 1 ≤ wr.heap.size ∧
  ∃ (C : Array Value) (lo hi : Nat → Nat),wr.heap[w.heap.size]? = some (.cells C 64) ∧ C.size = len * 4 ∧ (∀ j,j < k → ∃ ad n cap,C[j * 4]? = some (.string (ids j)) ∧ C[j * 4 + 1]? = some (.int .i64 (hs j)) ∧ C[j * 4 + 2]? = some (.int .i64 (cs j)) ∧ C[j * 4 + 3]? = some (.slice ad n cap) ∧
    V4 j (.slice ad n cap) (lo j) (hi j) wr ∧ w.heap.size < lo j ∧ hi j ≤ wr.heap.size) ∧ ∀ i j,i < j → j < k → hi i ≤ lo j)
  (fun i _ => len - (intOf i).toNat)
 case atStart =>
  refine ⟨0,Nat.zero_le _,rfl,(Lo.refl _ _).alloc (Nat.le_refl _) _,by simp,_,fun _ => 0,fun _ => 0,get_new _ _ rfl,by rw [size_madeCells],fun j h => absurd h (Nat.not_lt_zero _),fun i j _ h => absurd h (Nat.not_lt_zero _)⟩
 case round =>
  obtain ⟨k,hk,rfl,hnx,hsz,C,lo,hi,hC,hCs,hdone,hch⟩ := hrel
  rcases Nat.lt_or_ge k len with hkl | hkl
  ·have c0 := (hnx.cell (by exact hb)).trans (h0 k hkl)
   have c1 := (hnx.cell (by exact hb)).trans (h1 k hkl)
   have c2 := (hnx.cell (by exact hb)).trans (h2 k hkl)
   have c3 := (hnx.cell (by exact hb)).trans (h3 k hkl)
   go_wp2_with (fail)
   go_at_call 78
   refine (hT k hkl _ hnx).mono ?_
   rintro e w1 ⟨ad,n,cp,rfl,hw1,hv1⟩
   have hC1 : w1.heap[w.heap.size]? = some (.cells C 64) := (hw1.block _ (by omega)).trans hC
   have o0 : k * 4 < C.size := by omega
   have o1 : k * 4 + 1 < C.size := by omega
   have o2 : k * 4 + 2 < C.size := by omega
   have o3 : k * 4 + 3 < C.size := by omega
   have q0 : w1.cell? ⟨w.heap.size,k * 4,none⟩ = some C[k * 4] := by simp [World.cell?,hC1,o0]
   have q1 : w1.cell? ⟨w.heap.size,k * 4 + 1,none⟩ = some C[k * 4 + 1] := by simp [World.cell?,hC1,o1]
   have q2 : w1.cell? ⟨w.heap.size,k * 4 + 2,none⟩ = some C[k * 4 + 2] := by simp [World.cell?,hC1,o2]
   have q3 : w1.cell? ⟨w.heap.size,k * 4 + 3,none⟩ = some C[k * 4 + 3] := by simp [World.cell?,hC1,o3]
   have f1 : ∀ j,w1.frozen? ⟨w.heap.size,j,none⟩ = false := fun j => by simp [World.frozen?,hC1]
   go_wp2_with (fail)
   go_roundw
   case rel =>
    have hwL := hw1.size
    refine ⟨k + 1,by omega,by go_num,?_,by simp only [setCell_size]; omega,_,fun j => if j = k then wr.heap.size else lo j,fun j => if j = k then w1.heap.size else hi j,setCell_at (setCell_at (setCell_at (setCell_at hC1 _ _) _ _) _ _) _ _,by simpa using hCs,fun j hj => ?_,fun i j hij hj => ?_⟩
    ·exact Lo.setCell (Lo.setCell (Lo.setCell (Lo.setCell (hnx.trans (hw1.mono hnx.size)) (Nat.le_refl _)) (Nat.le_refl _)) (Nat.le_refl _)) (Nat.le_refl _)
    ·rcases Nat.lt_or_ge j k with hjk | hjk
     ·obtain ⟨ad',n',cp',d0,d1,d2,d3,d4,d5,d6⟩ := hdone j hjk
      have hne : j ≠ k := by omega
      simp only [hne,if_false]
      refine ⟨ad',n',cp',(set4_out _ _ _ _ _ _ _ (by omega)).trans d0,(set4_out _ _ _ _ _ _ _ (by omega)).trans d1,(set4_out _ _ _ _ _ _ _ (by omega)).trans d2,(set4_out _ _ _ _ _ _ _ (by omega)).trans d3,?_,d5,?_⟩
      ·exact hV _ _ _ _ _ _ d4 (((((Hi.of_lo hw1).setCell d5).setCell d5).setCell d5).setCell d5)
      ·simp only [setCell_size]; omega
     ·obtain rfl : j = k := by omega
      obtain ⟨s0,s1,s2,s3⟩ := set4_in C j (.string (ids j)) (.int .i64 (hs j)) (.int .i64 (cs j)) (.slice ad n cp) (by omega)
      simp only [if_true]
      have hlt : w.heap.size < wr.heap.size := by omega
      exact ⟨ad,n,cp,s0,s1,s2,s3,hV _ _ _ _ _ _ hv1 (((((Hi.refl _ _).setCell hlt).setCell hlt).setCell hlt).setCell hlt),hlt,by simp only [setCell_size]; omega⟩
    ·have hne : i ≠ k := by omega
     simp only [hne,if_false]
     rcases Nat.lt_or_ge j k with hjk | hjk
     ·have hne : j ≠ k := by omega
      simp only [hne,if_false]
      exact hch i j hij hjk
     ·obtain rfl : j = k := by omega
      simp only [if_true]
      obtain ⟨_,_,_,_,_,_,_,_,_,d6⟩ := hdone i hij
      exact d6
   case measure => simp [intOf]; omega
  ·have : k = len := by omega
   subst this
   go_wp2_with (fail)
   go_ret
   exact ⟨rfl,hnx,C,lo,hi,hC,hCs,hdone,hch⟩
set_option maxHeartbeats 3200000 in
theorem mark_steps_walk : MarkStepsWalk Tryz.prog 49 53 50 64 := ⟨by
 intro b len cap m0 w C ad n cp lo hi V4 hl hm hn hC hCs h3 hlo hhi hdis h4 hV hX hI
 have hbw : b < w.heap.size := by
  rcases Nat.lt_or_ge b w.heap.size with h | h
  ·exact h
  ·rw [Array.getElem?_eq_none h] at hC; cases hC
 go_enter Tryz.func49,Tryz.ntmps49
 go_wp2_with (fail)
 go_loopw [1,5] (fun kv i wr => ∃ k : Nat,k ≤ len ∧ i = .int .i64 k ∧ ∃ m : Nat,kv = .int .i64 m ∧ m ≤ m0 + k * 1048579 ∧ Rg (fun c => c = b ∨ ∃ j,j < len ∧ lo j ≤ c ∧ c < hi j) w wr ∧
  ∃ D : Array Value,wr.heap[b]? = some (.cells D 64) ∧ D.size = len * 4 ∧ (∀ j,j < len → D[j * 4 + 3]? = some (.slice (ad j) (n j) (cp j))) ∧ ∀ j,k ≤ j → j < len → V4 j wr)
  (fun _ i _ => len - (intOf i).toNat)
 case atStart => exact ⟨0,Nat.zero_le _,rfl,m0,rfl,by omega,Rg.refl _ _,C,hC,hCs,h3,fun j _ hj => h4 j hj⟩
 case round =>
  obtain ⟨k,hk,rfl,m,rfl,hmb,hR,D,hD,hDs,hD3,hV4⟩ := hrel
  rcases Nat.lt_or_ge k len with hkl | hkl
  ·have hkb : k * 1048579 ≤ 1048576 * 1048579 := Nat.mul_le_mul_right _ (by omega)
   have hmm : m ≤ 4612785533200900 := by omega
   go_wp2_with (fail)
   go_at_call 53
   refine (hX m wr (by omega) hR.size hR).mono ?_
   rintro e w1 ⟨t,rfl,hw1⟩
   have hbr : b < wr.heap.size := Nat.lt_of_lt_of_le hbw hR.size
   have hC1 : w1.heap[b]? = some (.cells D 64) := (hw1.block _ hbr).trans hD
   have o0 : k * 4 < D.size := by omega
   have o1 : k * 4 + 1 < D.size := by omega
   have o2 : k * 4 + 2 < D.size := by omega
   have q0 : w1.cell? ⟨b,k * 4,none⟩ = some D[k * 4] := by simp [World.cell?,hC1,o0]
   have q1 : w1.cell? ⟨b,k * 4 + 1,none⟩ = some D[k * 4 + 1] := by simp [World.cell?,hC1,o1]
   have q2 : w1.cell? ⟨b,k * 4 + 2,none⟩ = some D[k * 4 + 2] := by simp [World.cell?,hC1,o2]
   have q3 : w1.cell? ⟨b,k * 4 + 3,none⟩ = some (.slice (ad k) (n k) (cp k)) := by simp [World.cell?,hC1,hD3 k hkl]
   have f1 : ∀ j,w1.frozen? ⟨b,j,none⟩ = false := fun j => by simp [World.frozen?,hC1]
   go_wp2_with (fail)
   go_at_call 50
   have em : ((m : Int) + 1 + 1 + 1) = ((m + 3 : Nat) : Int) := by omega
   rw [em]
   have hR2 : Rg (fun c => c = b ∨ ∃ j,j < len ∧ lo j ≤ c ∧ c < hi j) w (((w1.setCell { block := b,off := k * 4 } (Value.string t)).setCell { block := b,off := k * 4 + 1 } (Value.int IntKind.i64 (↑m + 1))).setCell { block := b,off := k * 4 + 2 } (Value.int IntKind.i64 (↑m + 1 + 1))) :=
    (((hR.trans (Rg.of_lo hw1)).setCell (.inl rfl)).setCell (.inl rfl)).setCell (.inl rfl)
   have keep : ∀ j,k ≤ j → j < len → V4 j (((w1.setCell { block := b,off := k * 4 } (Value.string t)).setCell { block := b,off := k * 4 + 1 } (Value.int IntKind.i64 (↑m + 1))).setCell { block := b,off := k * 4 + 2 } (Value.int IntKind.i64 (↑m + 1 + 1))) := fun j h1 h2 => by
    refine hV j _ _ h2 (hV4 j h1 h2) (fun c hc1 hc2 => ?_) (by simp only [setCell_size]; exact hw1.size)
    have := hlo j h2
    have := hhi j h2
    have := hR.size
    rw [setCell_block _ _ _ _ _ (by omega),setCell_block _ _ _ _ _ (by omega),setCell_block _ _ _ _ _ (by omega)]
    exact hw1.block c (by omega)
   have hD2 := setCell_at (setCell_at (setCell_at hC1 (k * 4) (Value.string t)) (k * 4 + 1) (Value.int IntKind.i64 (↑m + 1))) (k * 4 + 2) (Value.int IntKind.i64 (↑m + 1 + 1))
   have hsz2 : w1.heap.size = (((w1.setCell { block := b,off := k * 4 } (Value.string t)).setCell { block := b,off := k * 4 + 1 } (Value.int IntKind.i64 (↑m + 1))).setCell { block := b,off := k * 4 + 2 } (Value.int IntKind.i64 (↑m + 1 + 1))).heap.size := by simp only [setCell_size]
   generalize (((w1.setCell { block := b,off := k * 4 } (Value.string t)).setCell { block := b,off := k * 4 + 1 } (Value.int IntKind.i64 (↑m + 1))).setCell { block := b,off := k * 4 + 2 } (Value.int IntKind.i64 (↑m + 1 + 1))) = w2 at hR2 keep hD2 hsz2 ⊢
   refine (hI k hkl (m + 3) w2 (by omega) hR2 (keep k (Nat.le_refl _) hkl)).mono ?_
   rintro e w3 ⟨rfl,hR3⟩
   go_wp2_with (fail)
   go_roundw
   case rel =>
    have := hn k hkl
    have hb1 := hlo k hkl
    have hb2 := hw1.size
    refine ⟨k + 1,by omega,by go_num,m + 3 + n k,rfl,?_,hR2.trans (hR3.mono fun c hc => .inr ⟨k,hkl,hc⟩),_,(hR3.block b (by omega) (by omega)).trans hD2,by simpa using hDs,fun j hj => ?_,fun j h1 h2 => ?_⟩
    ·rw [Nat.succ_mul]; omega
    ·rw [Array.getElem?_setIfInBounds_ne (by omega),Array.getElem?_setIfInBounds_ne (by omega),Array.getElem?_setIfInBounds_ne (by omega)]
     exact hD3 j hj
    ·refine hV j _ _ h2 (keep j (by omega) h2) (fun c hc1 hc2 => ?_) hR3.size
     have := hdis k j (by omega) h2
     have := hhi j h2
     have := hR.size
     exact hR3.block c (by omega) (by omega)
   case measure => simp [intOf]; omega
  ·have : k = len := by omega
   subst this
   go_wp2_with (fail)
   go_ret
   exact ⟨m,rfl,hmb,hR⟩⟩
set_option maxHeartbeats 3200000 in
theorem to_stepS_nil (a : Option Addr) (cap : Nat) (w : World) : Calls Tryz.prog 32 #[.slice a 0 cap] w fun e w' => e = .returned (.slice (some ⟨w.heap.size,0,none⟩) 0 0) ∧ Lo w.heap.size w w' ∧ w'.heap[w.heap.size]? = some (.cells #[] 64) := by
 have hmk : ∀ w' : World,(Instr.makeSlice 36 (.int .i64 0) (.int .i64 0)).run Tryz.prog w' = .ok (.slice (some ⟨w'.heap.size,0,none⟩) 0 0) (w'.alloc (.cells #[] 64)) := by
  intro w'
  have hI : (Tryz.prog.info? 64).map (fun i => (i.zero,i.size,i.bytes)) = some (some (.agg #[Value.string { data := #[] },.int .i64 0,.int .i64 0,.slice none 0 0]),4,56) := by kernel_rfl
  obtain ⟨i,hi,he⟩ := Option.map_eq_some_iff.1 hI
  simp only [Prod.mk.injEq] at he
  have h := run_make (P := Tryz.prog) w' 36 64 i _ Tryz.underlying36 hi he.1 .i64 .i64 0 0 (by omega) (Int.le_refl _) (by rw [he.2.2]; omega) (by omega)
  rw [he.2.1] at h
  have e : madeCells (Value.agg #[Value.string { data := #[] },Value.int IntKind.i64 0,Value.int IntKind.i64 0,Value.slice none 0 0]).cells (Int.toNat 0 * 4) = #[] := Array.eq_empty_of_size_eq_zero (by rw [size_madeCells]; rfl)
  rw [e] at h
  exact h
 go_enter Tryz.func32,Tryz.ntmps32
 go_wp2_with (fail)
 refine wp_loop_rounds 1 ?_
 rw [rounds_succ]
 go_wp2_with (fail)
 go_ret
 exact ⟨rfl,(Lo.refl _ _).alloc (Nat.le_refl _) _,get_new _ _ rfl⟩
set_option maxHeartbeats 6400000 in
theorem to_shop_walk : ToShopWalk Tryz.prog 9 30 31 32 33 34 35 := ⟨by
 intro w v0 v1 v3 v4 v6 v7 v2 v5 Q hP h0 h1 h3 h4 h6 h7
 go_enter Tryz.func9,Tryz.ntmps9
 go_wp2_with (fail)
 have L : Lo w.heap.size w (((w.alloc (.cells #[v0,v1,.int .i64 v2,v3,v4,.int .i64 v5,v6,v7] 29)).alloc (.cells #[.slice none 0 0,.slice none 0 0,.int .i64 0,.slice none 0 0,.slice none 0 0,.int .i64 0,.slice none 0 0,.slice none 0 0] 40)).alloc (.cells #[.slice none 0 0,.slice none 0 0,.int .i64 0,.slice none 0 0,.slice none 0 0,.int .i64 0,.slice none 0 0,.slice none 0 0] 40)) := ((Lo.refl _ w).alloc (Nat.le_refl _) _).alloc (by simp) _ |>.alloc (by simp; omega) _
 have B0 : (((w.alloc (.cells #[v0,v1,.int .i64 v2,v3,v4,.int .i64 v5,v6,v7] 29)).alloc (.cells #[.slice none 0 0,.slice none 0 0,.int .i64 0,.slice none 0 0,.slice none 0 0,.int .i64 0,.slice none 0 0,.slice none 0 0] 40)).alloc (.cells #[.slice none 0 0,.slice none 0 0,.int .i64 0,.slice none 0 0,.slice none 0 0,.int .i64 0,.slice none 0 0,.slice none 0 0] 40)).heap[w.heap.size]? = some (.cells #[v0,v1,.int .i64 v2,v3,v4,.int .i64 v5,v6,v7] 29) := (get_old _ _ (by simp only [World.alloc,Array.size_push]; omega)).trans ((get_old _ _ (by simp only [World.alloc,Array.size_push]; omega)).trans (get_new _ _ rfl))
 have B1 : (((w.alloc (.cells #[v0,v1,.int .i64 v2,v3,v4,.int .i64 v5,v6,v7] 29)).alloc (.cells #[.slice none 0 0,.slice none 0 0,.int .i64 0,.slice none 0 0,.slice none 0 0,.int .i64 0,.slice none 0 0,.slice none 0 0] 40)).alloc (.cells #[.slice none 0 0,.slice none 0 0,.int .i64 0,.slice none 0 0,.slice none 0 0,.int .i64 0,.slice none 0 0,.slice none 0 0] 40)).heap[w.heap.size + 1]? = some (.cells #[.slice none 0 0,.slice none 0 0,.int .i64 0,.slice none 0 0,.slice none 0 0,.int .i64 0,.slice none 0 0,.slice none 0 0] 40) := (get_old _ _ (by simp)).trans (get_new _ _ (by simp))
 have B2 : (((w.alloc (.cells #[v0,v1,.int .i64 v2,v3,v4,.int .i64 v5,v6,v7] 29)).alloc (.cells #[.slice none 0 0,.slice none 0 0,.int .i64 0,.slice none 0 0,.slice none 0 0,.int .i64 0,.slice none 0 0,.slice none 0 0] 40)).alloc (.cells #[.slice none 0 0,.slice none 0 0,.int .i64 0,.slice none 0 0,.slice none 0 0,.int .i64 0,.slice none 0 0,.slice none 0 0] 40)).heap[w.heap.size + 1 + 1]? = some (.cells #[.slice none 0 0,.slice none 0 0,.int .i64 0,.slice none 0 0,.slice none 0 0,.int .i64 0,.slice none 0 0,.slice none 0 0] 40) := get_new _ _ (by simp)
 have Z : w.heap.size + 3 ≤ (((w.alloc (.cells #[v0,v1,.int .i64 v2,v3,v4,.int .i64 v5,v6,v7] 29)).alloc (.cells #[.slice none 0 0,.slice none 0 0,.int .i64 0,.slice none 0 0,.slice none 0 0,.int .i64 0,.slice none 0 0,.slice none 0 0] 40)).alloc (.cells #[.slice none 0 0,.slice none 0 0,.int .i64 0,.slice none 0 0,.slice none 0 0,.int .i64 0,.slice none 0 0,.slice none 0 0] 40)).heap.size := by simp
 go_at_call 30
 generalize (((w.alloc (.cells #[v0,v1,.int .i64 v2,v3,v4,.int .i64 v5,v6,v7] 29)).alloc (.cells #[.slice none 0 0,.slice none 0 0,.int .i64 0,.slice none 0 0,.slice none 0 0,.int .i64 0,.slice none 0 0,.slice none 0 0] 40)).alloc (.cells #[.slice none 0 0,.slice none 0 0,.int .i64 0,.slice none 0 0,.slice none 0 0,.int .i64 0,.slice none 0 0,.slice none 0 0] 40)) = y0 at *
 refine (h0 y0 L).mono ?_
 rintro e x0 ⟨ad0,n0,cp0,rfl,hx,p0⟩
 have hxs := hx.size
 replace B0 := (hx.block (w.heap.size) (by omega)).trans B0
 replace B1 := (hx.block (w.heap.size + 1) (by omega)).trans B1
 replace B2 := (hx.block (w.heap.size + 1 + 1) (by omega)).trans B2
 obtain ⟨lo0,hlo0⟩ : ∃ l,l = y0.heap.size := ⟨_,rfl⟩
 obtain ⟨hi0,hhi0⟩ : ∃ l,l = x0.heap.size := ⟨_,rfl⟩
 rw [← hlo0,← hhi0] at p0
 have i0 : lo0 ≤ hi0 ∧ w.heap.size + 3 ≤ lo0 := by omega
 have u0 : hi0 ≤ x0.heap.size := by omega
 replace L := L.trans (hx.mono (by omega : w.heap.size ≤ y0.heap.size))
 replace Z : w.heap.size + 3 ≤ x0.heap.size := by omega
 clear hx hxs hlo0 hhi0
 have g0 : x0.cell? ⟨w.heap.size,0,none⟩ = some (v0) := by simp [World.cell?,B0]
 have k0 : x0.cell? ⟨w.heap.size + 1 + 1,0,none⟩ = some (.slice none 0 0) := by simp [World.cell?,B2]
 have g1 : x0.cell? ⟨w.heap.size,1,none⟩ = some (v1) := by simp [World.cell?,B0]
 have k1 : x0.cell? ⟨w.heap.size + 1 + 1,1,none⟩ = some (.slice none 0 0) := by simp [World.cell?,B2]
 have g2 : x0.cell? ⟨w.heap.size,2,none⟩ = some (.int .i64 v2) := by simp [World.cell?,B0]
 have k2 : x0.cell? ⟨w.heap.size + 1 + 1,2,none⟩ = some (.int .i64 0) := by simp [World.cell?,B2]
 have g3 : x0.cell? ⟨w.heap.size,3,none⟩ = some (v3) := by simp [World.cell?,B0]
 have k3 : x0.cell? ⟨w.heap.size + 1 + 1,3,none⟩ = some (.slice none 0 0) := by simp [World.cell?,B2]
 have g4 : x0.cell? ⟨w.heap.size,4,none⟩ = some (v4) := by simp [World.cell?,B0]
 have k4 : x0.cell? ⟨w.heap.size + 1 + 1,4,none⟩ = some (.slice none 0 0) := by simp [World.cell?,B2]
 have g5 : x0.cell? ⟨w.heap.size,5,none⟩ = some (.int .i64 v5) := by simp [World.cell?,B0]
 have k5 : x0.cell? ⟨w.heap.size + 1 + 1,5,none⟩ = some (.int .i64 0) := by simp [World.cell?,B2]
 have g6 : x0.cell? ⟨w.heap.size,6,none⟩ = some (v6) := by simp [World.cell?,B0]
 have k6 : x0.cell? ⟨w.heap.size + 1 + 1,6,none⟩ = some (.slice none 0 0) := by simp [World.cell?,B2]
 have g7 : x0.cell? ⟨w.heap.size,7,none⟩ = some (v7) := by simp [World.cell?,B0]
 have k7 : x0.cell? ⟨w.heap.size + 1 + 1,7,none⟩ = some (.slice none 0 0) := by simp [World.cell?,B2]
 have f2 : ∀ j,x0.frozen? ⟨w.heap.size + 1 + 1,j,none⟩ = false := fun j => by simp [World.frozen?,B2]
 go_wp2_with (fail)
 go_at_call 31
 have D0 : (x0.setCell ⟨w.heap.size + 1 + 1,0,none⟩ (.slice ad0 n0 cp0)).heap[w.heap.size]? = some (.cells #[v0,v1,.int .i64 v2,v3,v4,.int .i64 v5,v6,v7] 29) := by rw [setCell_block _ _ _ _ _ (by omega)]; exact B0
 have D1 : (x0.setCell ⟨w.heap.size + 1 + 1,0,none⟩ (.slice ad0 n0 cp0)).heap[w.heap.size + 1]? = some (.cells #[.slice none 0 0,.slice none 0 0,.int .i64 0,.slice none 0 0,.slice none 0 0,.int .i64 0,.slice none 0 0,.slice none 0 0] 40) := by rw [setCell_block _ _ _ _ _ (by omega)]; exact B1
 have D2 : (x0.setCell ⟨w.heap.size + 1 + 1,0,none⟩ (.slice ad0 n0 cp0)).heap[w.heap.size + 1 + 1]? = some (.cells #[.slice ad0 n0 cp0,.slice none 0 0,.int .i64 0,.slice none 0 0,.slice none 0 0,.int .i64 0,.slice none 0 0,.slice none 0 0] 40) := (setCell_at B2 _ _)
 have L2 : Lo w.heap.size w (x0.setCell ⟨w.heap.size + 1 + 1,0,none⟩ (.slice ad0 n0 cp0)) := (Lo.setCell L (by omega))
 have Z2 : w.heap.size + 3 ≤ (x0.setCell ⟨w.heap.size + 1 + 1,0,none⟩ (.slice ad0 n0 cp0)).heap.size := by simp only [setCell_size]; exact Z
 have P02 : Q 0 (.slice ad0 n0 cp0) lo0 hi0 (x0.setCell ⟨w.heap.size + 1 + 1,0,none⟩ (.slice ad0 n0 cp0)) := hP _ _ _ _ _ _ p0 u0 (fun c c1 c2 => by rw [setCell_block _ _ _ _ _ (by omega)]) (by simp only [setCell_size]; exact Nat.le_refl _)
 have U02 : hi0 ≤ (x0.setCell ⟨w.heap.size + 1 + 1,0,none⟩ (.slice ad0 n0 cp0)).heap.size := by simp only [setCell_size]; exact u0
 clear B0 B1 B2 L Z p0 u0 g0 g1 g2 g3 g4 g5 g6 g7 k0 k1 k2 k3 k4 k5 k6 k7 f2
 generalize (x0.setCell ⟨w.heap.size + 1 + 1,0,none⟩ (.slice ad0 n0 cp0)) = y1 at *
 have B0 := D0
 clear D0
 have B1 := D1
 clear D1
 have B2 := D2
 clear D2
 have L := L2
 clear L2
 have Z := Z2
 clear Z2
 have p0 := P02
 clear P02
 have u0 := U02
 clear U02
 refine (h1 y1 L).mono ?_
 rintro e x1 ⟨ad1,n1,cp1,rfl,hx,p1⟩
 have hxs := hx.size
 replace B0 := (hx.block (w.heap.size) (by omega)).trans B0
 replace B1 := (hx.block (w.heap.size + 1) (by omega)).trans B1
 replace B2 := (hx.block (w.heap.size + 1 + 1) (by omega)).trans B2
 obtain ⟨lo1,hlo1⟩ : ∃ l,l = y1.heap.size := ⟨_,rfl⟩
 obtain ⟨hi1,hhi1⟩ : ∃ l,l = x1.heap.size := ⟨_,rfl⟩
 rw [← hlo1,← hhi1] at p1
 have i1 : lo1 ≤ hi1 ∧ hi0 ≤ lo1 := by omega
 replace p0 := hP _ _ _ _ _ _ p0 u0 (fun c c1 c2 => hx.block c (by omega)) hx.size
 replace u0 : hi0 ≤ x1.heap.size := by omega
 have u1 : hi1 ≤ x1.heap.size := by omega
 replace L := L.trans (hx.mono (by omega : w.heap.size ≤ y1.heap.size))
 replace Z : w.heap.size + 3 ≤ x1.heap.size := by omega
 clear hx hxs hlo1 hhi1
 have g0 : x1.cell? ⟨w.heap.size,0,none⟩ = some (v0) := by simp [World.cell?,B0]
 have k0 : x1.cell? ⟨w.heap.size + 1 + 1,0,none⟩ = some (.slice ad0 n0 cp0) := by simp [World.cell?,B2]
 have g1 : x1.cell? ⟨w.heap.size,1,none⟩ = some (v1) := by simp [World.cell?,B0]
 have k1 : x1.cell? ⟨w.heap.size + 1 + 1,1,none⟩ = some (.slice none 0 0) := by simp [World.cell?,B2]
 have g2 : x1.cell? ⟨w.heap.size,2,none⟩ = some (.int .i64 v2) := by simp [World.cell?,B0]
 have k2 : x1.cell? ⟨w.heap.size + 1 + 1,2,none⟩ = some (.int .i64 0) := by simp [World.cell?,B2]
 have g3 : x1.cell? ⟨w.heap.size,3,none⟩ = some (v3) := by simp [World.cell?,B0]
 have k3 : x1.cell? ⟨w.heap.size + 1 + 1,3,none⟩ = some (.slice none 0 0) := by simp [World.cell?,B2]
 have g4 : x1.cell? ⟨w.heap.size,4,none⟩ = some (v4) := by simp [World.cell?,B0]
 have k4 : x1.cell? ⟨w.heap.size + 1 + 1,4,none⟩ = some (.slice none 0 0) := by simp [World.cell?,B2]
 have g5 : x1.cell? ⟨w.heap.size,5,none⟩ = some (.int .i64 v5) := by simp [World.cell?,B0]
 have k5 : x1.cell? ⟨w.heap.size + 1 + 1,5,none⟩ = some (.int .i64 0) := by simp [World.cell?,B2]
 have g6 : x1.cell? ⟨w.heap.size,6,none⟩ = some (v6) := by simp [World.cell?,B0]
 have k6 : x1.cell? ⟨w.heap.size + 1 + 1,6,none⟩ = some (.slice none 0 0) := by simp [World.cell?,B2]
 have g7 : x1.cell? ⟨w.heap.size,7,none⟩ = some (v7) := by simp [World.cell?,B0]
 have k7 : x1.cell? ⟨w.heap.size + 1 + 1,7,none⟩ = some (.slice none 0 0) := by simp [World.cell?,B2]
 have f2 : ∀ j,x1.frozen? ⟨w.heap.size + 1 + 1,j,none⟩ = false := fun j => by simp [World.frozen?,B2]
 go_wp2_with (fail)
 go_at_call 32
 have D0 : ((x1.setCell ⟨w.heap.size + 1 + 1,1,none⟩ (.slice ad1 n1 cp1)).setCell ⟨w.heap.size + 1 + 1,2,none⟩ (.int .i64 v2)).heap[w.heap.size]? = some (.cells #[v0,v1,.int .i64 v2,v3,v4,.int .i64 v5,v6,v7] 29) := by rw [setCell_block _ _ _ _ _ (by omega),setCell_block _ _ _ _ _ (by omega)]; exact B0
 have D1 : ((x1.setCell ⟨w.heap.size + 1 + 1,1,none⟩ (.slice ad1 n1 cp1)).setCell ⟨w.heap.size + 1 + 1,2,none⟩ (.int .i64 v2)).heap[w.heap.size + 1]? = some (.cells #[.slice none 0 0,.slice none 0 0,.int .i64 0,.slice none 0 0,.slice none 0 0,.int .i64 0,.slice none 0 0,.slice none 0 0] 40) := by rw [setCell_block _ _ _ _ _ (by omega),setCell_block _ _ _ _ _ (by omega)]; exact B1
 have D2 : ((x1.setCell ⟨w.heap.size + 1 + 1,1,none⟩ (.slice ad1 n1 cp1)).setCell ⟨w.heap.size + 1 + 1,2,none⟩ (.int .i64 v2)).heap[w.heap.size + 1 + 1]? = some (.cells #[.slice ad0 n0 cp0,.slice ad1 n1 cp1,.int .i64 v2,.slice none 0 0,.slice none 0 0,.int .i64 0,.slice none 0 0,.slice none 0 0] 40) := (setCell_at (setCell_at B2 _ _) _ _)
 have L2 : Lo w.heap.size w ((x1.setCell ⟨w.heap.size + 1 + 1,1,none⟩ (.slice ad1 n1 cp1)).setCell ⟨w.heap.size + 1 + 1,2,none⟩ (.int .i64 v2)) := (Lo.setCell (Lo.setCell L (by omega)) (by omega))
 have Z2 : w.heap.size + 3 ≤ ((x1.setCell ⟨w.heap.size + 1 + 1,1,none⟩ (.slice ad1 n1 cp1)).setCell ⟨w.heap.size + 1 + 1,2,none⟩ (.int .i64 v2)).heap.size := by simp only [setCell_size]; exact Z
 have P02 : Q 0 (.slice ad0 n0 cp0) lo0 hi0 ((x1.setCell ⟨w.heap.size + 1 + 1,1,none⟩ (.slice ad1 n1 cp1)).setCell ⟨w.heap.size + 1 + 1,2,none⟩ (.int .i64 v2)) := hP _ _ _ _ _ _ p0 u0 (fun c c1 c2 => by rw [setCell_block _ _ _ _ _ (by omega),setCell_block _ _ _ _ _ (by omega)]) (by simp only [setCell_size]; exact Nat.le_refl _)
 have U02 : hi0 ≤ ((x1.setCell ⟨w.heap.size + 1 + 1,1,none⟩ (.slice ad1 n1 cp1)).setCell ⟨w.heap.size + 1 + 1,2,none⟩ (.int .i64 v2)).heap.size := by simp only [setCell_size]; exact u0
 have P12 : Q 1 (.slice ad1 n1 cp1) lo1 hi1 ((x1.setCell ⟨w.heap.size + 1 + 1,1,none⟩ (.slice ad1 n1 cp1)).setCell ⟨w.heap.size + 1 + 1,2,none⟩ (.int .i64 v2)) := hP _ _ _ _ _ _ p1 u1 (fun c c1 c2 => by rw [setCell_block _ _ _ _ _ (by omega),setCell_block _ _ _ _ _ (by omega)]) (by simp only [setCell_size]; exact Nat.le_refl _)
 have U12 : hi1 ≤ ((x1.setCell ⟨w.heap.size + 1 + 1,1,none⟩ (.slice ad1 n1 cp1)).setCell ⟨w.heap.size + 1 + 1,2,none⟩ (.int .i64 v2)).heap.size := by simp only [setCell_size]; exact u1
 clear B0 B1 B2 L Z p0 u0 p1 u1 g0 g1 g2 g3 g4 g5 g6 g7 k0 k1 k2 k3 k4 k5 k6 k7 f2
 generalize ((x1.setCell ⟨w.heap.size + 1 + 1,1,none⟩ (.slice ad1 n1 cp1)).setCell ⟨w.heap.size + 1 + 1,2,none⟩ (.int .i64 v2)) = y3 at *
 have B0 := D0
 clear D0
 have B1 := D1
 clear D1
 have B2 := D2
 clear D2
 have L := L2
 clear L2
 have Z := Z2
 clear Z2
 have p0 := P02
 clear P02
 have p1 := P12
 clear P12
 have u0 := U02
 clear U02
 have u1 := U12
 clear U12
 refine (h3 y3 L).mono ?_
 rintro e x3 ⟨ad3,n3,cp3,rfl,hx,p3⟩
 have hxs := hx.size
 replace B0 := (hx.block (w.heap.size) (by omega)).trans B0
 replace B1 := (hx.block (w.heap.size + 1) (by omega)).trans B1
 replace B2 := (hx.block (w.heap.size + 1 + 1) (by omega)).trans B2
 obtain ⟨lo3,hlo3⟩ : ∃ l,l = y3.heap.size := ⟨_,rfl⟩
 obtain ⟨hi3,hhi3⟩ : ∃ l,l = x3.heap.size := ⟨_,rfl⟩
 rw [← hlo3,← hhi3] at p3
 have i3 : lo3 ≤ hi3 ∧ hi1 ≤ lo3 := by omega
 replace p0 := hP _ _ _ _ _ _ p0 u0 (fun c c1 c2 => hx.block c (by omega)) hx.size
 replace u0 : hi0 ≤ x3.heap.size := by omega
 replace p1 := hP _ _ _ _ _ _ p1 u1 (fun c c1 c2 => hx.block c (by omega)) hx.size
 replace u1 : hi1 ≤ x3.heap.size := by omega
 have u3 : hi3 ≤ x3.heap.size := by omega
 replace L := L.trans (hx.mono (by omega : w.heap.size ≤ y3.heap.size))
 replace Z : w.heap.size + 3 ≤ x3.heap.size := by omega
 clear hx hxs hlo3 hhi3
 have g0 : x3.cell? ⟨w.heap.size,0,none⟩ = some (v0) := by simp [World.cell?,B0]
 have k0 : x3.cell? ⟨w.heap.size + 1 + 1,0,none⟩ = some (.slice ad0 n0 cp0) := by simp [World.cell?,B2]
 have g1 : x3.cell? ⟨w.heap.size,1,none⟩ = some (v1) := by simp [World.cell?,B0]
 have k1 : x3.cell? ⟨w.heap.size + 1 + 1,1,none⟩ = some (.slice ad1 n1 cp1) := by simp [World.cell?,B2]
 have g2 : x3.cell? ⟨w.heap.size,2,none⟩ = some (.int .i64 v2) := by simp [World.cell?,B0]
 have k2 : x3.cell? ⟨w.heap.size + 1 + 1,2,none⟩ = some (.int .i64 v2) := by simp [World.cell?,B2]
 have g3 : x3.cell? ⟨w.heap.size,3,none⟩ = some (v3) := by simp [World.cell?,B0]
 have k3 : x3.cell? ⟨w.heap.size + 1 + 1,3,none⟩ = some (.slice none 0 0) := by simp [World.cell?,B2]
 have g4 : x3.cell? ⟨w.heap.size,4,none⟩ = some (v4) := by simp [World.cell?,B0]
 have k4 : x3.cell? ⟨w.heap.size + 1 + 1,4,none⟩ = some (.slice none 0 0) := by simp [World.cell?,B2]
 have g5 : x3.cell? ⟨w.heap.size,5,none⟩ = some (.int .i64 v5) := by simp [World.cell?,B0]
 have k5 : x3.cell? ⟨w.heap.size + 1 + 1,5,none⟩ = some (.int .i64 0) := by simp [World.cell?,B2]
 have g6 : x3.cell? ⟨w.heap.size,6,none⟩ = some (v6) := by simp [World.cell?,B0]
 have k6 : x3.cell? ⟨w.heap.size + 1 + 1,6,none⟩ = some (.slice none 0 0) := by simp [World.cell?,B2]
 have g7 : x3.cell? ⟨w.heap.size,7,none⟩ = some (v7) := by simp [World.cell?,B0]
 have k7 : x3.cell? ⟨w.heap.size + 1 + 1,7,none⟩ = some (.slice none 0 0) := by simp [World.cell?,B2]
 have f2 : ∀ j,x3.frozen? ⟨w.heap.size + 1 + 1,j,none⟩ = false := fun j => by simp [World.frozen?,B2]
 go_wp2_with (fail)
 go_at_call 33
 have D0 : (x3.setCell ⟨w.heap.size + 1 + 1,3,none⟩ (.slice ad3 n3 cp3)).heap[w.heap.size]? = some (.cells #[v0,v1,.int .i64 v2,v3,v4,.int .i64 v5,v6,v7] 29) := by rw [setCell_block _ _ _ _ _ (by omega)]; exact B0
 have D1 : (x3.setCell ⟨w.heap.size + 1 + 1,3,none⟩ (.slice ad3 n3 cp3)).heap[w.heap.size + 1]? = some (.cells #[.slice none 0 0,.slice none 0 0,.int .i64 0,.slice none 0 0,.slice none 0 0,.int .i64 0,.slice none 0 0,.slice none 0 0] 40) := by rw [setCell_block _ _ _ _ _ (by omega)]; exact B1
 have D2 : (x3.setCell ⟨w.heap.size + 1 + 1,3,none⟩ (.slice ad3 n3 cp3)).heap[w.heap.size + 1 + 1]? = some (.cells #[.slice ad0 n0 cp0,.slice ad1 n1 cp1,.int .i64 v2,.slice ad3 n3 cp3,.slice none 0 0,.int .i64 0,.slice none 0 0,.slice none 0 0] 40) := (setCell_at B2 _ _)
 have L2 : Lo w.heap.size w (x3.setCell ⟨w.heap.size + 1 + 1,3,none⟩ (.slice ad3 n3 cp3)) := (Lo.setCell L (by omega))
 have Z2 : w.heap.size + 3 ≤ (x3.setCell ⟨w.heap.size + 1 + 1,3,none⟩ (.slice ad3 n3 cp3)).heap.size := by simp only [setCell_size]; exact Z
 have P02 : Q 0 (.slice ad0 n0 cp0) lo0 hi0 (x3.setCell ⟨w.heap.size + 1 + 1,3,none⟩ (.slice ad3 n3 cp3)) := hP _ _ _ _ _ _ p0 u0 (fun c c1 c2 => by rw [setCell_block _ _ _ _ _ (by omega)]) (by simp only [setCell_size]; exact Nat.le_refl _)
 have U02 : hi0 ≤ (x3.setCell ⟨w.heap.size + 1 + 1,3,none⟩ (.slice ad3 n3 cp3)).heap.size := by simp only [setCell_size]; exact u0
 have P12 : Q 1 (.slice ad1 n1 cp1) lo1 hi1 (x3.setCell ⟨w.heap.size + 1 + 1,3,none⟩ (.slice ad3 n3 cp3)) := hP _ _ _ _ _ _ p1 u1 (fun c c1 c2 => by rw [setCell_block _ _ _ _ _ (by omega)]) (by simp only [setCell_size]; exact Nat.le_refl _)
 have U12 : hi1 ≤ (x3.setCell ⟨w.heap.size + 1 + 1,3,none⟩ (.slice ad3 n3 cp3)).heap.size := by simp only [setCell_size]; exact u1
 have P32 : Q 3 (.slice ad3 n3 cp3) lo3 hi3 (x3.setCell ⟨w.heap.size + 1 + 1,3,none⟩ (.slice ad3 n3 cp3)) := hP _ _ _ _ _ _ p3 u3 (fun c c1 c2 => by rw [setCell_block _ _ _ _ _ (by omega)]) (by simp only [setCell_size]; exact Nat.le_refl _)
 have U32 : hi3 ≤ (x3.setCell ⟨w.heap.size + 1 + 1,3,none⟩ (.slice ad3 n3 cp3)).heap.size := by simp only [setCell_size]; exact u3
 clear B0 B1 B2 L Z p0 u0 p1 u1 p3 u3 g0 g1 g2 g3 g4 g5 g6 g7 k0 k1 k2 k3 k4 k5 k6 k7 f2
 generalize (x3.setCell ⟨w.heap.size + 1 + 1,3,none⟩ (.slice ad3 n3 cp3)) = y4 at *
 have B0 := D0
 clear D0
 have B1 := D1
 clear D1
 have B2 := D2
 clear D2
 have L := L2
 clear L2
 have Z := Z2
 clear Z2
 have p0 := P02
 clear P02
 have p1 := P12
 clear P12
 have p3 := P32
 clear P32
 have u0 := U02
 clear U02
 have u1 := U12
 clear U12
 have u3 := U32
 clear U32
 refine (h4 y4 L).mono ?_
 rintro e x4 ⟨ad4,n4,cp4,rfl,hx,p4⟩
 have hxs := hx.size
 replace B0 := (hx.block (w.heap.size) (by omega)).trans B0
 replace B1 := (hx.block (w.heap.size + 1) (by omega)).trans B1
 replace B2 := (hx.block (w.heap.size + 1 + 1) (by omega)).trans B2
 obtain ⟨lo4,hlo4⟩ : ∃ l,l = y4.heap.size := ⟨_,rfl⟩
 obtain ⟨hi4,hhi4⟩ : ∃ l,l = x4.heap.size := ⟨_,rfl⟩
 rw [← hlo4,← hhi4] at p4
 have i4 : lo4 ≤ hi4 ∧ hi3 ≤ lo4 := by omega
 replace p0 := hP _ _ _ _ _ _ p0 u0 (fun c c1 c2 => hx.block c (by omega)) hx.size
 replace u0 : hi0 ≤ x4.heap.size := by omega
 replace p1 := hP _ _ _ _ _ _ p1 u1 (fun c c1 c2 => hx.block c (by omega)) hx.size
 replace u1 : hi1 ≤ x4.heap.size := by omega
 replace p3 := hP _ _ _ _ _ _ p3 u3 (fun c c1 c2 => hx.block c (by omega)) hx.size
 replace u3 : hi3 ≤ x4.heap.size := by omega
 have u4 : hi4 ≤ x4.heap.size := by omega
 replace L := L.trans (hx.mono (by omega : w.heap.size ≤ y4.heap.size))
 replace Z : w.heap.size + 3 ≤ x4.heap.size := by omega
 clear hx hxs hlo4 hhi4
 have g0 : x4.cell? ⟨w.heap.size,0,none⟩ = some (v0) := by simp [World.cell?,B0]
 have k0 : x4.cell? ⟨w.heap.size + 1 + 1,0,none⟩ = some (.slice ad0 n0 cp0) := by simp [World.cell?,B2]
 have g1 : x4.cell? ⟨w.heap.size,1,none⟩ = some (v1) := by simp [World.cell?,B0]
 have k1 : x4.cell? ⟨w.heap.size + 1 + 1,1,none⟩ = some (.slice ad1 n1 cp1) := by simp [World.cell?,B2]
 have g2 : x4.cell? ⟨w.heap.size,2,none⟩ = some (.int .i64 v2) := by simp [World.cell?,B0]
 have k2 : x4.cell? ⟨w.heap.size + 1 + 1,2,none⟩ = some (.int .i64 v2) := by simp [World.cell?,B2]
 have g3 : x4.cell? ⟨w.heap.size,3,none⟩ = some (v3) := by simp [World.cell?,B0]
 have k3 : x4.cell? ⟨w.heap.size + 1 + 1,3,none⟩ = some (.slice ad3 n3 cp3) := by simp [World.cell?,B2]
 have g4 : x4.cell? ⟨w.heap.size,4,none⟩ = some (v4) := by simp [World.cell?,B0]
 have k4 : x4.cell? ⟨w.heap.size + 1 + 1,4,none⟩ = some (.slice none 0 0) := by simp [World.cell?,B2]
 have g5 : x4.cell? ⟨w.heap.size,5,none⟩ = some (.int .i64 v5) := by simp [World.cell?,B0]
 have k5 : x4.cell? ⟨w.heap.size + 1 + 1,5,none⟩ = some (.int .i64 0) := by simp [World.cell?,B2]
 have g6 : x4.cell? ⟨w.heap.size,6,none⟩ = some (v6) := by simp [World.cell?,B0]
 have k6 : x4.cell? ⟨w.heap.size + 1 + 1,6,none⟩ = some (.slice none 0 0) := by simp [World.cell?,B2]
 have g7 : x4.cell? ⟨w.heap.size,7,none⟩ = some (v7) := by simp [World.cell?,B0]
 have k7 : x4.cell? ⟨w.heap.size + 1 + 1,7,none⟩ = some (.slice none 0 0) := by simp [World.cell?,B2]
 have f2 : ∀ j,x4.frozen? ⟨w.heap.size + 1 + 1,j,none⟩ = false := fun j => by simp [World.frozen?,B2]
 go_wp2_with (fail)
 go_at_call 34
 have D0 : ((x4.setCell ⟨w.heap.size + 1 + 1,4,none⟩ (.slice ad4 n4 cp4)).setCell ⟨w.heap.size + 1 + 1,5,none⟩ (.int .i64 v5)).heap[w.heap.size]? = some (.cells #[v0,v1,.int .i64 v2,v3,v4,.int .i64 v5,v6,v7] 29) := by rw [setCell_block _ _ _ _ _ (by omega),setCell_block _ _ _ _ _ (by omega)]; exact B0
 have D1 : ((x4.setCell ⟨w.heap.size + 1 + 1,4,none⟩ (.slice ad4 n4 cp4)).setCell ⟨w.heap.size + 1 + 1,5,none⟩ (.int .i64 v5)).heap[w.heap.size + 1]? = some (.cells #[.slice none 0 0,.slice none 0 0,.int .i64 0,.slice none 0 0,.slice none 0 0,.int .i64 0,.slice none 0 0,.slice none 0 0] 40) := by rw [setCell_block _ _ _ _ _ (by omega),setCell_block _ _ _ _ _ (by omega)]; exact B1
 have D2 : ((x4.setCell ⟨w.heap.size + 1 + 1,4,none⟩ (.slice ad4 n4 cp4)).setCell ⟨w.heap.size + 1 + 1,5,none⟩ (.int .i64 v5)).heap[w.heap.size + 1 + 1]? = some (.cells #[.slice ad0 n0 cp0,.slice ad1 n1 cp1,.int .i64 v2,.slice ad3 n3 cp3,.slice ad4 n4 cp4,.int .i64 v5,.slice none 0 0,.slice none 0 0] 40) := (setCell_at (setCell_at B2 _ _) _ _)
 have L2 : Lo w.heap.size w ((x4.setCell ⟨w.heap.size + 1 + 1,4,none⟩ (.slice ad4 n4 cp4)).setCell ⟨w.heap.size + 1 + 1,5,none⟩ (.int .i64 v5)) := (Lo.setCell (Lo.setCell L (by omega)) (by omega))
 have Z2 : w.heap.size + 3 ≤ ((x4.setCell ⟨w.heap.size + 1 + 1,4,none⟩ (.slice ad4 n4 cp4)).setCell ⟨w.heap.size + 1 + 1,5,none⟩ (.int .i64 v5)).heap.size := by simp only [setCell_size]; exact Z
 have P02 : Q 0 (.slice ad0 n0 cp0) lo0 hi0 ((x4.setCell ⟨w.heap.size + 1 + 1,4,none⟩ (.slice ad4 n4 cp4)).setCell ⟨w.heap.size + 1 + 1,5,none⟩ (.int .i64 v5)) := hP _ _ _ _ _ _ p0 u0 (fun c c1 c2 => by rw [setCell_block _ _ _ _ _ (by omega),setCell_block _ _ _ _ _ (by omega)]) (by simp only [setCell_size]; exact Nat.le_refl _)
 have U02 : hi0 ≤ ((x4.setCell ⟨w.heap.size + 1 + 1,4,none⟩ (.slice ad4 n4 cp4)).setCell ⟨w.heap.size + 1 + 1,5,none⟩ (.int .i64 v5)).heap.size := by simp only [setCell_size]; exact u0
 have P12 : Q 1 (.slice ad1 n1 cp1) lo1 hi1 ((x4.setCell ⟨w.heap.size + 1 + 1,4,none⟩ (.slice ad4 n4 cp4)).setCell ⟨w.heap.size + 1 + 1,5,none⟩ (.int .i64 v5)) := hP _ _ _ _ _ _ p1 u1 (fun c c1 c2 => by rw [setCell_block _ _ _ _ _ (by omega),setCell_block _ _ _ _ _ (by omega)]) (by simp only [setCell_size]; exact Nat.le_refl _)
 have U12 : hi1 ≤ ((x4.setCell ⟨w.heap.size + 1 + 1,4,none⟩ (.slice ad4 n4 cp4)).setCell ⟨w.heap.size + 1 + 1,5,none⟩ (.int .i64 v5)).heap.size := by simp only [setCell_size]; exact u1
 have P32 : Q 3 (.slice ad3 n3 cp3) lo3 hi3 ((x4.setCell ⟨w.heap.size + 1 + 1,4,none⟩ (.slice ad4 n4 cp4)).setCell ⟨w.heap.size + 1 + 1,5,none⟩ (.int .i64 v5)) := hP _ _ _ _ _ _ p3 u3 (fun c c1 c2 => by rw [setCell_block _ _ _ _ _ (by omega),setCell_block _ _ _ _ _ (by omega)]) (by simp only [setCell_size]; exact Nat.le_refl _)
 have U32 : hi3 ≤ ((x4.setCell ⟨w.heap.size + 1 + 1,4,none⟩ (.slice ad4 n4 cp4)).setCell ⟨w.heap.size + 1 + 1,5,none⟩ (.int .i64 v5)).heap.size := by simp only [setCell_size]; exact u3
 have P42 : Q 4 (.slice ad4 n4 cp4) lo4 hi4 ((x4.setCell ⟨w.heap.size + 1 + 1,4,none⟩ (.slice ad4 n4 cp4)).setCell ⟨w.heap.size + 1 + 1,5,none⟩ (.int .i64 v5)) := hP _ _ _ _ _ _ p4 u4 (fun c c1 c2 => by rw [setCell_block _ _ _ _ _ (by omega),setCell_block _ _ _ _ _ (by omega)]) (by simp only [setCell_size]; exact Nat.le_refl _)
 have U42 : hi4 ≤ ((x4.setCell ⟨w.heap.size + 1 + 1,4,none⟩ (.slice ad4 n4 cp4)).setCell ⟨w.heap.size + 1 + 1,5,none⟩ (.int .i64 v5)).heap.size := by simp only [setCell_size]; exact u4
 clear B0 B1 B2 L Z p0 u0 p1 u1 p3 u3 p4 u4 g0 g1 g2 g3 g4 g5 g6 g7 k0 k1 k2 k3 k4 k5 k6 k7 f2
 generalize ((x4.setCell ⟨w.heap.size + 1 + 1,4,none⟩ (.slice ad4 n4 cp4)).setCell ⟨w.heap.size + 1 + 1,5,none⟩ (.int .i64 v5)) = y6 at *
 have B0 := D0
 clear D0
 have B1 := D1
 clear D1
 have B2 := D2
 clear D2
 have L := L2
 clear L2
 have Z := Z2
 clear Z2
 have p0 := P02
 clear P02
 have p1 := P12
 clear P12
 have p3 := P32
 clear P32
 have p4 := P42
 clear P42
 have u0 := U02
 clear U02
 have u1 := U12
 clear U12
 have u3 := U32
 clear U32
 have u4 := U42
 clear U42
 refine (h6 y6 L).mono ?_
 rintro e x6 ⟨ad6,n6,cp6,rfl,hx,p6⟩
 have hxs := hx.size
 replace B0 := (hx.block (w.heap.size) (by omega)).trans B0
 replace B1 := (hx.block (w.heap.size + 1) (by omega)).trans B1
 replace B2 := (hx.block (w.heap.size + 1 + 1) (by omega)).trans B2
 obtain ⟨lo6,hlo6⟩ : ∃ l,l = y6.heap.size := ⟨_,rfl⟩
 obtain ⟨hi6,hhi6⟩ : ∃ l,l = x6.heap.size := ⟨_,rfl⟩
 rw [← hlo6,← hhi6] at p6
 have i6 : lo6 ≤ hi6 ∧ hi4 ≤ lo6 := by omega
 replace p0 := hP _ _ _ _ _ _ p0 u0 (fun c c1 c2 => hx.block c (by omega)) hx.size
 replace u0 : hi0 ≤ x6.heap.size := by omega
 replace p1 := hP _ _ _ _ _ _ p1 u1 (fun c c1 c2 => hx.block c (by omega)) hx.size
 replace u1 : hi1 ≤ x6.heap.size := by omega
 replace p3 := hP _ _ _ _ _ _ p3 u3 (fun c c1 c2 => hx.block c (by omega)) hx.size
 replace u3 : hi3 ≤ x6.heap.size := by omega
 replace p4 := hP _ _ _ _ _ _ p4 u4 (fun c c1 c2 => hx.block c (by omega)) hx.size
 replace u4 : hi4 ≤ x6.heap.size := by omega
 have u6 : hi6 ≤ x6.heap.size := by omega
 replace L := L.trans (hx.mono (by omega : w.heap.size ≤ y6.heap.size))
 replace Z : w.heap.size + 3 ≤ x6.heap.size := by omega
 clear hx hxs hlo6 hhi6
 have g0 : x6.cell? ⟨w.heap.size,0,none⟩ = some (v0) := by simp [World.cell?,B0]
 have k0 : x6.cell? ⟨w.heap.size + 1 + 1,0,none⟩ = some (.slice ad0 n0 cp0) := by simp [World.cell?,B2]
 have g1 : x6.cell? ⟨w.heap.size,1,none⟩ = some (v1) := by simp [World.cell?,B0]
 have k1 : x6.cell? ⟨w.heap.size + 1 + 1,1,none⟩ = some (.slice ad1 n1 cp1) := by simp [World.cell?,B2]
 have g2 : x6.cell? ⟨w.heap.size,2,none⟩ = some (.int .i64 v2) := by simp [World.cell?,B0]
 have k2 : x6.cell? ⟨w.heap.size + 1 + 1,2,none⟩ = some (.int .i64 v2) := by simp [World.cell?,B2]
 have g3 : x6.cell? ⟨w.heap.size,3,none⟩ = some (v3) := by simp [World.cell?,B0]
 have k3 : x6.cell? ⟨w.heap.size + 1 + 1,3,none⟩ = some (.slice ad3 n3 cp3) := by simp [World.cell?,B2]
 have g4 : x6.cell? ⟨w.heap.size,4,none⟩ = some (v4) := by simp [World.cell?,B0]
 have k4 : x6.cell? ⟨w.heap.size + 1 + 1,4,none⟩ = some (.slice ad4 n4 cp4) := by simp [World.cell?,B2]
 have g5 : x6.cell? ⟨w.heap.size,5,none⟩ = some (.int .i64 v5) := by simp [World.cell?,B0]
 have k5 : x6.cell? ⟨w.heap.size + 1 + 1,5,none⟩ = some (.int .i64 v5) := by simp [World.cell?,B2]
 have g6 : x6.cell? ⟨w.heap.size,6,none⟩ = some (v6) := by simp [World.cell?,B0]
 have k6 : x6.cell? ⟨w.heap.size + 1 + 1,6,none⟩ = some (.slice none 0 0) := by simp [World.cell?,B2]
 have g7 : x6.cell? ⟨w.heap.size,7,none⟩ = some (v7) := by simp [World.cell?,B0]
 have k7 : x6.cell? ⟨w.heap.size + 1 + 1,7,none⟩ = some (.slice none 0 0) := by simp [World.cell?,B2]
 have f2 : ∀ j,x6.frozen? ⟨w.heap.size + 1 + 1,j,none⟩ = false := fun j => by simp [World.frozen?,B2]
 go_wp2_with (fail)
 go_at_call 35
 have D0 : (x6.setCell ⟨w.heap.size + 1 + 1,6,none⟩ (.slice ad6 n6 cp6)).heap[w.heap.size]? = some (.cells #[v0,v1,.int .i64 v2,v3,v4,.int .i64 v5,v6,v7] 29) := by rw [setCell_block _ _ _ _ _ (by omega)]; exact B0
 have D1 : (x6.setCell ⟨w.heap.size + 1 + 1,6,none⟩ (.slice ad6 n6 cp6)).heap[w.heap.size + 1]? = some (.cells #[.slice none 0 0,.slice none 0 0,.int .i64 0,.slice none 0 0,.slice none 0 0,.int .i64 0,.slice none 0 0,.slice none 0 0] 40) := by rw [setCell_block _ _ _ _ _ (by omega)]; exact B1
 have D2 : (x6.setCell ⟨w.heap.size + 1 + 1,6,none⟩ (.slice ad6 n6 cp6)).heap[w.heap.size + 1 + 1]? = some (.cells #[.slice ad0 n0 cp0,.slice ad1 n1 cp1,.int .i64 v2,.slice ad3 n3 cp3,.slice ad4 n4 cp4,.int .i64 v5,.slice ad6 n6 cp6,.slice none 0 0] 40) := (setCell_at B2 _ _)
 have L2 : Lo w.heap.size w (x6.setCell ⟨w.heap.size + 1 + 1,6,none⟩ (.slice ad6 n6 cp6)) := (Lo.setCell L (by omega))
 have Z2 : w.heap.size + 3 ≤ (x6.setCell ⟨w.heap.size + 1 + 1,6,none⟩ (.slice ad6 n6 cp6)).heap.size := by simp only [setCell_size]; exact Z
 have P02 : Q 0 (.slice ad0 n0 cp0) lo0 hi0 (x6.setCell ⟨w.heap.size + 1 + 1,6,none⟩ (.slice ad6 n6 cp6)) := hP _ _ _ _ _ _ p0 u0 (fun c c1 c2 => by rw [setCell_block _ _ _ _ _ (by omega)]) (by simp only [setCell_size]; exact Nat.le_refl _)
 have U02 : hi0 ≤ (x6.setCell ⟨w.heap.size + 1 + 1,6,none⟩ (.slice ad6 n6 cp6)).heap.size := by simp only [setCell_size]; exact u0
 have P12 : Q 1 (.slice ad1 n1 cp1) lo1 hi1 (x6.setCell ⟨w.heap.size + 1 + 1,6,none⟩ (.slice ad6 n6 cp6)) := hP _ _ _ _ _ _ p1 u1 (fun c c1 c2 => by rw [setCell_block _ _ _ _ _ (by omega)]) (by simp only [setCell_size]; exact Nat.le_refl _)
 have U12 : hi1 ≤ (x6.setCell ⟨w.heap.size + 1 + 1,6,none⟩ (.slice ad6 n6 cp6)).heap.size := by simp only [setCell_size]; exact u1
 have P32 : Q 3 (.slice ad3 n3 cp3) lo3 hi3 (x6.setCell ⟨w.heap.size + 1 + 1,6,none⟩ (.slice ad6 n6 cp6)) := hP _ _ _ _ _ _ p3 u3 (fun c c1 c2 => by rw [setCell_block _ _ _ _ _ (by omega)]) (by simp only [setCell_size]; exact Nat.le_refl _)
 have U32 : hi3 ≤ (x6.setCell ⟨w.heap.size + 1 + 1,6,none⟩ (.slice ad6 n6 cp6)).heap.size := by simp only [setCell_size]; exact u3
 have P42 : Q 4 (.slice ad4 n4 cp4) lo4 hi4 (x6.setCell ⟨w.heap.size + 1 + 1,6,none⟩ (.slice ad6 n6 cp6)) := hP _ _ _ _ _ _ p4 u4 (fun c c1 c2 => by rw [setCell_block _ _ _ _ _ (by omega)]) (by simp only [setCell_size]; exact Nat.le_refl _)
 have U42 : hi4 ≤ (x6.setCell ⟨w.heap.size + 1 + 1,6,none⟩ (.slice ad6 n6 cp6)).heap.size := by simp only [setCell_size]; exact u4
 have P62 : Q 6 (.slice ad6 n6 cp6) lo6 hi6 (x6.setCell ⟨w.heap.size + 1 + 1,6,none⟩ (.slice ad6 n6 cp6)) := hP _ _ _ _ _ _ p6 u6 (fun c c1 c2 => by rw [setCell_block _ _ _ _ _ (by omega)]) (by simp only [setCell_size]; exact Nat.le_refl _)
 have U62 : hi6 ≤ (x6.setCell ⟨w.heap.size + 1 + 1,6,none⟩ (.slice ad6 n6 cp6)).heap.size := by simp only [setCell_size]; exact u6
 clear B0 B1 B2 L Z p0 u0 p1 u1 p3 u3 p4 u4 p6 u6 g0 g1 g2 g3 g4 g5 g6 g7 k0 k1 k2 k3 k4 k5 k6 k7 f2
 generalize (x6.setCell ⟨w.heap.size + 1 + 1,6,none⟩ (.slice ad6 n6 cp6)) = y7 at *
 have B0 := D0
 clear D0
 have B1 := D1
 clear D1
 have B2 := D2
 clear D2
 have L := L2
 clear L2
 have Z := Z2
 clear Z2
 have p0 := P02
 clear P02
 have p1 := P12
 clear P12
 have p3 := P32
 clear P32
 have p4 := P42
 clear P42
 have p6 := P62
 clear P62
 have u0 := U02
 clear U02
 have u1 := U12
 clear U12
 have u3 := U32
 clear U32
 have u4 := U42
 clear U42
 have u6 := U62
 clear U62
 refine (h7 y7 L).mono ?_
 rintro e x7 ⟨ad7,n7,cp7,rfl,hx,p7⟩
 have hxs := hx.size
 replace B0 := (hx.block (w.heap.size) (by omega)).trans B0
 replace B1 := (hx.block (w.heap.size + 1) (by omega)).trans B1
 replace B2 := (hx.block (w.heap.size + 1 + 1) (by omega)).trans B2
 obtain ⟨lo7,hlo7⟩ : ∃ l,l = y7.heap.size := ⟨_,rfl⟩
 obtain ⟨hi7,hhi7⟩ : ∃ l,l = x7.heap.size := ⟨_,rfl⟩
 rw [← hlo7,← hhi7] at p7
 have i7 : lo7 ≤ hi7 ∧ hi6 ≤ lo7 := by omega
 replace p0 := hP _ _ _ _ _ _ p0 u0 (fun c c1 c2 => hx.block c (by omega)) hx.size
 replace u0 : hi0 ≤ x7.heap.size := by omega
 replace p1 := hP _ _ _ _ _ _ p1 u1 (fun c c1 c2 => hx.block c (by omega)) hx.size
 replace u1 : hi1 ≤ x7.heap.size := by omega
 replace p3 := hP _ _ _ _ _ _ p3 u3 (fun c c1 c2 => hx.block c (by omega)) hx.size
 replace u3 : hi3 ≤ x7.heap.size := by omega
 replace p4 := hP _ _ _ _ _ _ p4 u4 (fun c c1 c2 => hx.block c (by omega)) hx.size
 replace u4 : hi4 ≤ x7.heap.size := by omega
 replace p6 := hP _ _ _ _ _ _ p6 u6 (fun c c1 c2 => hx.block c (by omega)) hx.size
 replace u6 : hi6 ≤ x7.heap.size := by omega
 have u7 : hi7 ≤ x7.heap.size := by omega
 replace L := L.trans (hx.mono (by omega : w.heap.size ≤ y7.heap.size))
 replace Z : w.heap.size + 3 ≤ x7.heap.size := by omega
 clear hx hxs hlo7 hhi7
 have g0 : x7.cell? ⟨w.heap.size,0,none⟩ = some (v0) := by simp [World.cell?,B0]
 have k0 : x7.cell? ⟨w.heap.size + 1 + 1,0,none⟩ = some (.slice ad0 n0 cp0) := by simp [World.cell?,B2]
 have g1 : x7.cell? ⟨w.heap.size,1,none⟩ = some (v1) := by simp [World.cell?,B0]
 have k1 : x7.cell? ⟨w.heap.size + 1 + 1,1,none⟩ = some (.slice ad1 n1 cp1) := by simp [World.cell?,B2]
 have g2 : x7.cell? ⟨w.heap.size,2,none⟩ = some (.int .i64 v2) := by simp [World.cell?,B0]
 have k2 : x7.cell? ⟨w.heap.size + 1 + 1,2,none⟩ = some (.int .i64 v2) := by simp [World.cell?,B2]
 have g3 : x7.cell? ⟨w.heap.size,3,none⟩ = some (v3) := by simp [World.cell?,B0]
 have k3 : x7.cell? ⟨w.heap.size + 1 + 1,3,none⟩ = some (.slice ad3 n3 cp3) := by simp [World.cell?,B2]
 have g4 : x7.cell? ⟨w.heap.size,4,none⟩ = some (v4) := by simp [World.cell?,B0]
 have k4 : x7.cell? ⟨w.heap.size + 1 + 1,4,none⟩ = some (.slice ad4 n4 cp4) := by simp [World.cell?,B2]
 have g5 : x7.cell? ⟨w.heap.size,5,none⟩ = some (.int .i64 v5) := by simp [World.cell?,B0]
 have k5 : x7.cell? ⟨w.heap.size + 1 + 1,5,none⟩ = some (.int .i64 v5) := by simp [World.cell?,B2]
 have g6 : x7.cell? ⟨w.heap.size,6,none⟩ = some (v6) := by simp [World.cell?,B0]
 have k6 : x7.cell? ⟨w.heap.size + 1 + 1,6,none⟩ = some (.slice ad6 n6 cp6) := by simp [World.cell?,B2]
 have g7 : x7.cell? ⟨w.heap.size,7,none⟩ = some (v7) := by simp [World.cell?,B0]
 have k7 : x7.cell? ⟨w.heap.size + 1 + 1,7,none⟩ = some (.slice none 0 0) := by simp [World.cell?,B2]
 have f2 : ∀ j,x7.frozen? ⟨w.heap.size + 1 + 1,j,none⟩ = false := fun j => by simp [World.frozen?,B2]
 have z0 : x7.cell? ⟨w.heap.size + 1,0,none⟩ = some (.slice none 0 0) := by simp [World.cell?,B1]
 have z1 : x7.cell? ⟨w.heap.size + 1,1,none⟩ = some (.slice none 0 0) := by simp [World.cell?,B1]
 have z2 : x7.cell? ⟨w.heap.size + 1,2,none⟩ = some (.int .i64 0) := by simp [World.cell?,B1]
 have z3 : x7.cell? ⟨w.heap.size + 1,3,none⟩ = some (.slice none 0 0) := by simp [World.cell?,B1]
 have z4 : x7.cell? ⟨w.heap.size + 1,4,none⟩ = some (.slice none 0 0) := by simp [World.cell?,B1]
 have z5 : x7.cell? ⟨w.heap.size + 1,5,none⟩ = some (.int .i64 0) := by simp [World.cell?,B1]
 have z6 : x7.cell? ⟨w.heap.size + 1,6,none⟩ = some (.slice none 0 0) := by simp [World.cell?,B1]
 have z7 : x7.cell? ⟨w.heap.size + 1,7,none⟩ = some (.slice none 0 0) := by simp [World.cell?,B1]
 have f1 : ∀ j,x7.frozen? ⟨w.heap.size + 1,j,none⟩ = false := fun j => by simp [World.frozen?,B1]
 go_wp2_with (fail)
 refine bodyPost_ret (v := .agg #[.slice ad0 n0 cp0,.slice ad1 n1 cp1,.int .i64 v2,.slice ad3 n3 cp3,.slice ad4 n4 cp4,.int .i64 v5,.slice ad6 n6 cp6,.slice ad7 n7 cp7]) (by simp [results,Tryz.results9,go_sem,z0,z1,z2,z3,z4,z5,z6,z7,World.cell?_setCell_same',World.cell?_setCell_other]) rfl ⟨_,_,_,lo0,hi0,_,_,_,lo1,hi1,_,_,_,lo3,hi3,_,_,_,lo4,hi4,_,_,_,lo6,hi6,_,_,_,lo7,hi7,rfl,?_,?_,?_,?_,?_,?_,?_,by omega,by simp only [setCell_size]; omega⟩
 ·exact (Lo.setCell (Lo.setCell (Lo.setCell (Lo.setCell (Lo.setCell (Lo.setCell (Lo.setCell (Lo.setCell (Lo.setCell L (by omega)) (by omega)) (by omega)) (by omega)) (by omega)) (by omega)) (by omega)) (by omega)) (by omega))
 ·exact hP _ _ _ _ _ _ p0 u0 (fun c c1 c2 => by rw [setCell_block _ _ _ _ _ (by omega),setCell_block _ _ _ _ _ (by omega),setCell_block _ _ _ _ _ (by omega),setCell_block _ _ _ _ _ (by omega),setCell_block _ _ _ _ _ (by omega),setCell_block _ _ _ _ _ (by omega),setCell_block _ _ _ _ _ (by omega),setCell_block _ _ _ _ _ (by omega),setCell_block _ _ _ _ _ (by omega)]) (by simp only [setCell_size]; exact Nat.le_refl _)
 ·exact hP _ _ _ _ _ _ p1 u1 (fun c c1 c2 => by rw [setCell_block _ _ _ _ _ (by omega),setCell_block _ _ _ _ _ (by omega),setCell_block _ _ _ _ _ (by omega),setCell_block _ _ _ _ _ (by omega),setCell_block _ _ _ _ _ (by omega),setCell_block _ _ _ _ _ (by omega),setCell_block _ _ _ _ _ (by omega),setCell_block _ _ _ _ _ (by omega),setCell_block _ _ _ _ _ (by omega)]) (by simp only [setCell_size]; exact Nat.le_refl _)
 ·exact hP _ _ _ _ _ _ p3 u3 (fun c c1 c2 => by rw [setCell_block _ _ _ _ _ (by omega),setCell_block _ _ _ _ _ (by omega),setCell_block _ _ _ _ _ (by omega),setCell_block _ _ _ _ _ (by omega),setCell_block _ _ _ _ _ (by omega),setCell_block _ _ _ _ _ (by omega),setCell_block _ _ _ _ _ (by omega),setCell_block _ _ _ _ _ (by omega),setCell_block _ _ _ _ _ (by omega)]) (by simp only [setCell_size]; exact Nat.le_refl _)
 ·exact hP _ _ _ _ _ _ p4 u4 (fun c c1 c2 => by rw [setCell_block _ _ _ _ _ (by omega),setCell_block _ _ _ _ _ (by omega),setCell_block _ _ _ _ _ (by omega),setCell_block _ _ _ _ _ (by omega),setCell_block _ _ _ _ _ (by omega),setCell_block _ _ _ _ _ (by omega),setCell_block _ _ _ _ _ (by omega),setCell_block _ _ _ _ _ (by omega),setCell_block _ _ _ _ _ (by omega)]) (by simp only [setCell_size]; exact Nat.le_refl _)
 ·exact hP _ _ _ _ _ _ p6 u6 (fun c c1 c2 => by rw [setCell_block _ _ _ _ _ (by omega),setCell_block _ _ _ _ _ (by omega),setCell_block _ _ _ _ _ (by omega),setCell_block _ _ _ _ _ (by omega),setCell_block _ _ _ _ _ (by omega),setCell_block _ _ _ _ _ (by omega),setCell_block _ _ _ _ _ (by omega),setCell_block _ _ _ _ _ (by omega),setCell_block _ _ _ _ _ (by omega)]) (by simp only [setCell_size]; exact Nat.le_refl _)
 ·exact hP _ _ _ _ _ _ p7 u7 (fun c c1 c2 => by rw [setCell_block _ _ _ _ _ (by omega),setCell_block _ _ _ _ _ (by omega),setCell_block _ _ _ _ _ (by omega),setCell_block _ _ _ _ _ (by omega),setCell_block _ _ _ _ _ (by omega),setCell_block _ _ _ _ _ (by omega),setCell_block _ _ _ _ _ (by omega),setCell_block _ _ _ _ _ (by omega),setCell_block _ _ _ _ _ (by omega)]) (by simp only [setCell_size]; exact Nat.le_refl _)⟩
set_option maxHeartbeats 6400000 in
theorem mark_shop_walk : MarkShopWalk Tryz.prog 13 47 48 49 50 51 52 := ⟨by
 intro w v0 v1 v3 v4 v6 v7 v2 v5 m0 lo hi hm hc h0 h1 h3 h4 h6 h7
 go_enter Tryz.func13,Tryz.ntmps13
 go_wp2_with (fail)
 have B0 : (w.alloc (.cells #[v0,v1,.int .i64 v2,v3,v4,.int .i64 v5,v6,v7] 40)).heap[w.heap.size]? = some (.cells #[v0,v1,.int .i64 v2,v3,v4,.int .i64 v5,v6,v7] 40) := get_new _ _ rfl
 have R : Rg (fun c => lo 0 ≤ c ∧ c < hi 7) w (w.alloc (.cells #[v0,v1,.int .i64 v2,v3,v4,.int .i64 v5,v6,v7] 40)) := Rg.of_lo ((Lo.refl _ w).alloc (Nat.le_refl _) _)
 have I0 : ∀ c,lo 0 ≤ c → c < hi 0 → (w.alloc (.cells #[v0,v1,.int .i64 v2,v3,v4,.int .i64 v5,v6,v7] 40)).heap[c]? = w.heap[c]? := fun c c1 c2 => get_old _ _ (by omega)
 have I1 : ∀ c,lo 1 ≤ c → c < hi 1 → (w.alloc (.cells #[v0,v1,.int .i64 v2,v3,v4,.int .i64 v5,v6,v7] 40)).heap[c]? = w.heap[c]? := fun c c1 c2 => get_old _ _ (by omega)
 have I3 : ∀ c,lo 3 ≤ c → c < hi 3 → (w.alloc (.cells #[v0,v1,.int .i64 v2,v3,v4,.int .i64 v5,v6,v7] 40)).heap[c]? = w.heap[c]? := fun c c1 c2 => get_old _ _ (by omega)
 have I4 : ∀ c,lo 4 ≤ c → c < hi 4 → (w.alloc (.cells #[v0,v1,.int .i64 v2,v3,v4,.int .i64 v5,v6,v7] 40)).heap[c]? = w.heap[c]? := fun c c1 c2 => get_old _ _ (by omega)
 have I6 : ∀ c,lo 6 ≤ c → c < hi 6 → (w.alloc (.cells #[v0,v1,.int .i64 v2,v3,v4,.int .i64 v5,v6,v7] 40)).heap[c]? = w.heap[c]? := fun c c1 c2 => get_old _ _ (by omega)
 have I7 : ∀ c,lo 7 ≤ c → c < hi 7 → (w.alloc (.cells #[v0,v1,.int .i64 v2,v3,v4,.int .i64 v5,v6,v7] 40)).heap[c]? = w.heap[c]? := fun c c1 c2 => get_old _ _ (by omega)
 go_at_call 47
 generalize (w.alloc (.cells #[v0,v1,.int .i64 v2,v3,v4,.int .i64 v5,v6,v7] 40)) = x at *
 refine (h0 m0 x (by omega) R I0).mono ?_
 rintro e x0 ⟨m0,rfl,hm0,hx⟩
 have hxs := hx.size
 have hlt : w.heap.size < x.heap.size := by
  rcases Nat.lt_or_ge w.heap.size x.heap.size with h | h
  ·exact h
  ·rw [Array.getElem?_eq_none h] at B0; cases B0
 replace B0 := (hx.block w.heap.size hlt (by omega)).trans B0
 replace R := R.trans (hx.mono (fun c hc' => (by omega : lo 0 ≤ c ∧ c < hi 7)))
 replace I1 : ∀ c,lo 1 ≤ c → c < hi 1 → x0.heap[c]? = w.heap[c]? := fun c c1 c2 => (hx.block c (by omega) (by omega)).trans (I1 c c1 c2)
 replace I3 : ∀ c,lo 3 ≤ c → c < hi 3 → x0.heap[c]? = w.heap[c]? := fun c c1 c2 => (hx.block c (by omega) (by omega)).trans (I3 c c1 c2)
 replace I4 : ∀ c,lo 4 ≤ c → c < hi 4 → x0.heap[c]? = w.heap[c]? := fun c c1 c2 => (hx.block c (by omega) (by omega)).trans (I4 c c1 c2)
 replace I6 : ∀ c,lo 6 ≤ c → c < hi 6 → x0.heap[c]? = w.heap[c]? := fun c c1 c2 => (hx.block c (by omega) (by omega)).trans (I6 c c1 c2)
 replace I7 : ∀ c,lo 7 ≤ c → c < hi 7 → x0.heap[c]? = w.heap[c]? := fun c c1 c2 => (hx.block c (by omega) (by omega)).trans (I7 c c1 c2)
 clear hx hxs hlt
 have g1 : x0.cell? ⟨w.heap.size,1,none⟩ = some v1 := by simp [World.cell?,B0]
 have g3 : x0.cell? ⟨w.heap.size,3,none⟩ = some v3 := by simp [World.cell?,B0]
 have g4 : x0.cell? ⟨w.heap.size,4,none⟩ = some v4 := by simp [World.cell?,B0]
 have g6 : x0.cell? ⟨w.heap.size,6,none⟩ = some v6 := by simp [World.cell?,B0]
 have g7 : x0.cell? ⟨w.heap.size,7,none⟩ = some v7 := by simp [World.cell?,B0]
 go_wp2_with (fail)
 go_at_call 48
 refine (h1 m0 x0 (by omega) R I1).mono ?_
 rintro e x1 ⟨m1,rfl,hm1,hx⟩
 have hxs := hx.size
 have hlt : w.heap.size < x0.heap.size := by
  rcases Nat.lt_or_ge w.heap.size x0.heap.size with h | h
  ·exact h
  ·rw [Array.getElem?_eq_none h] at B0; cases B0
 replace B0 := (hx.block w.heap.size hlt (by omega)).trans B0
 replace R := R.trans (hx.mono (fun c hc' => (by omega : lo 0 ≤ c ∧ c < hi 7)))
 replace I3 : ∀ c,lo 3 ≤ c → c < hi 3 → x1.heap[c]? = w.heap[c]? := fun c c1 c2 => (hx.block c (by omega) (by omega)).trans (I3 c c1 c2)
 replace I4 : ∀ c,lo 4 ≤ c → c < hi 4 → x1.heap[c]? = w.heap[c]? := fun c c1 c2 => (hx.block c (by omega) (by omega)).trans (I4 c c1 c2)
 replace I6 : ∀ c,lo 6 ≤ c → c < hi 6 → x1.heap[c]? = w.heap[c]? := fun c c1 c2 => (hx.block c (by omega) (by omega)).trans (I6 c c1 c2)
 replace I7 : ∀ c,lo 7 ≤ c → c < hi 7 → x1.heap[c]? = w.heap[c]? := fun c c1 c2 => (hx.block c (by omega) (by omega)).trans (I7 c c1 c2)
 clear hx hxs hlt
 have g3 : x1.cell? ⟨w.heap.size,3,none⟩ = some v3 := by simp [World.cell?,B0]
 have g4 : x1.cell? ⟨w.heap.size,4,none⟩ = some v4 := by simp [World.cell?,B0]
 have g6 : x1.cell? ⟨w.heap.size,6,none⟩ = some v6 := by simp [World.cell?,B0]
 have g7 : x1.cell? ⟨w.heap.size,7,none⟩ = some v7 := by simp [World.cell?,B0]
 go_wp2_with (fail)
 go_at_call 49
 refine (h3 m1 x1 (by omega) R I3).mono ?_
 rintro e x3 ⟨m3,rfl,hm3,hx⟩
 have hxs := hx.size
 have hlt : w.heap.size < x1.heap.size := by
  rcases Nat.lt_or_ge w.heap.size x1.heap.size with h | h
  ·exact h
  ·rw [Array.getElem?_eq_none h] at B0; cases B0
 replace B0 := (hx.block w.heap.size hlt (by omega)).trans B0
 replace R := R.trans (hx.mono (fun c hc' => (by omega : lo 0 ≤ c ∧ c < hi 7)))
 replace I4 : ∀ c,lo 4 ≤ c → c < hi 4 → x3.heap[c]? = w.heap[c]? := fun c c1 c2 => (hx.block c (by omega) (by omega)).trans (I4 c c1 c2)
 replace I6 : ∀ c,lo 6 ≤ c → c < hi 6 → x3.heap[c]? = w.heap[c]? := fun c c1 c2 => (hx.block c (by omega) (by omega)).trans (I6 c c1 c2)
 replace I7 : ∀ c,lo 7 ≤ c → c < hi 7 → x3.heap[c]? = w.heap[c]? := fun c c1 c2 => (hx.block c (by omega) (by omega)).trans (I7 c c1 c2)
 clear hx hxs hlt
 have g4 : x3.cell? ⟨w.heap.size,4,none⟩ = some v4 := by simp [World.cell?,B0]
 have g6 : x3.cell? ⟨w.heap.size,6,none⟩ = some v6 := by simp [World.cell?,B0]
 have g7 : x3.cell? ⟨w.heap.size,7,none⟩ = some v7 := by simp [World.cell?,B0]
 go_wp2_with (fail)
 go_at_call 50
 refine (h4 m3 x3 (by omega) R I4).mono ?_
 rintro e x4 ⟨m4,rfl,hm4,hx⟩
 have hxs := hx.size
 have hlt : w.heap.size < x3.heap.size := by
  rcases Nat.lt_or_ge w.heap.size x3.heap.size with h | h
  ·exact h
  ·rw [Array.getElem?_eq_none h] at B0; cases B0
 replace B0 := (hx.block w.heap.size hlt (by omega)).trans B0
 replace R := R.trans (hx.mono (fun c hc' => (by omega : lo 0 ≤ c ∧ c < hi 7)))
 replace I6 : ∀ c,lo 6 ≤ c → c < hi 6 → x4.heap[c]? = w.heap[c]? := fun c c1 c2 => (hx.block c (by omega) (by omega)).trans (I6 c c1 c2)
 replace I7 : ∀ c,lo 7 ≤ c → c < hi 7 → x4.heap[c]? = w.heap[c]? := fun c c1 c2 => (hx.block c (by omega) (by omega)).trans (I7 c c1 c2)
 clear hx hxs hlt
 have g6 : x4.cell? ⟨w.heap.size,6,none⟩ = some v6 := by simp [World.cell?,B0]
 have g7 : x4.cell? ⟨w.heap.size,7,none⟩ = some v7 := by simp [World.cell?,B0]
 go_wp2_with (fail)
 go_at_call 51
 refine (h6 m4 x4 (by omega) R I6).mono ?_
 rintro e x6 ⟨m6,rfl,hm6,hx⟩
 have hxs := hx.size
 have hlt : w.heap.size < x4.heap.size := by
  rcases Nat.lt_or_ge w.heap.size x4.heap.size with h | h
  ·exact h
  ·rw [Array.getElem?_eq_none h] at B0; cases B0
 replace B0 := (hx.block w.heap.size hlt (by omega)).trans B0
 replace R := R.trans (hx.mono (fun c hc' => (by omega : lo 0 ≤ c ∧ c < hi 7)))
 replace I7 : ∀ c,lo 7 ≤ c → c < hi 7 → x6.heap[c]? = w.heap[c]? := fun c c1 c2 => (hx.block c (by omega) (by omega)).trans (I7 c c1 c2)
 clear hx hxs hlt
 have g7 : x6.cell? ⟨w.heap.size,7,none⟩ = some v7 := by simp [World.cell?,B0]
 go_wp2_with (fail)
 go_at_call 52
 refine (h7 m6 x6 (by omega) R I7).mono ?_
 rintro e x7 ⟨m7,rfl,hm7,hx⟩
 have hxs := hx.size
 have hlt : w.heap.size < x6.heap.size := by
  rcases Nat.lt_or_ge w.heap.size x6.heap.size with h | h
  ·exact h
  ·rw [Array.getElem?_eq_none h] at B0; cases B0
 replace B0 := (hx.block w.heap.size hlt (by omega)).trans B0
 replace R := R.trans (hx.mono (fun c hc' => (by omega : lo 0 ≤ c ∧ c < hi 7)))
 clear hx hxs hlt
 go_wp2_with (fail)
 go_ret
 exact ⟨_,rfl,by omega,R⟩⟩
set_option maxHeartbeats 12800000 in
theorem law_walk : ShopLawWalk Tryz.prog 4 7 16 9 17 11 12 13 14 15 := ⟨⟨_,Tryz.func4,by decide +kernel,rfl⟩,by
 intro w v0 v1 v3 v4 v6 v7 v2 v5 n c0 M T W0 G G2 kT kG kG2 kW hSz hTo hSp hIm hEp hEs hMk hMp hHp
 go_enter Tryz.func4,Tryz.ntmps4
 go_wp2_with (fail)
 go_at_call 7
 have B1 : (w.alloc (.cells #[v0,v1,.int .i64 v2,v3,v4,.int .i64 v5,v6,v7] 29)).heap[w.heap.size]? = some (.cells #[v0,v1,.int .i64 v2,v3,v4,.int .i64 v5,v6,v7] 29) := get_new _ _ rfl
 have L : Lo w.heap.size w (w.alloc (.cells #[v0,v1,.int .i64 v2,v3,v4,.int .i64 v5,v6,v7] 29)) := (Lo.refl _ w).alloc (Nat.le_refl _) _
 have Z : w.heap.size + 1 ≤ (w.alloc (.cells #[v0,v1,.int .i64 v2,v3,v4,.int .i64 v5,v6,v7] 29)).heap.size := by simp
 generalize (w.alloc (.cells #[v0,v1,.int .i64 v2,v3,v4,.int .i64 v5,v6,v7] 29)) = y at *
 refine (hSz y L).mono ?_
 rintro e x1 ⟨rfl,hx1⟩
 have hsx1 := hx1.size
 replace B1 := (hx1.block w.heap.size (by omega)).trans B1
 replace L := L.trans (hx1.mono (by omega : w.heap.size ≤ y.heap.size))
 replace Z : w.heap.size + 1 ≤ x1.heap.size := by omega
 have g0 : x1.cell? ⟨w.heap.size,0,none⟩ = some (v0) := by simp [World.cell?,B1]
 have g1 : x1.cell? ⟨w.heap.size,1,none⟩ = some (v1) := by simp [World.cell?,B1]
 have g2 : x1.cell? ⟨w.heap.size,2,none⟩ = some (.int .i64 v2) := by simp [World.cell?,B1]
 have g3 : x1.cell? ⟨w.heap.size,3,none⟩ = some (v3) := by simp [World.cell?,B1]
 have g4 : x1.cell? ⟨w.heap.size,4,none⟩ = some (v4) := by simp [World.cell?,B1]
 have g5 : x1.cell? ⟨w.heap.size,5,none⟩ = some (.int .i64 v5) := by simp [World.cell?,B1]
 have g6 : x1.cell? ⟨w.heap.size,6,none⟩ = some (v6) := by simp [World.cell?,B1]
 have g7 : x1.cell? ⟨w.heap.size,7,none⟩ = some (v7) := by simp [World.cell?,B1]
 go_wp2_with (fail)
 ·go_ret
  exact ⟨rfl,L⟩
 go_at_call 9
 refine (hTo x1 L).mono ?_
 rintro e x2 ⟨a1,n1,c1,rfl,hx2,t1⟩
 have hsx2 := hx2.size
 replace B1 := (hx2.block w.heap.size (by omega)).trans B1
 replace L := L.trans (hx2.mono (by omega : w.heap.size ≤ x1.heap.size))
 replace Z : w.heap.size + 1 ≤ x2.heap.size := by omega
 go_wp2_with (fail)
 go_at_call 16
 refine (hSp _ _ _ x2 L t1).mono ?_
 rintro e x3 ⟨pa,pn,pc,rfl,hx3,p0⟩
 have hsx3 := hx3.size
 replace B1 := (hx3.block w.heap.size (by omega)).trans B1
 replace L := L.trans (hx3.mono (by omega : w.heap.size ≤ x2.heap.size))
 replace Z : w.heap.size + 1 ≤ x3.heap.size := by omega
 have Z3 := Z
 clear g0 g1 g2 g3 g4 g5 g6 g7
 have g0 : x3.cell? ⟨w.heap.size,0,none⟩ = some (v0) := by simp [World.cell?,B1]
 have g1 : x3.cell? ⟨w.heap.size,1,none⟩ = some (v1) := by simp [World.cell?,B1]
 have g2 : x3.cell? ⟨w.heap.size,2,none⟩ = some (.int .i64 v2) := by simp [World.cell?,B1]
 have g3 : x3.cell? ⟨w.heap.size,3,none⟩ = some (v3) := by simp [World.cell?,B1]
 have g4 : x3.cell? ⟨w.heap.size,4,none⟩ = some (v4) := by simp [World.cell?,B1]
 have g5 : x3.cell? ⟨w.heap.size,5,none⟩ = some (.int .i64 v5) := by simp [World.cell?,B1]
 have g6 : x3.cell? ⟨w.heap.size,6,none⟩ = some (v6) := by simp [World.cell?,B1]
 have g7 : x3.cell? ⟨w.heap.size,7,none⟩ = some (v7) := by simp [World.cell?,B1]
 go_wp2_with (fail)
 go_at_call 9
 refine (hTo x3 L).mono ?_
 rintro e x4 ⟨a2,n2,c2,rfl,hx4,t2⟩
 have hsx4 := hx4.size
 replace B1 := (hx4.block w.heap.size (by omega)).trans B1
 replace L := L.trans (hx4.mono (by omega : w.heap.size ≤ x3.heap.size))
 replace Z : w.heap.size + 1 ≤ x4.heap.size := by omega
 replace p0 := kW _ _ _ _ p0 (fun c hc => hx4.block c hc) hx4.size
 clear g0 g1 g2 g3 g4 g5 g6 g7
 go_wp2_with (fail)
 go_at_call 17
 have C1 : (x4.alloc (.cells #[.slice (a2 0) (n2 0) (c2 0),.slice (a2 1) (n2 1) (c2 1),.int .i64 v2,.slice (a2 3) (n2 3) (c2 3),.slice (a2 4) (n2 4) (c2 4),.int .i64 v5,.slice (a2 6) (n2 6) (c2 6),.slice (a2 7) (n2 7) (c2 7)] 40)).heap[w.heap.size]? = some (.cells #[v0,v1,.int .i64 v2,v3,v4,.int .i64 v5,v6,v7] 29) := (get_old _ _ (by omega)).trans B1
 have B6 : (x4.alloc (.cells #[.slice (a2 0) (n2 0) (c2 0),.slice (a2 1) (n2 1) (c2 1),.int .i64 v2,.slice (a2 3) (n2 3) (c2 3),.slice (a2 4) (n2 4) (c2 4),.int .i64 v5,.slice (a2 6) (n2 6) (c2 6),.slice (a2 7) (n2 7) (c2 7)] 40)).heap[x4.heap.size]? = some (.cells #[.slice (a2 0) (n2 0) (c2 0),.slice (a2 1) (n2 1) (c2 1),.int .i64 v2,.slice (a2 3) (n2 3) (c2 3),.slice (a2 4) (n2 4) (c2 4),.int .i64 v5,.slice (a2 6) (n2 6) (c2 6),.slice (a2 7) (n2 7) (c2 7)] 40) := get_new _ _ rfl
 have L6 : Lo w.heap.size w (x4.alloc (.cells #[.slice (a2 0) (n2 0) (c2 0),.slice (a2 1) (n2 1) (c2 1),.int .i64 v2,.slice (a2 3) (n2 3) (c2 3),.slice (a2 4) (n2 4) (c2 4),.int .i64 v5,.slice (a2 6) (n2 6) (c2 6),.slice (a2 7) (n2 7) (c2 7)] 40)) := L.alloc (by omega) _
 have S6 : (x4.alloc (.cells #[.slice (a2 0) (n2 0) (c2 0),.slice (a2 1) (n2 1) (c2 1),.int .i64 v2,.slice (a2 3) (n2 3) (c2 3),.slice (a2 4) (n2 4) (c2 4),.int .i64 v5,.slice (a2 6) (n2 6) (c2 6),.slice (a2 7) (n2 7) (c2 7)] 40)).heap.size = x4.heap.size + 1 := by simp only [World.alloc,Array.size_push]
 have u2 : T (.agg #[.slice (a2 0) (n2 0) (c2 0),.slice (a2 1) (n2 1) (c2 1),.int .i64 v2,.slice (a2 3) (n2 3) (c2 3),.slice (a2 4) (n2 4) (c2 4),.int .i64 v5,.slice (a2 6) (n2 6) (c2 6),.slice (a2 7) (n2 7) (c2 7)]) x3.heap.size x4.heap.size (x4.alloc (.cells #[.slice (a2 0) (n2 0) (c2 0),.slice (a2 1) (n2 1) (c2 1),.int .i64 v2,.slice (a2 3) (n2 3) (c2 3),.slice (a2 4) (n2 4) (c2 4),.int .i64 v5,.slice (a2 6) (n2 6) (c2 6),.slice (a2 7) (n2 7) (c2 7)] 40)) := kT _ _ _ _ _ t2 (fun c _ hc => get_old _ _ hc) (by omega)
 have q0 : W0 (.slice pa pn pc) x3.heap.size (x4.alloc (.cells #[.slice (a2 0) (n2 0) (c2 0),.slice (a2 1) (n2 1) (c2 1),.int .i64 v2,.slice (a2 3) (n2 3) (c2 3),.slice (a2 4) (n2 4) (c2 4),.int .i64 v5,.slice (a2 6) (n2 6) (c2 6),.slice (a2 7) (n2 7) (c2 7)] 40)) := kW _ _ _ _ p0 (fun c hc => get_old _ _ (by omega)) (by omega)
 generalize (x4.alloc (.cells #[.slice (a2 0) (n2 0) (c2 0),.slice (a2 1) (n2 1) (c2 1),.int .i64 v2,.slice (a2 3) (n2 3) (c2 3),.slice (a2 4) (n2 4) (c2 4),.int .i64 v5,.slice (a2 6) (n2 6) (c2 6),.slice (a2 7) (n2 7) (c2 7)] 40)) = z at *
 clear B1 L t2 p0
 have B1 := C1
 have L := L6
 have t2 := u2
 have p0 := q0
 clear C1 L6 u2 q0
 replace Z : w.heap.size + 1 ≤ z.heap.size := by omega
 refine (hIm _ _ _ z L t2).mono ?_
 rintro e x5 ⟨ga,gn,gc,rfl,hx5,gx⟩
 have hsx5 := hx5.size
 replace B1 := (hx5.block w.heap.size (by omega)).trans B1
 replace L := L.trans (hx5.mono (by omega : w.heap.size ≤ z.heap.size))
 replace Z : w.heap.size + 1 ≤ x5.heap.size := by omega
 replace B6 := (hx5.block x4.heap.size (by omega)).trans B6
 replace t2 := kT _ _ _ _ _ t2 (fun c _ hc => hx5.block c (by omega)) hx5.size
 replace p0 := kW _ _ _ _ p0 (fun c hc => hx5.block c (by omega)) hx5.size
 go_wp2_with (fail)
 go_at_call 11
 refine (hEp _ _ _ _ _ x5 L gx p0).mono ?_
 rintro e x6 ⟨rfl,hx6⟩
 have hsx6 := hx6.size
 replace B1 := (hx6.block w.heap.size (by omega)).trans B1
 replace L := L.trans (hx6.mono (by omega : w.heap.size ≤ x5.heap.size))
 replace Z : w.heap.size + 1 ≤ x6.heap.size := by omega
 replace B6 := (hx6.block x4.heap.size (by omega)).trans B6
 replace t2 := kT _ _ _ _ _ t2 (fun c _ hc => hx6.block c (by omega)) hx6.size
 replace p0 := kW _ _ _ _ p0 (fun c hc => hx6.block c (by omega)) hx6.size
 replace gx := kG _ _ _ _ _ gx (fun c _ hc => hx6.block c (by omega)) hx6.size
 have g0 : x6.cell? ⟨w.heap.size,0,none⟩ = some (v0) := by simp [World.cell?,B1]
 have g1 : x6.cell? ⟨w.heap.size,1,none⟩ = some (v1) := by simp [World.cell?,B1]
 have g2 : x6.cell? ⟨w.heap.size,2,none⟩ = some (.int .i64 v2) := by simp [World.cell?,B1]
 have g3 : x6.cell? ⟨w.heap.size,3,none⟩ = some (v3) := by simp [World.cell?,B1]
 have g4 : x6.cell? ⟨w.heap.size,4,none⟩ = some (v4) := by simp [World.cell?,B1]
 have g5 : x6.cell? ⟨w.heap.size,5,none⟩ = some (.int .i64 v5) := by simp [World.cell?,B1]
 have g6 : x6.cell? ⟨w.heap.size,6,none⟩ = some (v6) := by simp [World.cell?,B1]
 have g7 : x6.cell? ⟨w.heap.size,7,none⟩ = some (v7) := by simp [World.cell?,B1]
 have s0 : x6.cell? ⟨x4.heap.size,0,none⟩ = some (.slice (a2 0) (n2 0) (c2 0)) := by simp [World.cell?,B6]
 have s1 : x6.cell? ⟨x4.heap.size,1,none⟩ = some (.slice (a2 1) (n2 1) (c2 1)) := by simp [World.cell?,B6]
 have s2 : x6.cell? ⟨x4.heap.size,2,none⟩ = some (.int .i64 v2) := by simp [World.cell?,B6]
 have s3 : x6.cell? ⟨x4.heap.size,3,none⟩ = some (.slice (a2 3) (n2 3) (c2 3)) := by simp [World.cell?,B6]
 have s4 : x6.cell? ⟨x4.heap.size,4,none⟩ = some (.slice (a2 4) (n2 4) (c2 4)) := by simp [World.cell?,B6]
 have s5 : x6.cell? ⟨x4.heap.size,5,none⟩ = some (.int .i64 v5) := by simp [World.cell?,B6]
 have s6 : x6.cell? ⟨x4.heap.size,6,none⟩ = some (.slice (a2 6) (n2 6) (c2 6)) := by simp [World.cell?,B6]
 have s7 : x6.cell? ⟨x4.heap.size,7,none⟩ = some (.slice (a2 7) (n2 7) (c2 7)) := by simp [World.cell?,B6]
 go_wp2_with (fail)
 go_region_held3 (fun w' => w'.cell? ⟨w.heap.size,0,none⟩ = some (v0) ∧ w'.cell? ⟨w.heap.size,1,none⟩ = some (v1) ∧ w'.cell? ⟨w.heap.size,2,none⟩ = some (.int .i64 v2) ∧ w'.cell? ⟨w.heap.size,3,none⟩ = some (v3) ∧ w'.cell? ⟨w.heap.size,4,none⟩ = some (v4) ∧ w'.cell? ⟨w.heap.size,5,none⟩ = some (.int .i64 v5) ∧ w'.cell? ⟨w.heap.size,6,none⟩ = some (v6) ∧ w'.cell? ⟨w.heap.size,7,none⟩ = some (v7) ∧ w'.cell? ⟨x4.heap.size,0,none⟩ = some (.slice (a2 0) (n2 0) (c2 0)) ∧ w'.cell? ⟨x4.heap.size,1,none⟩ = some (.slice (a2 1) (n2 1) (c2 1)) ∧ w'.cell? ⟨x4.heap.size,2,none⟩ = some (.int .i64 v2) ∧ w'.cell? ⟨x4.heap.size,3,none⟩ = some (.slice (a2 3) (n2 3) (c2 3)) ∧ w'.cell? ⟨x4.heap.size,4,none⟩ = some (.slice (a2 4) (n2 4) (c2 4)) ∧ w'.cell? ⟨x4.heap.size,5,none⟩ = some (.int .i64 v5) ∧ w'.cell? ⟨x4.heap.size,6,none⟩ = some (.slice (a2 6) (n2 6) (c2 6)) ∧ w'.cell? ⟨x4.heap.size,7,none⟩ = some (.slice (a2 7) (n2 7) (c2 7))) (go_keep)
  (first | (go_at_call 9; refine (hTo _ (Lo.drew L)).mono ?_; rintro e x7 ⟨a3,n3,c3,rfl,hx7,t3⟩; have hs7 : x6.heap.size ≤ x7.heap.size := hx7.size; have L7 : Lo w.heap.size w x7 := (Lo.drew L).trans (hx7.mono (show w.heap.size ≤ x6.heap.size by omega)); have gg0 := (hx7.cell (b := w.heap.size) (j := 0) (show w.heap.size < x6.heap.size by omega)).trans g0; have ss0 := (hx7.cell (b := x4.heap.size) (j := 0) (show x4.heap.size < x6.heap.size by omega)).trans s0; have gg1 := (hx7.cell (b := w.heap.size) (j := 1) (show w.heap.size < x6.heap.size by omega)).trans g1; have ss1 := (hx7.cell (b := x4.heap.size) (j := 1) (show x4.heap.size < x6.heap.size by omega)).trans s1; have gg2 := (hx7.cell (b := w.heap.size) (j := 2) (show w.heap.size < x6.heap.size by omega)).trans g2; have ss2 := (hx7.cell (b := x4.heap.size) (j := 2) (show x4.heap.size < x6.heap.size by omega)).trans s2; have gg3 := (hx7.cell (b := w.heap.size) (j := 3) (show w.heap.size < x6.heap.size by omega)).trans g3; have ss3 := (hx7.cell (b := x4.heap.size) (j := 3) (show x4.heap.size < x6.heap.size by omega)).trans s3; have gg4 := (hx7.cell (b := w.heap.size) (j := 4) (show w.heap.size < x6.heap.size by omega)).trans g4; have ss4 := (hx7.cell (b := x4.heap.size) (j := 4) (show x4.heap.size < x6.heap.size by omega)).trans s4; have gg5 := (hx7.cell (b := w.heap.size) (j := 5) (show w.heap.size < x6.heap.size by omega)).trans g5; have ss5 := (hx7.cell (b := x4.heap.size) (j := 5) (show x4.heap.size < x6.heap.size by omega)).trans s5; have gg6 := (hx7.cell (b := w.heap.size) (j := 6) (show w.heap.size < x6.heap.size by omega)).trans g6; have ss6 := (hx7.cell (b := x4.heap.size) (j := 6) (show x4.heap.size < x6.heap.size by omega)).trans s6; have gg7 := (hx7.cell (b := w.heap.size) (j := 7) (show w.heap.size < x6.heap.size by omega)).trans g7; have ss7 := (hx7.cell (b := x4.heap.size) (j := 7) (show x4.heap.size < x6.heap.size by omega)).trans s7) | (go_at_call 12; refine (hEs _ _ _ _ _ _ x7 L7 (kT _ _ _ _ _ t2 (fun c _ hc => hx7.block c (show c < x6.heap.size by omega)) hs7) t3).mono ?_; rintro e x8 ⟨rfl,hx8⟩; have hs8 := hx8.size; have gh0 := (hx8.cell (b := w.heap.size) (j := 0) (by omega)).trans gg0; have sh0 := (hx8.cell (b := x4.heap.size) (j := 0) (by omega)).trans ss0; have gh1 := (hx8.cell (b := w.heap.size) (j := 1) (by omega)).trans gg1; have sh1 := (hx8.cell (b := x4.heap.size) (j := 1) (by omega)).trans ss1; have gh2 := (hx8.cell (b := w.heap.size) (j := 2) (by omega)).trans gg2; have sh2 := (hx8.cell (b := x4.heap.size) (j := 2) (by omega)).trans ss2; have gh3 := (hx8.cell (b := w.heap.size) (j := 3) (by omega)).trans gg3; have sh3 := (hx8.cell (b := x4.heap.size) (j := 3) (by omega)).trans ss3; have gh4 := (hx8.cell (b := w.heap.size) (j := 4) (by omega)).trans gg4; have sh4 := (hx8.cell (b := x4.heap.size) (j := 4) (by omega)).trans ss4; have gh5 := (hx8.cell (b := w.heap.size) (j := 5) (by omega)).trans gg5; have sh5 := (hx8.cell (b := x4.heap.size) (j := 5) (by omega)).trans ss5; have gh6 := (hx8.cell (b := w.heap.size) (j := 6) (by omega)).trans gg6; have sh6 := (hx8.cell (b := x4.heap.size) (j := 6) (by omega)).trans ss6; have gh7 := (hx8.cell (b := w.heap.size) (j := 7) (by omega)).trans gg7; have sh7 := (hx8.cell (b := x4.heap.size) (j := 7) (by omega)).trans ss7))
 have hh : ∀ c,c < x6.heap.size → x8.heap[c]? = x6.heap[c]? := fun c hc => (hx8.block c (by omega)).trans (hx7.block c hc)
 replace B1 := (hh w.heap.size (by omega)).trans B1
 replace B6 := (hh x4.heap.size (by omega)).trans B6
 replace L : Lo w.heap.size w x8 := L7.trans (hx8.mono (by omega))
 replace Z : w.heap.size + 1 ≤ x8.heap.size := by omega
 replace t2 := kT _ _ _ _ _ t2 (fun c _ hc => hh c (by omega)) (by omega : x6.heap.size ≤ x8.heap.size)
 replace p0 := kW _ _ _ _ p0 (fun c hc => hh c (by omega)) (by omega : x6.heap.size ≤ x8.heap.size)
 replace gx := kG _ _ _ _ _ gx (fun c _ hc => hh c (by omega)) (by omega : x6.heap.size ≤ x8.heap.size)
 go_wp2_with (fail)
 go_at_call 13
 refine (hMk _ _ _ x8 L t2).mono ?_
 rintro e x9 ⟨mk,rfl,hx9⟩
 have hs9 := hx9.size
 replace B1 := (hx9.block w.heap.size (by omega) (by omega)).trans B1
 replace L := Lo.rg L hx9 (fun c hc => by omega) (by omega)
 replace Z : w.heap.size + 1 ≤ x9.heap.size := by omega
 replace p0 := kW _ _ _ _ p0 (fun c hc => hx9.block c (by omega) (by omega)) hx9.size
 replace gx := kG _ _ _ _ _ gx (fun c hc1 hc2 => hx9.block c (by omega) (by omega)) hx9.size
 have hmk : ¬ ((mk : Int) < 0) := by omega
 go_wp2_with (fail)
 go_at_call 11
 refine (hEp _ _ _ _ _ x9 L gx p0).mono ?_
 rintro e x10 ⟨rfl,hx10⟩
 have hsx10 := hx10.size
 replace B1 := (hx10.block w.heap.size (by omega)).trans B1
 replace L := L.trans (hx10.mono (by omega : w.heap.size ≤ x9.heap.size))
 replace Z : w.heap.size + 1 ≤ x10.heap.size := by omega
 replace p0 := kW _ _ _ _ p0 (fun c hc => hx10.block c (by omega)) hx10.size
 replace gx := kG _ _ _ _ _ gx (fun c _ hc => hx10.block c (by omega)) hx10.size
 go_wp2_with (fail)
 go_at_call 14
 refine (hMp _ _ _ x10 L gx).mono ?_
 rintro e x11 ⟨rfl,hx11,gy⟩
 have hs11 := hx11.size
 replace B1 := (hx11.block w.heap.size (by omega) (by omega)).trans B1
 replace L := Lo.rg L hx11 (fun c hc => by omega) (by omega)
 replace Z : w.heap.size + 1 ≤ x11.heap.size := by omega
 replace p0 := kW _ _ _ _ p0 (fun c hc => hx11.block c (by omega) (by omega)) hx11.size
 go_wp2_with (fail)
 go_at_call 15
 refine (hHp _ _ _ x11 L gy).mono ?_
 rintro e x12 ⟨rfl,hx12⟩
 have hsx12 := hx12.size
 replace B1 := (hx12.block w.heap.size (by omega)).trans B1
 replace L := L.trans (hx12.mono (by omega : w.heap.size ≤ x11.heap.size))
 replace Z : w.heap.size + 1 ≤ x12.heap.size := by omega
 replace p0 := kW _ _ _ _ p0 (fun c hc => hx12.block c (by omega)) hx12.size
 replace gy := kG2 _ _ _ _ _ gy (fun c _ hc => hx12.block c (by omega)) hx12.size
 clear g0 s0 gg0 ss0 gh0 sh0 g1 s1 gg1 ss1 gh1 sh1 g2 s2 gg2 ss2 gh2 sh2 g3 s3 gg3 ss3 gh3 sh3 g4 s4 gg4 ss4 gh4 sh4 g5 s5 gg5 ss5 gh5 sh5 g6 s6 gg6 ss6 gh6 sh6 g7 s7 gg7 ss7 gh7 sh7
 have g0 : x12.cell? ⟨w.heap.size,0,none⟩ = some (v0) := by simp [World.cell?,B1]
 have g1 : x12.cell? ⟨w.heap.size,1,none⟩ = some (v1) := by simp [World.cell?,B1]
 have g2 : x12.cell? ⟨w.heap.size,2,none⟩ = some (.int .i64 v2) := by simp [World.cell?,B1]
 have g3 : x12.cell? ⟨w.heap.size,3,none⟩ = some (v3) := by simp [World.cell?,B1]
 have g4 : x12.cell? ⟨w.heap.size,4,none⟩ = some (v4) := by simp [World.cell?,B1]
 have g5 : x12.cell? ⟨w.heap.size,5,none⟩ = some (.int .i64 v5) := by simp [World.cell?,B1]
 have g6 : x12.cell? ⟨w.heap.size,6,none⟩ = some (v6) := by simp [World.cell?,B1]
 have g7 : x12.cell? ⟨w.heap.size,7,none⟩ = some (v7) := by simp [World.cell?,B1]
 go_wp2_with (fail)
 go_at_call 9
 refine (hTo x12 L).mono ?_
 rintro e x13 ⟨a4,n4,c4,rfl,hx13,t4⟩
 have hsx13 := hx13.size
 replace B1 := (hx13.block w.heap.size (by omega)).trans B1
 replace L := L.trans (hx13.mono (by omega : w.heap.size ≤ x12.heap.size))
 replace Z : w.heap.size + 1 ≤ x13.heap.size := by omega
 replace p0 := kW _ _ _ _ p0 (fun c hc => hx13.block c (by omega)) hx13.size
 replace gy := kG2 _ _ _ _ _ gy (fun c _ hc => hx13.block c (by omega)) hx13.size
 go_wp2_with (fail)
 go_at_call 17
 refine (hIm _ _ _ x13 L t4).mono ?_
 rintro e x14 ⟨ha,hn,hc,rfl,hx14,gz⟩
 have hsx14 := hx14.size
 replace B1 := (hx14.block w.heap.size (by omega)).trans B1
 replace L := L.trans (hx14.mono (by omega : w.heap.size ≤ x13.heap.size))
 replace Z : w.heap.size + 1 ≤ x14.heap.size := by omega
 replace p0 := kW _ _ _ _ p0 (fun c hc => hx14.block c (by omega)) hx14.size
 replace gy := kG2 _ _ _ _ _ gy (fun c _ hc => hx14.block c (by omega)) hx14.size
 go_wp2_with (fail)
 go_at_call 11
 refine (hEp _ _ _ _ _ x14 L gz p0).mono ?_
 rintro e x15 ⟨rfl,hx15⟩
 have hsx15 := hx15.size
 replace B1 := (hx15.block w.heap.size (by omega)).trans B1
 replace L := L.trans (hx15.mono (by omega : w.heap.size ≤ x14.heap.size))
 replace Z : w.heap.size + 1 ≤ x15.heap.size := by omega
 replace p0 := kW _ _ _ _ p0 (fun c hc => hx15.block c (by omega)) hx15.size
 replace gy := kG2 _ _ _ _ _ gy (fun c _ hc => hx15.block c (by omega)) hx15.size
 go_wp2_with (fail)
 go_at_call 15
 refine (hHp _ _ _ x15 L gy).mono ?_
 rintro e x16 ⟨rfl,hx16⟩
 have hsx16 := hx16.size
 replace B1 := (hx16.block w.heap.size (by omega)).trans B1
 replace L := L.trans (hx16.mono (by omega : w.heap.size ≤ x15.heap.size))
 replace Z : w.heap.size + 1 ≤ x16.heap.size := by omega
 replace p0 := kW _ _ _ _ p0 (fun c hc => hx16.block c (by omega)) hx16.size
 go_wp2_with (fail)
 go_ret
 exact ⟨rfl,L⟩⟩
set_option maxHeartbeats 3200000 in
theorem neg_walk : ShopNegWalk Tryz.prog 4 7 := ⟨by
 intro w v0 v1 v3 v4 v6 v7 v2 v5 n hn hSz
 go_enter Tryz.func4,Tryz.ntmps4
 go_wp2_with (fail)
 go_at_call 7
 have L : Lo w.heap.size w (w.alloc (.cells #[v0,v1,.int .i64 v2,v3,v4,.int .i64 v5,v6,v7] 29)) := (Lo.refl _ w).alloc (Nat.le_refl _) _
 refine (hSz _ L).mono ?_
 rintro e x1 ⟨rfl,hx1⟩
 replace L := L.trans (hx1.mono (by simp))
 go_wp2_with (fail)
 go_ret
 exact ⟨rfl,L⟩⟩
theorem steps_walk : StepsWalk Tryz.prog 32 78 33 64 := ⟨to_step,to_stepS_nil,fun b off len cap w ids hs cs aa V4 => to_stepS b off len cap w ids hs cs aa V4⟩
end
theorem ok_laws_FnExactTradeProblems : FOk Tryz.prog phi 1246 laws_FnExactTradeProblems_c := shopLaw_ok laws_FnExactTradeProblems_F (g := 1246) (gsz := 203) (gsp := 349) (gim := 282) (gep := 47) (ges := 200) (gmp := 46) (ghp := 336) (g0 := 607) (g1 := 606) (gI := 121) (g6 := 604) (g7 := 603) (m0 := 755) (m1 := 754) (mI := 45) (m6 := 752) (m7 := 751) (gT := 40) law_walk neg_walk to_shop_walk steps_walk mark_shop_walk mark_steps_walk (by kernel_rfl)
 (fun x l n h => callOk_two ok_laws_szShop h)
 (fun x ps c h => callOk_tok2 ok_spec_TradeProblems h)
 (fun x ps c h => callOk_tok2 ok_impl_TradeProblems h)
 (fun x y b h => callOk_two ok_laws_eqProblemS h)
 (fun x y b h => callOk_two ok_laws_eqShop h)
 (fun x y h => callOk_tok ok_laws_toArcS h)
 (fun x y h => callOk_tok ok_laws_toCordS h)
 (fun x y h => callOk_tok ok_laws_toInt64S h)
 (fun x y h => callOk_tok ok_laws_toRentalS h)
 (fun x y h => callOk_tok ok_laws_toEntryS h)
 (fun x m m2 y h => callOk_ios ok_laws_markArcS h)
 (fun x m m2 y h => callOk_ios ok_laws_markCordS h)
 (fun x m m2 y h => callOk_ios ok_laws_markInt64S h)
 (fun x m m2 y h => callOk_ios ok_laws_markRentalS h)
 (fun x m m2 y h => callOk_ios ok_laws_markEntryS h)
 (fun m t h => callOk_one ok_laws_markText h)
 (fun x m m2 y h => callOk_ios ok_laws_markProblemS h)
 (fun x m m2 h => callOk_two ok_laws_heldProblemS h)
theorem law : ∀ x,wfU laws_FnExactTradeProblems_c.ps x → ∃ y,laws_FnExactTradeProblems_c.f x = some y ∧ resA laws_FnExactTradeProblems_c y = ([A.bool true],[]) := fun x hx => ⟨true,(by classical exact if_pos (laws_FnExactTradeProblems_true x.1 hx.1)),rfl⟩
theorem own : ownKnob Tryz.prog.godebug = none := by kernel_rfl
theorem laid : laidOutB Tryz.prog = true := by kernel_rfl
theorem reads : ∀ t ∈ Tryz.f4.params.toList,Tryz.prog.readableRec t = true ∧ t < Tryz.prog.types.size := by
 have h : (Tryz.f4.params.toList.all fun t => Tryz.prog.readableRec t && decide (t < Tryz.prog.types.size)) = true := by kernel_rfl
 intro t ht
 have := List.all_eq_true.1 h t ht
 simpa only [Bool.and_eq_true,decide_eq_true_eq] using this
theorem spec_eq (H : Type) : ∀ (ds : List (DataW H)),ds.length = Tryz.f4.params.toList.length → Rows.fnExactTradeProblemsSpec.fn H ds = { results := [.lit (.bool true)],args := ds } := by
 intro ds hd
 have hd : ds.length = 1 := hd
 match ds,hd with
 | [d0],_ => rfl
theorem tab (W : World) (hL : laidMetH Tryz.prog Rows.fnExactTradeProblemsRow.laid W) : ∀ i,Tryz.prog.globalNamed pow10Name = some i → Lib.TabIs Tryz.prog W pow10Name .u64 Lib.pow10Tab := by
 intro i hi
 have hp : (Rows.fnExactTradeProblemsRow.laid.all fun x => x.2.handleName?.isNone) = true := by kernel_rfl
 rw [MakeChecks.laidMetH_plain _ _ _ hp] at hL
 have h1 : laidMet Tryz.prog (("internal/strconv.uint64pow10",Rows.laid_internal_strconv_uint64pow10) :: []) W := (laidMet.tail (laidMet.tail hL))
 have e : (Rows.laid_internal_strconv_uint64pow10 : DataW Unit) = Lib.tabData .u64 Lib.pow10Tab := by kernel_rfl
 rw [e] at h1
 exact Lib.tabIs_of_head (t := 176) (e := 168) (n := 20) hi (by obtain rfl := Option.some.inj ((show Tryz.prog.globalNamed pow10Name = some 0 by kernel_rfl).symm.trans hi); kernel_rfl) (by kernel_rfl) (by kernel_rfl) (by kernel_rfl) (by kernel_rfl) h1
theorem errs (W : World) (hL : laidMetH Tryz.prog Rows.fnExactTradeProblemsRow.laid W) : ∀ n,errNames.contains n = true → ∀ i,Tryz.prog.globalNamed n = some i → ∃ u v,W.var? Tryz.prog n = some #[.iface u v] := by
 intro n hn i hi
 have hn : n = "strconv.ErrSyntax" ∨ n = "strconv.ErrRange" := by simpa [errNames] using hn
 rcases hn with rfl | rfl
 ·have h : Tryz.prog.globalNamed "strconv.ErrSyntax" = none := by kernel_rfl
  rw [h] at hi; cases hi
 ·have h : Tryz.prog.globalNamed "strconv.ErrRange" = none := by kernel_rfl
  rw [h] at hi; cases hi
theorem contract (H : Type) (enc : TypeId × Value → H) (W : World) (base : Nat) (args : Array Value) (ds gs : List (DataW H)) (before : List MemPlace)
 (hval : ∀ (j : Nat) t v,Tryz.f4.params[j]? = some t → args[j]? = some v → Value.okWide Tryz.prog W .any base t v)
 (hW : DataW.Whole enc Tryz.prog Tryz.f4.params.toList Rows.fnExactTradeProblemsSpec.vars false W args.toList ds gs before) (hL : laidMetH Tryz.prog Rows.fnExactTradeProblemsRow.laid W) (hsh : W.ShapedOpen Tryz.prog) :
 Calls Tryz.prog 4 args W fun e W' => ∃ v,e = .returned v ∧ Rows.fnExactTradeProblemsSpec.post enc Tryz.prog Tryz.f4 false true false false W args v W' :=
 row_contract (φ := phi) (g := 1246) (n := 20) ok_laws_FnExactTradeProblems rfl rfl (tb := 4) Tryz.underlying4 (by kernel_rfl) rfl law laid reads spec_eq W base args ds gs before hval hW (Glob.start hsh (tab W hL) (errs W hL))
theorem lifted (os : Os) (started : os.Started) (H : Type) (enc : TypeId × Value → H) :
 ReturnsInHanded {} Tryz.checked os 4 .any (fun w args => (Rows.fnExactTradeProblemsSpec.pre enc Tryz.prog Tryz.f4 Rows.fnExactTradeProblemsRow.domain false w args ∧ laidMetH Tryz.prog Rows.fnExactTradeProblemsRow.laid w) ∧ sizedMet enc Tryz.prog Tryz.f4 (OpenSpec.ofChange Rows.fnExactTradeProblemsSpec) false w args) (Rows.fnExactTradeProblemsSpec.post enc Tryz.prog Tryz.f4 false true false false) := by
 refine returnsInHanded_laid (C := Tryz.checked) (laid := Rows.fnExactTradeProblemsRow.laid) own started (by kernel_rfl) Tryz.func4
  (ChangeSpec.witness_shaped (enc := enc) (C := Tryz.checked) (os := os) (X := fun w _ => laidMetH Tryz.prog Rows.fnExactTradeProblemsRow.laid w) false (World.laidAll Tryz.prog os Rows.fnExactTradeProblemsRow.laid) #[.agg #[.slice none 0 0,.slice none 0 0,.int .i64 0,.slice none 0 0,.slice none 0 0,.int .i64 0,.slice none 0 0,.slice none 0 0]] 12 (World.laidAll_os _ _ _)
    (World.shaped_of_ZipB (by kernel_rfl) (by kernel_rfl)) (by kernel_rfl) (by kernel_rfl) (by kernel_rfl)
    (by rw [MakeChecks.laidMetH_plain _ _ _ (by kernel_rfl)]; exact laidMet_laidAll _ (by kernel_rfl) (by kernel_rfl))) ?_
 intro W base args ds gs before hval hW hL hsh
 exact contract H enc W base args ds gs before hval hW hL hsh
theorem over : Rows.fnExactTradeProblemsRow.holds Tryz.pinned (OpenSpec.ofChange Rows.fnExactTradeProblemsSpec) :=
 OpenClaim.holds_of_wide 4 Tryz.f4 rfl rfl rfl rfl rfl rfl rfl ⟨rfl,rfl,rfl,rfl,rfl⟩ rfl rfl rfl rfl rfl (by kernel_rfl) Tryz.func4 (by kernel_rfl)
  (of_decide_eq_true (by kernel_rfl)) (by unfold Func.isWrapper; first | (rw [if_pos (by decide +kernel)]; kernel_rfl) | (rw [if_neg (by decide +kernel)]; exact ⟨rfl,rfl⟩))
  (fun os started H enc _ => lifted os started H enc)
theorem card : Rows.FnExactTradeProblemsCardSaid :=
 Claim7.holds_tied_plain_at .later [] [.data,.data,.data] true (true,"81df0491dbb0dcec3346f35abe71af94facc6eb051c99dd598c5c8f6eaa1d199") false over (fun _ h => by cases h) (by kernel_rfl) (fun _ h => by cases h) fnExactTradeProblems_row_tie rfl ⟨rfl,rfl⟩ (by kernel_rfl) rfl
  (fun f fn hf hfn => by
    obtain rfl : f = 4 := Option.some.inj ((show Tryz.prog.funcNamed "loop.example/g01061/laws.FnExactTradeProblems" = some 4 by kernel_rfl).symm.trans hf) |>.symm
    obtain rfl : fn = Tryz.f4 := (Option.some.inj (Tryz.func4.symm.trans hfn)).symm
    exact ⟨by kernel_rfl,fun j t ht => by
     have hm : t ∈ Tryz.f4.params.toList := by simpa using Array.mem_of_getElem? ht
     have hall : (Tryz.f4.params.toList.all fun u => !Tryz.prog.wantsStandIn u) = true := by kernel_rfl
     exact (show Tryz.prog.wantsStandIn t = false by simpa using List.all_eq_true.1 hall t hm)⟩)
  (by kernel_rfl)
theorem proved : Rows.FnExactTradeProblemsCardSaid := card
end Go.Proofs.YtmmlhpfodamdgaaGreatDoor.fnExactTradeProblems
