/- The law FnRepairs answers true for every input, whatever it is, and leaves its arguments as they were. Conditions: none. -/
import Derived.Test.YtdejhkhdilcadaaGreatDoorQFnRepairs
import Derived.Test.YtdejhkhdilcadaaGreatDoorRows
import Derived.Test.YtdejhkhdilcadaaGreatDoorL5
import Derived.Test.YtdejhkhdilcadaaGreatDoorL6
import Derived.Carry
import Derived.Test.YtdejhkhdilcadaaGreatDoorShelf
import Derived.Test.YtdejhkhdilcadaaGreatDoorCards
import Derived.Test.YtdejhkhdilcadaaGreatDoorTie
import Derived.LaidMore
import Derived.Lay
import Derived.SevenTiedAt
import Derived.Stop.Joined
import Derived.WalkKit
import Derived.ProofKit
import Derived.OpenShut
import Derived.JoinedOf
import Derived.Handed
set_option linter.unusedVariables false
set_option maxRecDepth 100000
namespace Go.Proofs.YtdejhkhdilcadaaGreatDoor.fnRepairs
open Go.Ab Go.Ab.P
open Go.ChangeShapes Go.WideShapes Go.ChangeAt Go.RowKit
def phiL : List (Nat × Nat) := [(89,4),(441,17),(847,42),(463,31),(642,43),(845,32),(453,18),(88,5),(23,34),(22,44),(21,23),(24,35),(461,22),(83,10),(539,33),(454,19),(87,6),(456,21),(455,20),(86,7),(85,8),(84,9),(864,48),(524,38),(630,39),(460,27),(459,26),(81,12),(683,36),(458,24),(522,37),(457,25),(82,11),(77,13),(80,14),(4,28),(79,15),(11,62),(12,63),(13,52),(1,30),(804,41),(846,40),(462,29),(78,16),(1250,3)]
def phi (n : Nat) : Nat := (phiL.lookup n).getD 1000000
theorem hm : Tryz.prog.follows .mixedOrders = true := by kernel_rfl
theorem ok_laws_r8Long : FOk Tryz.prog phi 89 laws_r8Long_c := fn_ok hm (D := laws_r8Long_D) DOk.nil (by kernel_rfl) _ _ _ _
theorem ok_spec_l00From : FOk Tryz.prog phi 441 spec_l00From_c := fn_ok hm (D := spec_l00From_D) DOk.nil (by kernel_rfl) _ _ _ _
theorem ok_spec_l00Src_next : FOk Tryz.prog phi 847 spec_l00Src_next_c := fn_ok hm (D := spec_l00Src_next_D) DOk.nil (by kernel_rfl) _ _ _ _
theorem ok_spec_l00Src_pick : FOk Tryz.prog phi 463 spec_l00Src_pick_c := fn_ok hm (D := spec_l00Src_pick_D) (DOk.cons ok_spec_l00Src_next DOk.nil) (by kernel_rfl) _ _ _ _
theorem ok_spec_l00Src_one : FOk Tryz.prog phi 642 spec_l00Src_one_c := fn_ok hm (D := spec_l00Src_one_D) (DOk.cons ok_spec_l00Src_pick DOk.nil) (by kernel_rfl) _ _ _ _
theorem ok_spec_l17DrawOne : FOk Tryz.prog phi 845 spec_l17DrawOne_c := fn_ok hm (D := spec_l17DrawOne_D) (DOk.cons ok_spec_l00Src_pick (DOk.cons ok_spec_l00Src_one DOk.nil)) (by kernel_rfl) _ _ _ _
theorem ok_spec_l17Draw : FOk Tryz.prog phi 453 spec_l17Draw_c := fn_ok hm (D := spec_l17Draw_D) (DOk.cons ok_spec_l00Src_pick (DOk.cons ok_spec_l17DrawOne DOk.nil)) (by kernel_rfl) _ _ _ _
theorem ok_spec_R8Steps : FOk Tryz.prog phi 88 spec_R8Steps_c := fn_ok hm (D := spec_R8Steps_D) (DOk.cons ok_spec_l00From (DOk.cons ok_spec_l17Draw DOk.nil)) (by kernel_rfl) _ _ _ _
theorem ok_impl_within : FOk Tryz.prog phi 23 impl_within_c := fn_ok hm (D := impl_within_D) DOk.nil (by kernel_rfl) _ _ _ _
theorem ok_impl_isDigit : FOk Tryz.prog phi 22 impl_isDigit_c := fn_ok hm (D := impl_isDigit_D) DOk.nil (by kernel_rfl) _ _ _ _
theorem ok_impl_few : FOk Tryz.prog phi 21 impl_few_c := fn_ok hm (D := impl_few_D) DOk.nil (by kernel_rfl) _ _ _ _
theorem ok_impl_IsName : FOk Tryz.prog phi 24 impl_IsName_c := fn_ok hm (D := impl_IsName_D) (DOk.cons ok_impl_few (DOk.cons ok_impl_isDigit DOk.nil)) (by kernel_rfl) _ _ _ _
theorem ok_impl_Step_valid : FOk Tryz.prog phi 461 impl_Step_valid_c := fn_ok hm (D := impl_Step_valid_D) (DOk.cons ok_impl_within (DOk.cons ok_impl_IsName DOk.nil)) (by kernel_rfl) _ _ _ _
theorem vs_key : Maps.Keyed Tryz.prog 9 := Maps.string_keyed Tryz.underlying9
theorem vs_zero (w : World) : (zeroValue 4).run Tryz.prog w = .ok (.bool false) w := by kernel_rfl
theorem vs_none (a : Option Addr) (cap : Nat) (w : World) (fin : Bool)
 (hF : ∀ w',Lo w.heap.size w w' → Calls Tryz.prog 23 #[.int .i64 0,.int .i64 12] w' fun e w'' => e = .returned (.bool fin) ∧ Lo w'.heap.size w' w'') :
 Calls Tryz.prog 10 #[.slice a 0 cap] w fun e w' => e = .returned (.bool fin) ∧ Lo w.heap.size w w' := by
 have hmm := @run_makeMap Tryz.prog
 go_enter Tryz.func10,Tryz.ntmps10
 go_wp2
 refine wp_loop_rounds 1 ?_
 rw [rounds_succ]
 go_wp2_with (go_at_call 23; refine (hF _ ((Lo.refl _ _).alloc (Nat.le_refl _) _)).mono ?_; rintro e w1 ⟨rfl,hw1⟩)
 go_ret
 exact ⟨rfl,((Lo.refl _ _).alloc (Nat.le_refl _) _).trans (hw1.mono (by simp))⟩
set_option maxHeartbeats 1600000 in
theorem vs_run (b off len cap : Nat) (w : World) (ids : Nat → List UInt8) (hs cs : Nat → Int) (aa : Nat → Option Addr) (al ac : Nat → Nat) (ok : Nat → Bool) (last : Nat → Int) (fin : Bool)
 (hb : b < w.heap.size) (hl : len ≤ 9223372036854775807)
 (h0 : ∀ j,j < len → w.cell? ⟨b,off + j * 4,none⟩ = some (.string ⟨(ids j).toArray⟩))
 (h1 : ∀ j,j < len → w.cell? ⟨b,off + j * 4 + 1,none⟩ = some (.int .i64 (hs j)))
 (h2 : ∀ j,j < len → w.cell? ⟨b,off + j * 4 + 2,none⟩ = some (.int .i64 (cs j)))
 (h3 : ∀ j,j < len → w.cell? ⟨b,off + j * 4 + 3,none⟩ = some (.slice (aa j) (al j) (ac j)))
 (h4 : ∀ j,j < len → 0 < al j → ∃ c o,aa j = some ⟨c,o,none⟩ ∧ c < w.heap.size ∧ al j ≤ 9223372036854775807 ∧ w.cell? ⟨c,o + (al j - 1),none⟩ = some (.int .i64 (last j)))
 (h5 : ∀ j,j < len → (ids j).length ≤ 9223372036854775807)
 (hV : ∀ j,j < len → ∀ w',Lo w.heap.size w w' → Calls Tryz.prog 22 #[.agg #[.string ⟨(ids j).toArray⟩,.int .i64 (hs j),.int .i64 (cs j),.slice (aa j) (al j) (ac j)]] w' fun e w'' => e = .returned (.bool (ok j)) ∧ Lo w'.heap.size w' w'')
 (hF : ∀ w',Lo w.heap.size w w' → Calls Tryz.prog 23 #[.int .i64 len,.int .i64 12] w' fun e w'' => e = .returned (.bool fin) ∧ Lo w'.heap.size w' w'') :
 Calls Tryz.prog 10 #[.slice (some ⟨b,off,none⟩) len cap] w fun e w' => e = .returned (.bool (vsGo ids al last ok fin len 0)) ∧ Lo w.heap.size w w' := by
 have hmm := @run_makeMap Tryz.prog
 go_enter Tryz.func10,Tryz.ntmps10
 go_wp2
 go_loopw [9] (fun i wr => ∃ k : Nat,k ≤ len ∧ i = .int .i64 k ∧ wr.ownsMap Tryz.prog 9 (Go.plainElem (H := Unit) Tryz.prog 4) w.heap.size k (vsD ids k) ∧
  Lo w.heap.size w wr ∧ w.heap.size + 1 ≤ wr.heap.size ∧ vsGo ids al last ok fin len 0 = vsGo ids al last ok fin (len - k) k)
  (fun i _ => len - (intOf i).toNat)
 case atStart => exact ⟨0,Nat.zero_le _,rfl,World.ownsMap_made _ _ _ _,(Lo.refl _ _).alloc (Nat.le_refl _) _,by simp,rfl⟩
 case round =>
  obtain ⟨k,hk,rfl,hown,hnx,hws,hgo⟩ := hrel
  rcases Nat.lt_or_ge k len with hkl | hkl
  ·have HG : Hid (vsGo ids al last ok fin len 0 = if ok k then (if vsSeen ids k k then false else if decide (0 < al k) && decide ((k : Int) ≤ last k) then false else vsGo ids al last ok fin (len - (k + 1)) (k + 1)) else false) := by
    rw [hgo,show len - k = (len - (k + 1)) + 1 from by omega]; rfl
   clear hgo
   have c0 := (hnx.cell (by exact hb)).trans (h0 k hkl)
   have c1 := (hnx.cell (by exact hb)).trans (h1 k hkl)
   have c2 := (hnx.cell (by exact hb)).trans (h2 k hkl)
   have c3 := (hnx.cell (by exact hb)).trans (h3 k hkl)
   have V := hV k hkl
   have hkey : keyOf Tryz.prog 9 (.string ⟨(ids k).toArray⟩) = some (.string (ids k)) := WideMaps.keyOf_string_mk Tryz.underlying9 (show (ids k).length ≤ Go.maxLen from h5 k hkl)
   rcases Nat.eq_zero_or_pos (al k) with ha | ha
   ·have A : Hid (al k = 0) := ha
    rw [ha] at c3 V
    clear ha
    go_wp2_with (first
     | (go_at_call 22; refine (V _ (hnx.alloc hnx.size _)).mono ?_; rintro e w1 ⟨rfl,hw1⟩
        have g0 : w1.cell? ⟨wr.heap.size,0,none⟩ = some (.string ⟨(ids k).toArray⟩) := (hw1.cell (by rw [size_alloc]; exact Nat.lt_succ_self _)).trans (cell_new4 _ _ _ _ _ rfl)
        have g3 : w1.cell? ⟨wr.heap.size,3,none⟩ = some (.slice (aa k) 0 (ac k)) := (hw1.cell (by rw [size_alloc]; exact Nat.lt_succ_self _)).trans (cell_new4 _ _ _ _ _ rfl))
     | (at_lookup; refine wpList_lookup_own_bool _ rfl _ _ 45 rfl 9 4 vs_key Tryz.underlying45 Tryz.underlying4 (vs_zero _) w.heap.size k _ rfl (ownsMap_below (hown.alloc _) hw1) _ _ rfl hkey _ (vsD_at ids k k) ?_)
     | (at_mapUpdate; refine wpList_mapUpdate_own _ rfl _ _ _ 45 rfl 9 4 vs_key Tryz.underlying45 (Go.plainElem (H := Unit) Tryz.prog 4) w.heap.size k _ rfl (ownsMap_below (hown.alloc _) hw1) (by unfold maxLen; omega) _ _ _ rfl rfl hkey _ [] (plainElem_bool Tryz.underlying4 true) ?_; intro w2 hown2 hgrow2)
     | go_in)
    ·go_ret
     exact ⟨by rw [HG.out]; simp [*],(hnx.alloc hnx.size _).trans (hw1.mono (by simp; omega))⟩
    ·have A := A.out
     go_roundw
     case rel => exact ⟨k + 1,by omega,by go_num,hown2,((hnx.alloc hnx.size _).trans (hw1.mono (by simp; omega))).grown hgrow2 (by have := hw1.size; rw [size_alloc] at this; omega) (fun j hj => by cases hj; exact Nat.le_refl _),by have h1 := hw1.size; have h2 := hgrow2.size; simp at h1; omega,by rw [HG.out]; simp [*]⟩
     case measure => simp [intOf]; omega
    ·go_ret
     exact ⟨by rw [HG.out]; simp [*],(hnx.alloc hnx.size _).trans (hw1.mono (by simp; omega))⟩
   ·obtain ⟨c,o,e,hc,hcap,hcl⟩ := h4 k hkl ha
    have A : Hid (0 < al k) := ha
    obtain ⟨m,hm⟩ : ∃ m,al k = m + 1 := ⟨al k - 1,by omega⟩
    have M : Hid (al k = m + 1) := hm
    rw [hm] at hcap hcl
    rw [hm,e] at c3 V
    rw [Nat.add_sub_cancel] at hcl
    have hw64 : wrap64 (m : Int) = m := by unfold wrap64; omega
    have hcl' := (hnx.cell (by exact hc)).trans hcl
    clear ha hm hcl
    go_wp2_with (first
     | (go_at_call 22; refine (V _ (hnx.alloc hnx.size _)).mono ?_; rintro e w1 ⟨rfl,hw1⟩
        have g0 : w1.cell? ⟨wr.heap.size,0,none⟩ = some (.string ⟨(ids k).toArray⟩) := (hw1.cell (by rw [size_alloc]; exact Nat.lt_succ_self _)).trans (cell_new4 _ _ _ _ _ rfl)
        have g3 : w1.cell? ⟨wr.heap.size,3,none⟩ = some (.slice (some ⟨c,o,none⟩) (m + 1) (ac k)) := (hw1.cell (by rw [size_alloc]; exact Nat.lt_succ_self _)).trans (cell_new4 _ _ _ _ _ rfl)
        have gl : w1.cell? ⟨c,o + m,none⟩ = some (.int .i64 (last k)) := (hw1.cell (by have := hnx.size; rw [size_alloc]; show c < _; omega)).trans ((cell_old _ _ _ _ (by have := hnx.size; omega)).trans hcl'))
     | (at_lookup; refine wpList_lookup_own_bool _ rfl _ _ 45 rfl 9 4 vs_key Tryz.underlying45 Tryz.underlying4 (vs_zero _) w.heap.size k _ rfl (ownsMap_below (hown.alloc _) hw1) _ _ rfl hkey _ (vsD_at ids k k) ?_)
     | (at_mapUpdate; refine wpList_mapUpdate_own _ rfl _ _ _ 45 rfl 9 4 vs_key Tryz.underlying45 (Go.plainElem (H := Unit) Tryz.prog 4) w.heap.size k _ rfl (ownsMap_below (hown.alloc _) hw1) (by unfold maxLen; omega) _ _ _ rfl rfl hkey _ [] (plainElem_bool Tryz.underlying4 true) ?_; intro w2 hown2 hgrow2)
     | go_in)
    ·go_ret
     exact ⟨by rw [HG.out]; simp [*],(hnx.alloc hnx.size _).trans (hw1.mono (by simp; omega))⟩
    ·have A := A.out
     go_ret
     exact ⟨by rw [HG.out]; simp [*],(hnx.alloc hnx.size _).trans (hw1.mono (by simp; omega))⟩
    ·have A := A.out
     go_roundw
     case rel => exact ⟨k + 1,by omega,by go_num,hown2,((hnx.alloc hnx.size _).trans (hw1.mono (by simp; omega))).grown hgrow2 (by have := hw1.size; rw [size_alloc] at this; omega) (fun j hj => by cases hj; exact Nat.le_refl _),by have h1 := hw1.size; have h2 := hgrow2.size; simp at h1; omega,by rw [HG.out]; simp [*]⟩
     case measure => simp [intOf]; omega
    ·go_ret
     exact ⟨by rw [HG.out]; simp [*],(hnx.alloc hnx.size _).trans (hw1.mono (by simp; omega))⟩
  ·have : k = len := by omega
   subst this
   go_wp2_with (go_at_call 23; refine (hF _ hnx).mono ?_; rintro e w1 ⟨rfl,hw1⟩)
   go_ret
   exact ⟨by rw [hgo,Nat.sub_self]; rfl,hnx.trans (hw1.mono hnx.size)⟩
theorem vs_walk : VsWalk Tryz.prog 10 22 23 := ⟨⟨_,Tryz.func10,by decide +kernel,rfl⟩,vs_none,vs_run⟩
theorem ok_impl_ValidSteps : FOk Tryz.prog phi 83 impl_ValidSteps_c := validSteps_ok (gv := 461) (gf := 21) vs_walk (fun x b h => callOk_one ok_impl_Step_valid h) (fun m n b h => callOk_two ok_impl_few h) (by kernel_rfl)
theorem ok_impl_ready : FOk Tryz.prog phi 539 impl_ready_c := fn_ok hm (D := impl_ready_D) DOk.nil (by kernel_rfl) _ _ _ _
theorem ok_impl_earliest : FOk Tryz.prog phi 454 impl_earliest_c := fn_ok hm (D := impl_earliest_D) (DOk.cons ok_impl_ready DOk.nil) (by kernel_rfl) _ _ _ _
theorem ok_impl_EarliestStarts : FOk Tryz.prog phi 87 impl_EarliestStarts_c := fn_ok hm (D := impl_EarliestStarts_D) (DOk.cons ok_impl_ValidSteps (DOk.cons ok_impl_earliest DOk.nil)) (by kernel_rfl) _ _ _ _
theorem ok_impl_ended : FOk Tryz.prog phi 456 impl_ended_c := fn_ok hm (D := impl_ended_D) DOk.nil (by kernel_rfl) _ _ _ _
theorem ok_impl_latest : FOk Tryz.prog phi 455 impl_latest_c := fn_ok hm (D := impl_latest_D) (DOk.cons ok_impl_earliest (DOk.cons ok_impl_ended DOk.nil)) (by kernel_rfl) _ _ _ _
theorem ok_impl_LatestStarts : FOk Tryz.prog phi 86 impl_LatestStarts_c := fn_ok hm (D := impl_LatestStarts_D) (DOk.cons ok_impl_ValidSteps (DOk.cons ok_impl_latest DOk.nil)) (by kernel_rfl) _ _ _ _
theorem ok_impl_TotalHours : FOk Tryz.prog phi 85 impl_TotalHours_c := fn_ok hm (D := impl_TotalHours_D) (DOk.cons ok_impl_ValidSteps (DOk.cons ok_impl_earliest (DOk.cons ok_impl_ended DOk.nil))) (by kernel_rfl) _ _ _ _
theorem ok_impl_CriticalSteps : FOk Tryz.prog phi 84 impl_CriticalSteps_c := fn_ok hm (D := impl_CriticalSteps_D) (DOk.cons ok_impl_ValidSteps (DOk.cons ok_impl_earliest (DOk.cons ok_impl_latest DOk.nil))) (by kernel_rfl) _ _ _ _
theorem ok_strconv_FormatInt : FOk Tryz.prog phi 864 strconv_FormatInt_c := formatInt_ok Tryz.laysM173 ⟨3,by kernel_rfl⟩ (by kernel_rfl)
theorem ok_impl_Decimal : FOk Tryz.prog phi 524 impl_Decimal_c := fn_ok hm (D := impl_Decimal_D) (DOk.cons ok_strconv_FormatInt DOk.nil) (by kernel_rfl) _ _ _ _
theorem ok_strings_Join : FOk Tryz.prog phi 630 strings_Join_c := join_ok Tryz.lays156 Tryz.Builder_Extra_156 (by kernel_rfl)
theorem ok_impl_ListText : FOk Tryz.prog phi 460 impl_ListText_c := fn_ok hm (D := impl_ListText_D) (DOk.cons ok_impl_few (DOk.cons ok_impl_within (DOk.cons ok_impl_Decimal (DOk.cons ok_strings_Join DOk.nil)))) (by kernel_rfl) _ _ _ _
theorem ok_impl_named : FOk Tryz.prog phi 459 impl_named_c := fn_ok hm (D := impl_named_D) (DOk.cons ok_impl_ListText DOk.nil) (by kernel_rfl) _ _ _ _
theorem ok_impl_StepText : FOk Tryz.prog phi 81 impl_StepText_c := fn_ok hm (D := impl_StepText_D) (DOk.cons ok_impl_named (DOk.cons ok_impl_ListText (DOk.cons ok_impl_Step_valid DOk.nil))) (by kernel_rfl) _ _ _ _
theorem ok_strings_Split : FOk Tryz.prog phi 683 strings_Split_c := split_ok Tryz.laysM146 (of_decide_eq_true (by kernel_rfl)) (by kernel_rfl)
theorem ok_impl_SplitWords : FOk Tryz.prog phi 458 impl_SplitWords_c := fn_ok hm (D := impl_SplitWords_D) (DOk.cons ok_strings_Split DOk.nil) (by kernel_rfl) _ _ _ _
section
open Go.Lib
theorem rd_long (s : ByteArray) (w : World) (hl : 18 < (Lib.trimPrefix s.data.toList [45]).length) :
 Calls Tryz.prog 37 #[.string s] w fun e w' => e = .returned (.tuple #[.int .i64 0,.bool false]) ∧ Below w.heap.size w w' := by
 go_enter Tryz.func37,Tryz.ntmps37
 go_wp2_with (go_at_call 46; refine (Tryz.strings_TrimPrefix _ _ _).mono ?_; rintro e w' ⟨rfl,rfl⟩)
 all_goals first
  | (exfalso; omega)
  | (go_ret2; exact ⟨rfl,Below.refl _ _⟩)
theorem rd_bad (s : ByteArray) (w : World) (hl : ¬ 18 < (Lib.trimPrefix s.data.toList [45]).length) (m : Int) (u : TypeId) (hP : Calls Tryz.prog 47 #[.string s,.int .i64 10,.int .i64 64] w fun e w' => ∃ x,e = .returned (.tuple #[.int .i64 m,.iface u x]) ∧ Below w.heap.size w w') :
 Calls Tryz.prog 37 #[.string s] w fun e w' => e = .returned (.tuple #[.int .i64 0,.bool false]) ∧ Below w.heap.size w w' := by
 go_enter Tryz.func37,Tryz.ntmps37
 go_wp2_with (first | (go_at_call 46; refine (Tryz.strings_TrimPrefix _ _ _).mono ?_; rintro e w' ⟨rfl,rfl⟩) | (go_at_call 47; refine hP.mono ?_; rintro e w1 ⟨x,rfl,hw1⟩))
 all_goals first
  | (exfalso; omega)
  | (go_ret2; exact ⟨rfl,hw1⟩)
theorem rd_ok (s : ByteArray) (w : World) (hl : ¬ 18 < (Lib.trimPrefix s.data.toList [45]).length) (v : Int) (hs : Lib.itoa v = s.data.toList) (hP : Calls Tryz.prog 47 #[.string s,.int .i64 10,.int .i64 64] w fun e w' => e = .returned (.tuple #[.int .i64 v,.nilIface]) ∧ Below w.heap.size w w')
 (hF : ∀ w',Below w.heap.size w w' → Calls Tryz.prog 48 #[.int .i64 v,.int .i64 10] w' fun e w'' => e = .returned (.string ⟨(Lib.itoa v).toArray⟩) ∧ Below w'.heap.size w' w'') :
 Calls Tryz.prog 37 #[.string s] w fun e w' => e = .returned (.tuple #[.int .i64 v,.bool true]) ∧ Below w.heap.size w w' := by
 have HS := Lib.hid hs; clear hs
 go_enter Tryz.func37,Tryz.ntmps37
 go_wp2_with (first | (go_at_call 46; refine (Tryz.strings_TrimPrefix _ _ _).mono ?_; rintro e w' ⟨rfl,rfl⟩) | (go_at_call 47; refine hP.mono ?_; rintro e w1 ⟨rfl,hw1⟩) | (go_at_call 48; refine (hF _ hw1).mono ?_; rintro e w2 ⟨rfl,hw2⟩) | go_in)
 all_goals first
  | (exfalso; omega)
  | skip
 ·rename_i h
  exfalso
  rw [HS.out] at h
  simp [Lib.toList_data] at h
 ·go_ret2; exact ⟨rfl,hw1.trans (hw2.mono hw1.size)⟩
theorem rd_no (s : ByteArray) (w : World) (hl : ¬ 18 < (Lib.trimPrefix s.data.toList [45]).length) (v : Int) (hs : Lib.itoa v ≠ s.data.toList) (hP : Calls Tryz.prog 47 #[.string s,.int .i64 10,.int .i64 64] w fun e w' => e = .returned (.tuple #[.int .i64 v,.nilIface]) ∧ Below w.heap.size w w')
 (hF : ∀ w',Below w.heap.size w w' → Calls Tryz.prog 48 #[.int .i64 v,.int .i64 10] w' fun e w'' => e = .returned (.string ⟨(Lib.itoa v).toArray⟩) ∧ Below w'.heap.size w' w'') :
 Calls Tryz.prog 37 #[.string s] w fun e w' => e = .returned (.tuple #[.int .i64 0,.bool false]) ∧ Below w.heap.size w w' := by
 have HS := Lib.hid hs; clear hs
 go_enter Tryz.func37,Tryz.ntmps37
 go_wp2_with (first | (go_at_call 46; refine (Tryz.strings_TrimPrefix _ _ _).mono ?_; rintro e w' ⟨rfl,rfl⟩) | (go_at_call 47; refine hP.mono ?_; rintro e w1 ⟨rfl,hw1⟩) | (go_at_call 48; refine (hF _ hw1).mono ?_; rintro e w2 ⟨rfl,hw2⟩) | go_in)
 all_goals first
  | (exfalso; omega)
  | skip
 ·go_ret2; exact ⟨rfl,hw1.trans (hw2.mono hw1.size)⟩
 ·rename_i h
  exfalso
  apply HS.out
  simpa [Lib.toList_data] using h
end
theorem rd_walk : RdWalk Tryz.prog 37 47 48 := ⟨⟨_,Tryz.func37,by decide +kernel,rfl⟩,rd_long,rd_bad,rd_ok,rd_no⟩
theorem ok_impl_ReadDecimal : FOk Tryz.prog phi 522 impl_ReadDecimal_c := readDecimal_ok Tryz.laysC174 Tryz.laysM173 ⟨3,by kernel_rfl⟩ (by kernel_rfl) (by kernel_rfl) rd_walk (by kernel_rfl)
theorem ok_impl_ReadList : FOk Tryz.prog phi 457 impl_ReadList_c := fn_ok hm (D := impl_ReadList_D) (DOk.cons ok_impl_within (DOk.cons ok_impl_ReadDecimal (DOk.cons ok_strings_Split DOk.nil))) (by kernel_rfl) _ _ _ _
theorem ok_impl_ReadStep : FOk Tryz.prog phi 82 impl_ReadStep_c := fn_ok hm (D := impl_ReadStep_D) (DOk.cons ok_impl_StepText (DOk.cons ok_impl_ReadList (DOk.cons ok_impl_SplitWords DOk.nil))) (by kernel_rfl) _ _ _ _
theorem ok_laws_r8Has : FOk Tryz.prog phi 77 laws_r8Has_c := fn_ok hm (D := laws_r8Has_D) DOk.nil (by kernel_rfl) _ _ _ _
theorem ok_laws_r8Same : FOk Tryz.prog phi 80 laws_r8Same_c := fn_ok hm (D := laws_r8Same_D) DOk.nil (by kernel_rfl) _ _ _ _
theorem ok_impl_at : FOk Tryz.prog phi 4 impl_at_c := fn_ok hm (D := impl_at_D) DOk.nil (by kernel_rfl) _ _ _ _
theorem ok_impl_NeededBefore : FOk Tryz.prog phi 79 impl_NeededBefore_c := fn_ok hm (D := impl_NeededBefore_D) (DOk.cons ok_impl_at (DOk.cons ok_impl_ValidSteps DOk.nil)) (by kernel_rfl) _ _ _ _
theorem ok_spec_l01Small : FOk Tryz.prog phi 11 spec_l01Small_c := fn_ok hm (D := spec_l01Small_D) DOk.nil (by kernel_rfl) _ _ _ _
theorem ok_spec_l01Digit : FOk Tryz.prog phi 12 spec_l01Digit_c := fn_ok hm (D := spec_l01Digit_D) DOk.nil (by kernel_rfl) _ _ _ _
theorem ok_spec_l01Name : FOk Tryz.prog phi 13 spec_l01Name_c := fn_ok hm (D := spec_l01Name_D) (DOk.cons ok_spec_l01Small (DOk.cons ok_spec_l01Digit DOk.nil)) (by kernel_rfl) _ _ _ _
theorem ok_spec_l00In : FOk Tryz.prog phi 1 spec_l00In_c := fn_ok hm (D := spec_l00In_D) DOk.nil (by kernel_rfl) _ _ _ _
theorem ok_spec_l00Rises : FOk Tryz.prog phi 804 spec_l00Rises_c := fn_ok hm (D := spec_l00Rises_D) (DOk.cons ok_spec_l00In DOk.nil) (by kernel_rfl) _ _ _ _
theorem ok_spec_l17One : FOk Tryz.prog phi 846 spec_l17One_c := fn_ok hm (D := spec_l17One_D) (DOk.cons ok_spec_l00In (DOk.cons ok_spec_l01Name (DOk.cons ok_spec_l00Rises DOk.nil))) (by kernel_rfl) _ _ _ _
theorem ok_spec_l17Ok : FOk Tryz.prog phi 462 spec_l17Ok_c := fn_ok hm (D := spec_l17Ok_D) (DOk.cons ok_spec_l00Rises (DOk.cons ok_spec_l17One DOk.nil)) (by kernel_rfl) _ _ _ _
theorem ok_spec_NeededBefore : FOk Tryz.prog phi 78 spec_NeededBefore_c := fn_ok hm (D := spec_NeededBefore_D) (DOk.cons ok_spec_l00In (DOk.cons ok_spec_l17Ok DOk.nil)) (by kernel_rfl) _ _ _ _
theorem ok_laws_FnRepairs : FOk Tryz.prog phi 1250 laws_FnRepairs_c := fn_ok hm (D := laws_FnRepairs_D) (DOk.cons ok_laws_r8Has (DOk.cons ok_spec_NeededBefore (DOk.cons ok_impl_NeededBefore (DOk.cons ok_laws_r8Same (DOk.cons ok_impl_StepText (DOk.cons ok_impl_ReadStep (DOk.cons ok_impl_ValidSteps (DOk.cons ok_impl_CriticalSteps (DOk.cons ok_impl_TotalHours (DOk.cons ok_impl_LatestStarts (DOk.cons ok_impl_EarliestStarts (DOk.cons ok_spec_R8Steps (DOk.cons ok_laws_r8Long DOk.nil))))))))))))) (by kernel_rfl) _ _ _ _
theorem law : ∀ x,wfU laws_FnRepairs_c.ps x → ∃ y,laws_FnRepairs_c.f x = some y ∧ resA laws_FnRepairs_c y = ([A.bool true],[]) := fun x hx => ⟨true,(laws_FnRepairs_true x.1 x.2.1 hx.1 hx.2.1),rfl⟩
theorem own : ownKnob Tryz.prog.godebug = none := by kernel_rfl
theorem laid : laidOutB Tryz.prog = true := by kernel_rfl
theorem reads : ∀ t ∈ Tryz.f3.params.toList,Tryz.prog.readableRec t = true ∧ t < Tryz.prog.types.size := by
 have h : (Tryz.f3.params.toList.all fun t => Tryz.prog.readableRec t && decide (t < Tryz.prog.types.size)) = true := by kernel_rfl
 intro t ht
 have := List.all_eq_true.1 h t ht
 simpa only [Bool.and_eq_true,decide_eq_true_eq] using this
theorem spec_eq (H : Type) : ∀ (ds : List (DataW H)),ds.length = Tryz.f3.params.toList.length → Rows.fnRepairsSpec.fn H ds = { results := [.lit (.bool true)],args := ds } := by
 intro ds hd
 have hd : ds.length = 2 := hd
 match ds,hd with
 | [d0,d1],_ => rfl
theorem tab (W : World) (hL : laidMetH Tryz.prog Rows.fnRepairsRow.laid W) : ∀ i,Tryz.prog.globalNamed pow10Name = some i → Lib.TabIs Tryz.prog W pow10Name .u64 Lib.pow10Tab := by
 intro i hi
 have hp : (Rows.fnRepairsRow.laid.all fun x => x.2.handleName?.isNone) = true := by kernel_rfl
 rw [MakeChecks.laidMetH_plain _ _ _ hp] at hL
 have h1 : laidMet Tryz.prog (("internal/strconv.uint64pow10",Rows.laid_internal_strconv_uint64pow10) :: [("unicode/utf8.acceptRanges",Rows.laid_unicode_utf8_acceptRanges),("strconv.ErrRange",Rows.laid_strconv_ErrRange),("strconv.ErrSyntax",Rows.laid_strconv_ErrSyntax),("unicode/utf8.first",Rows.laid_unicode_utf8_first)]) W := (laidMet.tail (laidMet.tail hL))
 have e : (Rows.laid_internal_strconv_uint64pow10 : DataW Unit) = Lib.tabData .u64 Lib.pow10Tab := by kernel_rfl
 rw [e] at h1
 exact Lib.tabIs_of_head (t := 121) (e := 57) (n := 20) hi (by obtain rfl := Option.some.inj ((show Tryz.prog.globalNamed pow10Name = some 3 by kernel_rfl).symm.trans hi); kernel_rfl) (by kernel_rfl) (by kernel_rfl) (by kernel_rfl) (by kernel_rfl) h1
theorem errs (W : World) (hL : laidMetH Tryz.prog Rows.fnRepairsRow.laid W) : ∀ n,errNames.contains n = true → ∀ i,Tryz.prog.globalNamed n = some i → ∃ u v,W.var? Tryz.prog n = some #[.iface u v] := by
 intro n hn i hi
 have hn : n = "strconv.ErrSyntax" ∨ n = "strconv.ErrRange" := by simpa [errNames] using hn
 have hp : (Rows.fnRepairsRow.laid.all fun x => x.2.handleName?.isNone) = true := by kernel_rfl
 rw [MakeChecks.laidMetH_plain _ _ _ hp] at hL
 rcases hn with rfl | rfl
 ·have h1 : laidMet Tryz.prog (("strconv.ErrSyntax",Rows.laid_strconv_ErrSyntax) :: [("unicode/utf8.first",Rows.laid_unicode_utf8_first)]) W := (laidMet.tail (laidMet.tail (laidMet.tail (laidMet.tail (laidMet.tail hL)))))
  exact laid_iface (ti := 78) h1 ⟨_,_,rfl⟩ hi (by obtain rfl := Option.some.inj ((show Tryz.prog.globalNamed "strconv.ErrSyntax" = some 1 by kernel_rfl).symm.trans hi); kernel_rfl) Tryz.underlying78
 ·have h1 : laidMet Tryz.prog (("strconv.ErrRange",Rows.laid_strconv_ErrRange) :: [("strconv.ErrSyntax",Rows.laid_strconv_ErrSyntax),("unicode/utf8.first",Rows.laid_unicode_utf8_first)]) W := (laidMet.tail (laidMet.tail (laidMet.tail (laidMet.tail hL))))
  exact laid_iface (ti := 78) h1 ⟨_,_,rfl⟩ hi (by obtain rfl := Option.some.inj ((show Tryz.prog.globalNamed "strconv.ErrRange" = some 2 by kernel_rfl).symm.trans hi); kernel_rfl) Tryz.underlying78
theorem contract (H : Type) (enc : TypeId × Value → H) (W : World) (base : Nat) (args : Array Value) (ds gs : List (DataW H)) (before : List MemPlace)
 (hval : ∀ (j : Nat) t v,Tryz.f3.params[j]? = some t → args[j]? = some v → Value.okWide Tryz.prog W .any base t v)
 (hW : DataW.Whole enc Tryz.prog Tryz.f3.params.toList Rows.fnRepairsSpec.vars false W args.toList ds gs before) (hL : laidMetH Tryz.prog Rows.fnRepairsRow.laid W) (hsh : W.ShapedOpen Tryz.prog) :
 Calls Tryz.prog 3 args W fun e W' => ∃ v,e = .returned v ∧ Rows.fnRepairsSpec.post enc Tryz.prog Tryz.f3 false true false false W args v W' :=
 row_contract (φ := phi) (g := 1250) (n := 20) ok_laws_FnRepairs rfl rfl (tb := 4) Tryz.underlying4 (by kernel_rfl) rfl law laid reads spec_eq W base args ds gs before hval hW (Glob.start hsh (tab W hL) (errs W hL))
theorem lifted (os : Os) (started : os.Started) (H : Type) (enc : TypeId × Value → H) :
 ReturnsInHanded {} Tryz.checked os 3 .any (fun w args => (Rows.fnRepairsSpec.pre enc Tryz.prog Tryz.f3 Rows.fnRepairsRow.domain false w args ∧ laidMetH Tryz.prog Rows.fnRepairsRow.laid w) ∧ sizedMet enc Tryz.prog Tryz.f3 (OpenSpec.ofChange Rows.fnRepairsSpec) false w args) (Rows.fnRepairsSpec.post enc Tryz.prog Tryz.f3 false true false false) := by
 refine returnsInHanded_laid (C := Tryz.checked) (laid := Rows.fnRepairsRow.laid) own started (by kernel_rfl) Tryz.func3
  (ChangeSpec.witness_shaped (enc := enc) (C := Tryz.checked) (os := os) (X := fun w _ => laidMetH Tryz.prog Rows.fnRepairsRow.laid w) false (World.laidAll Tryz.prog os Rows.fnRepairsRow.laid) #[.slice none 0 0,.slice none 0 0] 12 (World.laidAll_os _ _ _)
    (World.shaped_of_ZipB (by kernel_rfl) (by kernel_rfl)) (by kernel_rfl) (by kernel_rfl) (by kernel_rfl)
    (by rw [MakeChecks.laidMetH_plain _ _ _ (by kernel_rfl)]; exact laidMet_laidAll _ (by kernel_rfl) (by kernel_rfl))) ?_
 intro W base args ds gs before hval hW hL hsh
 exact contract H enc W base args ds gs before hval hW hL hsh
theorem over : Rows.fnRepairsRow.holds Tryz.pinned (OpenSpec.ofChange Rows.fnRepairsSpec) :=
 OpenClaim.holds_of_wide 3 Tryz.f3 rfl rfl rfl rfl rfl rfl rfl ⟨rfl,rfl,rfl,rfl,rfl⟩ rfl rfl rfl rfl rfl (by kernel_rfl) Tryz.func3 (by kernel_rfl)
  (of_decide_eq_true (by kernel_rfl)) (by unfold Func.isWrapper; first | (rw [if_pos (by decide +kernel)]; kernel_rfl) | (rw [if_neg (by decide +kernel)]; exact ⟨rfl,rfl⟩))
  (fun os started H enc _ => lifted os started H enc)
theorem card : Rows.FnRepairsCardSaid :=
 Claim7.holds_tied_plain_at .later [] [.data,.data,.data,.data,.sentinel,.sentinel,.pinned] true (true,"2a0a9bc970b778aefdca0e12b14620e07a3ba17668ec8b3f86c0265859f698c2") true over (fun _ h => by cases h) (by kernel_rfl) (fun _ h => by cases h) fnRepairs_row_tie rfl ⟨rfl,rfl⟩ (by kernel_rfl) rfl
  (fun f fn hf hfn => by
    obtain rfl : f = 3 := Option.some.inj ((show Tryz.prog.funcNamed "loop.example/g01061/laws.FnRepairs" = some 3 by kernel_rfl).symm.trans hf) |>.symm
    obtain rfl : fn = Tryz.f3 := (Option.some.inj (Tryz.func3.symm.trans hfn)).symm
    exact ⟨by kernel_rfl,fun j t ht => by
     have hm : t ∈ Tryz.f3.params.toList := by simpa using Array.mem_of_getElem? ht
     have hall : (Tryz.f3.params.toList.all fun u => !Tryz.prog.wantsStandIn u) = true := by kernel_rfl
     exact (show Tryz.prog.wantsStandIn t = false by simpa using List.all_eq_true.1 hall t hm)⟩)
  (by kernel_rfl)
theorem proved : Rows.FnRepairsCardSaid := card
end Go.Proofs.YtdejhkhdilcadaaGreatDoor.fnRepairs
