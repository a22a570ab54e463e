/- The law FnClamps answers true for every input, whatever it is, and leaves its arguments as they were. Conditions: none. -/
import Derived.Test.YtnfdkcpnoolmfaaQFnClamps
import Derived.Test.YtnfdkcpnoolmfaaRows
import Derived.Test.YtnfdkcpnoolmfaaL5
import Derived.Test.YtnfdkcpnoolmfaaL6
import Derived.Carry
import Derived.WalkKit
import Derived.ProofKit
import Derived.OpenShut
import Derived.JoinedOf
import Derived.Handed
set_option linter.unusedVariables false
set_option maxRecDepth 100000
namespace Go.Proofs.Ytnfdkcpnoolmfaa.fnClamps
open Go.Ab Go.Ab.P
open Go.ChangeShapes Go.WideShapes Go.ChangeAt Go.RowKit
def phiL : List (Nat × Nat) := [(89,5),(441,22),(847,97),(463,64),(642,98),(845,65),(453,23),(88,6),(151,7),(23,36),(22,112),(21,67),(24,99),(461,66),(83,24),(534,25),(539,34),(540,35),(868,68),(533,26),(164,8),(11,113),(12,114),(13,100),(1,31),(804,70),(846,69),(462,27),(17,71),(535,28),(163,9),(536,29),(162,10),(80,11),(537,30),(720,72),(538,32),(160,12),(541,33),(161,13),(159,14),(456,37),(157,15),(543,38),(869,73),(542,39),(158,16),(1249,3)]
def phi (n : Nat) : Nat := (phiL.lookup n).getD 1000000
theorem hm : Try.prog.follows .mixedOrders = true := by kernel_rfl
theorem ok_laws_r8Long : FOk Try.prog phi 89 laws_r8Long_c := fn_ok hm (D := laws_r8Long_D) DOk.nil (by kernel_rfl) _ _ _ _
theorem ok_spec_l00From : FOk Try.prog phi 441 spec_l00From_c := fn_ok hm (D := spec_l00From_D) DOk.nil (by kernel_rfl) _ _ _ _
theorem ok_spec_l00Src_next : FOk Try.prog phi 847 spec_l00Src_next_c := fn_ok hm (D := spec_l00Src_next_D) DOk.nil (by kernel_rfl) _ _ _ _
theorem ok_spec_l00Src_pick : FOk Try.prog phi 463 spec_l00Src_pick_c := fn_ok hm (D := spec_l00Src_pick_D) (DOk.cons ok_spec_l00Src_next DOk.nil) (by kernel_rfl) _ _ _ _
theorem ok_spec_l00Src_one : FOk Try.prog phi 642 spec_l00Src_one_c := fn_ok hm (D := spec_l00Src_one_D) (DOk.cons ok_spec_l00Src_pick DOk.nil) (by kernel_rfl) _ _ _ _
theorem ok_spec_l17DrawOne : FOk Try.prog phi 845 spec_l17DrawOne_c := fn_ok hm (D := spec_l17DrawOne_D) (DOk.cons ok_spec_l00Src_pick (DOk.cons ok_spec_l00Src_one DOk.nil)) (by kernel_rfl) _ _ _ _
theorem ok_spec_l17Draw : FOk Try.prog phi 453 spec_l17Draw_c := fn_ok hm (D := spec_l17Draw_D) (DOk.cons ok_spec_l00Src_pick (DOk.cons ok_spec_l17DrawOne DOk.nil)) (by kernel_rfl) _ _ _ _
theorem ok_spec_R8Steps : FOk Try.prog phi 88 spec_R8Steps_c := fn_ok hm (D := spec_R8Steps_D) (DOk.cons ok_spec_l00From (DOk.cons ok_spec_l17Draw DOk.nil)) (by kernel_rfl) _ _ _ _
theorem ok_laws_r8At : FOk Try.prog phi 151 laws_r8At_c := fn_ok hm (D := laws_r8At_D) DOk.nil (by kernel_rfl) _ _ _ _
theorem ok_impl_within : FOk Try.prog phi 23 impl_within_c := fn_ok hm (D := impl_within_D) DOk.nil (by kernel_rfl) _ _ _ _
theorem ok_impl_isDigit : FOk Try.prog phi 22 impl_isDigit_c := fn_ok hm (D := impl_isDigit_D) DOk.nil (by kernel_rfl) _ _ _ _
theorem ok_impl_few : FOk Try.prog phi 21 impl_few_c := fn_ok hm (D := impl_few_D) DOk.nil (by kernel_rfl) _ _ _ _
theorem ok_impl_IsName : FOk Try.prog phi 24 impl_IsName_c := fn_ok hm (D := impl_IsName_D) (DOk.cons ok_impl_few (DOk.cons ok_impl_isDigit DOk.nil)) (by kernel_rfl) _ _ _ _
theorem ok_impl_Step_valid : FOk Try.prog phi 461 impl_Step_valid_c := fn_ok hm (D := impl_Step_valid_D) (DOk.cons ok_impl_within (DOk.cons ok_impl_IsName DOk.nil)) (by kernel_rfl) _ _ _ _
theorem vs_key : Maps.Keyed Try.prog 9 := Maps.string_keyed Try.underlying9
theorem vs_zero (w : World) : (zeroValue 4).run Try.prog w = .ok (.bool false) w := by kernel_rfl
theorem vs_none (a : Option Addr) (cap : Nat) (w : World) (fin : Bool)
 (hF : ∀ w',Lo w.heap.size w w' → Calls Try.prog 67 #[.int .i64 0,.int .i64 12] w' fun e w'' => e = .returned (.bool fin) ∧ Lo w'.heap.size w' w'') :
 Calls Try.prog 24 #[.slice a 0 cap] w fun e w' => e = .returned (.bool fin) ∧ Lo w.heap.size w w' := by
 have hmm := @run_makeMap Try.prog
 go_enter Try.func24,Try.ntmps24
 go_wp2
 refine wp_loop_rounds 1 ?_
 rw [rounds_succ]
 go_wp2_with (go_at_call 67; refine (hF _ ((Lo.refl _ _).alloc (Nat.le_refl _) _)).mono ?_; rintro e w1 ⟨rfl,hw1⟩)
 go_ret
 exact ⟨rfl,((Lo.refl _ _).alloc (Nat.le_refl _) _).trans (hw1.mono (by simp))⟩
set_option maxHeartbeats 1600000 in
theorem vs_run (b off len cap : Nat) (w : World) (ids : Nat → List UInt8) (hs cs : Nat → Int) (aa : Nat → Option Addr) (al ac : Nat → Nat) (ok : Nat → Bool) (last : Nat → Int) (fin : Bool)
 (hb : b < w.heap.size) (hl : len ≤ 9223372036854775807)
 (h0 : ∀ j,j < len → w.cell? ⟨b,off + j * 4,none⟩ = some (.string ⟨(ids j).toArray⟩))
 (h1 : ∀ j,j < len → w.cell? ⟨b,off + j * 4 + 1,none⟩ = some (.int .i64 (hs j)))
 (h2 : ∀ j,j < len → w.cell? ⟨b,off + j * 4 + 2,none⟩ = some (.int .i64 (cs j)))
 (h3 : ∀ j,j < len → w.cell? ⟨b,off + j * 4 + 3,none⟩ = some (.slice (aa j) (al j) (ac j)))
 (h4 : ∀ j,j < len → 0 < al j → ∃ c o,aa j = some ⟨c,o,none⟩ ∧ c < w.heap.size ∧ al j ≤ 9223372036854775807 ∧ w.cell? ⟨c,o + (al j - 1),none⟩ = some (.int .i64 (last j)))
 (h5 : ∀ j,j < len → (ids j).length ≤ 9223372036854775807)
 (hV : ∀ j,j < len → ∀ w',Lo w.heap.size w w' → Calls Try.prog 66 #[.agg #[.string ⟨(ids j).toArray⟩,.int .i64 (hs j),.int .i64 (cs j),.slice (aa j) (al j) (ac j)]] w' fun e w'' => e = .returned (.bool (ok j)) ∧ Lo w'.heap.size w' w'')
 (hF : ∀ w',Lo w.heap.size w w' → Calls Try.prog 67 #[.int .i64 len,.int .i64 12] w' fun e w'' => e = .returned (.bool fin) ∧ Lo w'.heap.size w' w'') :
 Calls Try.prog 24 #[.slice (some ⟨b,off,none⟩) len cap] w fun e w' => e = .returned (.bool (vsGo ids al last ok fin len 0)) ∧ Lo w.heap.size w w' := by
 have hmm := @run_makeMap Try.prog
 go_enter Try.func24,Try.ntmps24
 go_wp2
 go_loopw [9] (fun i wr => ∃ k : Nat,k ≤ len ∧ i = .int .i64 k ∧ wr.ownsMap Try.prog 9 (Go.plainElem (H := Unit) Try.prog 4) w.heap.size k (vsD ids k) ∧
  Lo w.heap.size w wr ∧ w.heap.size + 1 ≤ wr.heap.size ∧ vsGo ids al last ok fin len 0 = vsGo ids al last ok fin (len - k) k)
  (fun i _ => len - (intOf i).toNat)
 case atStart => exact ⟨0,Nat.zero_le _,rfl,World.ownsMap_made _ _ _ _,(Lo.refl _ _).alloc (Nat.le_refl _) _,by simp,rfl⟩
 case round =>
  obtain ⟨k,hk,rfl,hown,hnx,hws,hgo⟩ := hrel
  rcases Nat.lt_or_ge k len with hkl | hkl
  ·have HG : Hid (vsGo ids al last ok fin len 0 = if ok k then (if vsSeen ids k k then false else if decide (0 < al k) && decide ((k : Int) ≤ last k) then false else vsGo ids al last ok fin (len - (k + 1)) (k + 1)) else false) := by
    rw [hgo,show len - k = (len - (k + 1)) + 1 from by omega]; rfl
   clear hgo
   have c0 := (hnx.cell (by exact hb)).trans (h0 k hkl)
   have c1 := (hnx.cell (by exact hb)).trans (h1 k hkl)
   have c2 := (hnx.cell (by exact hb)).trans (h2 k hkl)
   have c3 := (hnx.cell (by exact hb)).trans (h3 k hkl)
   have V := hV k hkl
   have hkey : keyOf Try.prog 9 (.string ⟨(ids k).toArray⟩) = some (.string (ids k)) := WideMaps.keyOf_string_mk Try.underlying9 (show (ids k).length ≤ Go.maxLen from h5 k hkl)
   rcases Nat.eq_zero_or_pos (al k) with ha | ha
   ·have A : Hid (al k = 0) := ha
    rw [ha] at c3 V
    clear ha
    go_wp2_with (first
     | (go_at_call 66; refine (V _ (hnx.alloc hnx.size _)).mono ?_; rintro e w1 ⟨rfl,hw1⟩
        have g0 : w1.cell? ⟨wr.heap.size,0,none⟩ = some (.string ⟨(ids k).toArray⟩) := (hw1.cell (by rw [size_alloc]; exact Nat.lt_succ_self _)).trans (cell_new4 _ _ _ _ _ rfl)
        have g3 : w1.cell? ⟨wr.heap.size,3,none⟩ = some (.slice (aa k) 0 (ac k)) := (hw1.cell (by rw [size_alloc]; exact Nat.lt_succ_self _)).trans (cell_new4 _ _ _ _ _ rfl))
     | (at_lookup; refine wpList_lookup_own_bool _ rfl _ _ 101 rfl 9 4 vs_key Try.underlying101 Try.underlying4 (vs_zero _) w.heap.size k _ rfl (ownsMap_below (hown.alloc _) hw1) _ _ rfl hkey _ (vsD_at ids k k) ?_)
     | (at_mapUpdate; refine wpList_mapUpdate_own _ rfl _ _ _ 101 rfl 9 4 vs_key Try.underlying101 (Go.plainElem (H := Unit) Try.prog 4) w.heap.size k _ rfl (ownsMap_below (hown.alloc _) hw1) (by unfold maxLen; omega) _ _ _ rfl rfl hkey _ [] (plainElem_bool Try.underlying4 true) ?_; intro w2 hown2 hgrow2)
     | go_in)
    ·go_ret
     exact ⟨by rw [HG.out]; simp [*],(hnx.alloc hnx.size _).trans (hw1.mono (by simp; omega))⟩
    ·have A := A.out
     go_roundw
     case rel => exact ⟨k + 1,by omega,by go_num,hown2,((hnx.alloc hnx.size _).trans (hw1.mono (by simp; omega))).grown hgrow2 (by have := hw1.size; rw [size_alloc] at this; omega) (fun j hj => by cases hj; exact Nat.le_refl _),by have h1 := hw1.size; have h2 := hgrow2.size; simp at h1; omega,by rw [HG.out]; simp [*]⟩
     case measure => simp [intOf]; omega
    ·go_ret
     exact ⟨by rw [HG.out]; simp [*],(hnx.alloc hnx.size _).trans (hw1.mono (by simp; omega))⟩
   ·obtain ⟨c,o,e,hc,hcap,hcl⟩ := h4 k hkl ha
    have A : Hid (0 < al k) := ha
    obtain ⟨m,hm⟩ : ∃ m,al k = m + 1 := ⟨al k - 1,by omega⟩
    have M : Hid (al k = m + 1) := hm
    rw [hm] at hcap hcl
    rw [hm,e] at c3 V
    rw [Nat.add_sub_cancel] at hcl
    have hw64 : wrap64 (m : Int) = m := by unfold wrap64; omega
    have hcl' := (hnx.cell (by exact hc)).trans hcl
    clear ha hm hcl
    go_wp2_with (first
     | (go_at_call 66; refine (V _ (hnx.alloc hnx.size _)).mono ?_; rintro e w1 ⟨rfl,hw1⟩
        have g0 : w1.cell? ⟨wr.heap.size,0,none⟩ = some (.string ⟨(ids k).toArray⟩) := (hw1.cell (by rw [size_alloc]; exact Nat.lt_succ_self _)).trans (cell_new4 _ _ _ _ _ rfl)
        have g3 : w1.cell? ⟨wr.heap.size,3,none⟩ = some (.slice (some ⟨c,o,none⟩) (m + 1) (ac k)) := (hw1.cell (by rw [size_alloc]; exact Nat.lt_succ_self _)).trans (cell_new4 _ _ _ _ _ rfl)
        have gl : w1.cell? ⟨c,o + m,none⟩ = some (.int .i64 (last k)) := (hw1.cell (by have := hnx.size; rw [size_alloc]; show c < _; omega)).trans ((cell_old _ _ _ _ (by have := hnx.size; omega)).trans hcl'))
     | (at_lookup; refine wpList_lookup_own_bool _ rfl _ _ 101 rfl 9 4 vs_key Try.underlying101 Try.underlying4 (vs_zero _) w.heap.size k _ rfl (ownsMap_below (hown.alloc _) hw1) _ _ rfl hkey _ (vsD_at ids k k) ?_)
     | (at_mapUpdate; refine wpList_mapUpdate_own _ rfl _ _ _ 101 rfl 9 4 vs_key Try.underlying101 (Go.plainElem (H := Unit) Try.prog 4) w.heap.size k _ rfl (ownsMap_below (hown.alloc _) hw1) (by unfold maxLen; omega) _ _ _ rfl rfl hkey _ [] (plainElem_bool Try.underlying4 true) ?_; intro w2 hown2 hgrow2)
     | go_in)
    ·go_ret
     exact ⟨by rw [HG.out]; simp [*],(hnx.alloc hnx.size _).trans (hw1.mono (by simp; omega))⟩
    ·have A := A.out
     go_ret
     exact ⟨by rw [HG.out]; simp [*],(hnx.alloc hnx.size _).trans (hw1.mono (by simp; omega))⟩
    ·have A := A.out
     go_roundw
     case rel => exact ⟨k + 1,by omega,by go_num,hown2,((hnx.alloc hnx.size _).trans (hw1.mono (by simp; omega))).grown hgrow2 (by have := hw1.size; rw [size_alloc] at this; omega) (fun j hj => by cases hj; exact Nat.le_refl _),by have h1 := hw1.size; have h2 := hgrow2.size; simp at h1; omega,by rw [HG.out]; simp [*]⟩
     case measure => simp [intOf]; omega
    ·go_ret
     exact ⟨by rw [HG.out]; simp [*],(hnx.alloc hnx.size _).trans (hw1.mono (by simp; omega))⟩
  ·have : k = len := by omega
   subst this
   go_wp2_with (go_at_call 67; refine (hF _ hnx).mono ?_; rintro e w1 ⟨rfl,hw1⟩)
   go_ret
   exact ⟨by rw [hgo,Nat.sub_self]; rfl,hnx.trans (hw1.mono hnx.size)⟩
theorem vs_walk : VsWalk Try.prog 24 66 67 := ⟨⟨_,Try.func24,by decide +kernel,rfl⟩,vs_none,vs_run⟩
theorem ok_impl_ValidSteps : FOk Try.prog phi 83 impl_ValidSteps_c := validSteps_ok (gv := 461) (gf := 21) vs_walk (fun x b h => callOk_one ok_impl_Step_valid h) (fun m n b h => callOk_two ok_impl_few h) (by kernel_rfl)
theorem ok_impl_isClamps : FOk Try.prog phi 534 impl_isClamps_c := fn_ok hm (D := impl_isClamps_D) (DOk.cons ok_impl_within DOk.nil) (by kernel_rfl) _ _ _ _
theorem ok_impl_ready : FOk Try.prog phi 539 impl_ready_c := fn_ok hm (D := impl_ready_D) DOk.nil (by kernel_rfl) _ _ _ _
theorem ok_impl_used : FOk Try.prog phi 540 impl_used_c := fn_ok hm (D := impl_used_D) (DOk.cons ok_impl_within DOk.nil) (by kernel_rfl) _ _ _ _
theorem ok_impl_room : FOk Try.prog phi 868 impl_room_c := fn_ok hm (D := impl_room_D) (DOk.cons ok_impl_used DOk.nil) (by kernel_rfl) _ _ _ _
theorem ok_impl_planned : FOk Try.prog phi 533 impl_planned_c := fn_ok hm (D := impl_planned_D) (DOk.cons ok_impl_ready (DOk.cons ok_impl_room DOk.nil)) (by kernel_rfl) _ _ _ _
theorem ok_impl_WithClamps : FOk Try.prog phi 164 impl_WithClamps_c := fn_ok hm (D := impl_WithClamps_D) (DOk.cons ok_impl_ValidSteps (DOk.cons ok_impl_planned (DOk.cons ok_impl_isClamps DOk.nil))) (by kernel_rfl) _ _ _ _
theorem ok_spec_l01Small : FOk Try.prog phi 11 spec_l01Small_c := fn_ok hm (D := spec_l01Small_D) DOk.nil (by kernel_rfl) _ _ _ _
theorem ok_spec_l01Digit : FOk Try.prog phi 12 spec_l01Digit_c := fn_ok hm (D := spec_l01Digit_D) DOk.nil (by kernel_rfl) _ _ _ _
theorem ok_spec_l01Name : FOk Try.prog phi 13 spec_l01Name_c := fn_ok hm (D := spec_l01Name_D) (DOk.cons ok_spec_l01Small (DOk.cons ok_spec_l01Digit DOk.nil)) (by kernel_rfl) _ _ _ _
theorem ok_spec_l00In : FOk Try.prog phi 1 spec_l00In_c := fn_ok hm (D := spec_l00In_D) DOk.nil (by kernel_rfl) _ _ _ _
theorem ok_spec_l00Rises : FOk Try.prog phi 804 spec_l00Rises_c := fn_ok hm (D := spec_l00Rises_D) (DOk.cons ok_spec_l00In DOk.nil) (by kernel_rfl) _ _ _ _
theorem ok_spec_l17One : FOk Try.prog phi 846 spec_l17One_c := fn_ok hm (D := spec_l17One_D) (DOk.cons ok_spec_l00In (DOk.cons ok_spec_l01Name (DOk.cons ok_spec_l00Rises DOk.nil))) (by kernel_rfl) _ _ _ _
theorem ok_spec_l17Ok : FOk Try.prog phi 462 spec_l17Ok_c := fn_ok hm (D := spec_l17Ok_D) (DOk.cons ok_spec_l00Rises (DOk.cons ok_spec_l17One DOk.nil)) (by kernel_rfl) _ _ _ _
theorem ok_spec_l00Max : FOk Try.prog phi 17 spec_l00Max_c := fn_ok hm (D := spec_l00Max_D) DOk.nil (by kernel_rfl) _ _ _ _
theorem ok_spec_l17Early : FOk Try.prog phi 535 spec_l17Early_c := fn_ok hm (D := spec_l17Early_D) (DOk.cons ok_spec_l00Max DOk.nil) (by kernel_rfl) _ _ _ _
theorem ok_spec_EarliestStarts : FOk Try.prog phi 163 spec_EarliestStarts_c := fn_ok hm (D := spec_EarliestStarts_D) (DOk.cons ok_spec_l17Ok (DOk.cons ok_spec_l17Early DOk.nil)) (by kernel_rfl) _ _ _ _
theorem ok_spec_l17End : FOk Try.prog phi 536 spec_l17End_c := fn_ok hm (D := spec_l17End_D) (DOk.cons ok_spec_l00Max DOk.nil) (by kernel_rfl) _ _ _ _
theorem ok_spec_TotalHours : FOk Try.prog phi 162 spec_TotalHours_c := fn_ok hm (D := spec_TotalHours_D) (DOk.cons ok_spec_l17Ok (DOk.cons ok_spec_l17Early (DOk.cons ok_spec_l17End DOk.nil))) (by kernel_rfl) _ _ _ _
theorem ok_laws_r8Same : FOk Try.prog phi 80 laws_r8Same_c := fn_ok hm (D := laws_r8Same_D) DOk.nil (by kernel_rfl) _ _ _ _
theorem ok_spec_l17Starts : FOk Try.prog phi 537 spec_l17Starts_c := fn_ok hm (D := spec_l17Starts_D) (DOk.cons ok_spec_l00In DOk.nil) (by kernel_rfl) _ _ _ _
theorem ok_spec_l17Used : FOk Try.prog phi 720 spec_l17Used_c := fn_ok hm (D := spec_l17Used_D) DOk.nil (by kernel_rfl) _ _ _ _
theorem ok_spec_l17Keeps : FOk Try.prog phi 538 spec_l17Keeps_c := fn_ok hm (D := spec_l17Keeps_D) (DOk.cons ok_spec_l17Used DOk.nil) (by kernel_rfl) _ _ _ _
theorem ok_spec_KeepsClamps : FOk Try.prog phi 160 spec_KeepsClamps_c := fn_ok hm (D := spec_KeepsClamps_D) (DOk.cons ok_spec_l00In (DOk.cons ok_spec_l17Ok (DOk.cons ok_spec_l17Starts (DOk.cons ok_spec_l17Keeps DOk.nil)))) (by kernel_rfl) _ _ _ _
theorem ok_impl_areStarts : FOk Try.prog phi 541 impl_areStarts_c := fn_ok hm (D := impl_areStarts_D) (DOk.cons ok_impl_within DOk.nil) (by kernel_rfl) _ _ _ _
theorem ok_impl_KeepsClamps : FOk Try.prog phi 161 impl_KeepsClamps_c := fn_ok hm (D := impl_KeepsClamps_D) (DOk.cons ok_impl_ValidSteps (DOk.cons ok_impl_isClamps (DOk.cons ok_impl_ready (DOk.cons ok_impl_used (DOk.cons ok_impl_areStarts DOk.nil))))) (by kernel_rfl) _ _ _ _
theorem ok_impl_ClampsUsed : FOk Try.prog phi 159 impl_ClampsUsed_c := fn_ok hm (D := impl_ClampsUsed_D) (DOk.cons ok_impl_within (DOk.cons ok_impl_ValidSteps (DOk.cons ok_impl_used (DOk.cons ok_impl_areStarts DOk.nil)))) (by kernel_rfl) _ _ _ _
theorem ok_impl_ended : FOk Try.prog phi 456 impl_ended_c := fn_ok hm (D := impl_ended_D) DOk.nil (by kernel_rfl) _ _ _ _
theorem ok_impl_FewestClamps : FOk Try.prog phi 157 impl_FewestClamps_c := fn_ok hm (D := impl_FewestClamps_D) (DOk.cons ok_impl_within (DOk.cons ok_impl_ValidSteps (DOk.cons ok_impl_ended (DOk.cons ok_impl_planned (DOk.cons ok_impl_isClamps DOk.nil))))) (by kernel_rfl) _ _ _ _
theorem ok_spec_l17Clamps : FOk Try.prog phi 543 spec_l17Clamps_c := fn_ok hm (D := spec_l17Clamps_D) DOk.nil (by kernel_rfl) _ _ _ _
theorem ok_spec_l17Free : FOk Try.prog phi 869 spec_l17Free_c := fn_ok hm (D := spec_l17Free_D) (DOk.cons ok_spec_l17Used DOk.nil) (by kernel_rfl) _ _ _ _
theorem ok_spec_l17Plan : FOk Try.prog phi 542 spec_l17Plan_c := fn_ok hm (D := spec_l17Plan_D) (DOk.cons ok_spec_l00Max (DOk.cons ok_spec_l17Free DOk.nil)) (by kernel_rfl) _ _ _ _
theorem ok_spec_WithClamps : FOk Try.prog phi 158 spec_WithClamps_c := fn_ok hm (D := spec_WithClamps_D) (DOk.cons ok_spec_l00In (DOk.cons ok_spec_l17Ok (DOk.cons ok_spec_l17Plan (DOk.cons ok_spec_l17Clamps DOk.nil)))) (by kernel_rfl) _ _ _ _
theorem ok_laws_FnClamps : FOk Try.prog phi 1249 laws_FnClamps_c := fn_ok hm (D := laws_FnClamps_D) (DOk.cons ok_laws_r8Same (DOk.cons ok_spec_R8Steps (DOk.cons ok_laws_r8Long (DOk.cons ok_laws_r8At (DOk.cons ok_impl_FewestClamps (DOk.cons ok_spec_WithClamps (DOk.cons ok_impl_ClampsUsed (DOk.cons ok_spec_KeepsClamps (DOk.cons ok_impl_KeepsClamps (DOk.cons ok_spec_TotalHours (DOk.cons ok_spec_EarliestStarts (DOk.cons ok_impl_WithClamps DOk.nil)))))))))))) (by kernel_rfl) _ _ _ _
theorem law : ∀ x,wfU laws_FnClamps_c.ps x → ∃ y,laws_FnClamps_c.f x = some y ∧ resA laws_FnClamps_c y = ([A.bool true],[]) := fun x hx => ⟨true,(laws_FnClamps_true x.1 x.2.1 hx.1 hx.2.1),rfl⟩
theorem own : ownKnob Try.prog.godebug = none := by kernel_rfl
theorem laid : laidOutB Try.prog = true := by kernel_rfl
theorem reads : ∀ t ∈ Try.f3.params.toList,Try.prog.readableRec t = true ∧ t < Try.prog.types.size := by
 have h : (Try.f3.params.toList.all fun t => Try.prog.readableRec t && decide (t < Try.prog.types.size)) = true := by kernel_rfl
 intro t ht
 have := List.all_eq_true.1 h t ht
 simpa only [Bool.and_eq_true,decide_eq_true_eq] using this
theorem spec_eq (H : Type) : ∀ (ds : List (DataW H)),ds.length = Try.f3.params.toList.length → Rows.fnClampsSpec.fn H ds = { results := [.lit (.bool true)],args := ds } := by
 intro ds hd
 have hd : ds.length = 2 := hd
 match ds,hd with
 | [d0,d1],_ => rfl
theorem tab (W : World) : ∀ i,Try.prog.globalNamed pow10Name = some i → Lib.TabIs Try.prog W pow10Name .u64 Lib.pow10Tab := by
 intro i hi
 have h : Try.prog.globalNamed pow10Name = none := by kernel_rfl
 rw [h] at hi; cases hi
theorem errs (W : World) : ∀ n,errNames.contains n = true → ∀ i,Try.prog.globalNamed n = some i → ∃ u v,W.var? Try.prog n = some #[.iface u v] := by
 intro n hn i hi
 have hn : n = "strconv.ErrSyntax" ∨ n = "strconv.ErrRange" := by simpa [errNames] using hn
 rcases hn with rfl | rfl
 ·have h : Try.prog.globalNamed "strconv.ErrSyntax" = none := by kernel_rfl
  rw [h] at hi; cases hi
 ·have h : Try.prog.globalNamed "strconv.ErrRange" = none := by kernel_rfl
  rw [h] at hi; cases hi
theorem contract (H : Type) (enc : TypeId × Value → H) (W : World) (base : Nat) (args : Array Value) (ds gs : List (DataW H)) (before : List MemPlace)
 (hval : ∀ (j : Nat) t v,Try.f3.params[j]? = some t → args[j]? = some v → Value.okWide Try.prog W .any base t v)
 (hW : DataW.Whole enc Try.prog Try.f3.params.toList Rows.fnClampsSpec.vars false W args.toList ds gs before) (hsh : W.ShapedOpen Try.prog) :
 Calls Try.prog 3 args W fun e W' => ∃ v,e = .returned v ∧ Rows.fnClampsSpec.post enc Try.prog Try.f3 false true false false W args v W' :=
 row_contract (φ := phi) (g := 1249) (n := 20) ok_laws_FnClamps rfl rfl (tb := 4) Try.underlying4 (by kernel_rfl) rfl law laid reads spec_eq W base args ds gs before hval hW (Glob.start hsh (tab W) (errs W))
theorem lifted (os : Os) (started : os.Started) (H : Type) (enc : TypeId × Value → H) :
 ReturnsInHanded {} Try.checked os 3 .any (Rows.fnClampsSpec.pre6 enc Try.prog Try.f3 Rows.fnClampsRow.domain false) (Rows.fnClampsSpec.post enc Try.prog Try.f3 false true false false) := by
 refine returnsInHanded_of_change_shaped (C := Try.checked) own started (by kernel_rfl) Try.func3
  (ChangeSpec.witness6 (enc := enc) (C := Try.checked) false ⟨#[],#[.slice none 0 0,.slice none 0 0],[]⟩ 12 (by kernel_rfl) (by kernel_rfl) (by kernel_rfl) (by kernel_rfl)) ?_
 intro W base args ds gs before hval hW _ _ hsh _
 exact contract H enc W base args ds gs before hval hW hsh
theorem over : Rows.fnClampsRow.holds Try.pinned (OpenSpec.ofChange Rows.fnClampsSpec) :=
 OpenClaim.holds_of_wide 3 Try.f3 rfl rfl rfl rfl rfl rfl rfl ⟨rfl,rfl,rfl,rfl,rfl⟩ rfl rfl rfl rfl rfl (by kernel_rfl) Try.func3 (by kernel_rfl)
  (of_decide_eq_true (by kernel_rfl)) (by unfold Func.isWrapper; first | (rw [if_pos (by decide +kernel)]; kernel_rfl) | (rw [if_neg (by decide +kernel)]; exact ⟨rfl,rfl⟩))
  (fun os started H enc _ => lifted os started H enc)
theorem proved : Rows.FnClampsSaid := over
end Go.Proofs.Ytnfdkcpnoolmfaa.fnClamps
