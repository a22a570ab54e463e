/- The law FnExactTableLines answers true for every input, whatever it is, and leaves its arguments as they were. Conditions: none. -/
import Derived.Test.YtihgbmhhcalejaaDoorQFnExactTableLines
import Derived.Test.YtihgbmhhcalejaaDoorRows
import Derived.Test.YtihgbmhhcalejaaDoorL5
import Derived.Test.YtihgbmhhcalejaaDoorL6
import Derived.Carry
import Derived.Test.YtihgbmhhcalejaaDoorLA
import Derived.Deep.RegionHeld3
import Derived.Test.YtihgbmhhcalejaaDoorShelf
import Derived.Test.YtihgbmhhcalejaaDoorCards
import Derived.Test.YtihgbmhhcalejaaDoorTie
import Derived.LaidMore
import Derived.Lay
import Derived.SevenTiedAt
import Derived.Stop.Joined
import Derived.WalkKit
import Derived.ProofKit
import Derived.OpenShut
import Derived.JoinedOf
import Derived.Handed
set_option linter.unusedVariables false
set_option maxRecDepth 100000
namespace Go.Proofs.YtihgbmhhcalejaaDoor.fnExactTableLines
open Go.Ab Go.Ab.P
open Go.ChangeShapes Go.WideShapes Go.ChangeAt Go.RowKit
def phiL : List (Nat × Nat) := [(626,13),(223,4),(628,14),(627,16),(988,38),(822,24),(516,15),(222,5),(23,25),(21,26),(632,18),(518,19),(630,21),(911,33),(631,20),(1024,49),(872,48),(1237,55),(1238,47),(566,37),(517,22),(219,7),(137,8),(221,9),(629,17),(40,23),(139,11),(136,12),(1261,3)]
def phi (n : Nat) : Nat := (phiL.lookup n).getD 1000000
theorem hm : Tryd.prog.follows .mixedOrders = true := by kernel_rfl
theorem ok_laws_szStringS : FOk Tryd.prog phi 626 laws_szStringS_c := fn_ok hm (D := laws_szStringS_D) DOk.nil (by kernel_rfl) _ _ _ _
theorem ok_laws_szStringSS : FOk Tryd.prog phi 223 laws_szStringSS_c := fn_ok hm (D := laws_szStringSS_D) (DOk.cons ok_laws_szStringS DOk.nil) (by kernel_rfl) _ _ _ _
theorem ok_spec_l30Rows : FOk Tryd.prog phi 628 spec_l30Rows_c := fn_ok hm (D := spec_l30Rows_D) DOk.nil (by kernel_rfl) _ _ _ _
theorem ok_spec_l30Table : FOk Tryd.prog phi 627 spec_l30Table_c := fn_ok hm (D := spec_l30Table_D) DOk.nil (by kernel_rfl) _ _ _ _
theorem ok_spec_l30Line : FOk Tryd.prog phi 988 spec_l30Line_c := fn_ok hm (D := spec_l30Line_D) DOk.nil (by kernel_rfl) _ _ _ _
theorem ok_spec_l30Ok : FOk Tryd.prog phi 822 spec_l30Ok_c := fn_ok hm (D := spec_l30Ok_D) (DOk.cons ok_spec_l30Line DOk.nil) (by kernel_rfl) _ _ _ _
theorem ok_spec_l30Done : FOk Tryd.prog phi 516 spec_l30Done_c := fn_ok hm (D := spec_l30Done_D) (DOk.cons ok_spec_l30Ok DOk.nil) (by kernel_rfl) _ _ _ _
theorem ok_spec_TableLines : FOk Tryd.prog phi 222 spec_TableLines_c := fn_ok hm (D := spec_TableLines_D) (DOk.cons ok_spec_l30Done (DOk.cons ok_spec_l30Table (DOk.cons ok_spec_l30Rows DOk.nil))) (by kernel_rfl) _ _ _ _
theorem ok_impl_within : FOk Tryd.prog phi 23 impl_within_c := fn_ok hm (D := impl_within_D) DOk.nil (by kernel_rfl) _ _ _ _
theorem ok_impl_few : FOk Tryd.prog phi 21 impl_few_c := fn_ok hm (D := impl_few_D) DOk.nil (by kernel_rfl) _ _ _ _
theorem ok_impl_areCells : FOk Tryd.prog phi 632 impl_areCells_c := fn_ok hm (D := impl_areCells_D) (DOk.cons ok_impl_few (DOk.cons ok_impl_within DOk.nil)) (by kernel_rfl) _ _ _ _
theorem ok_strings_Repeat : FOk Tryd.prog phi 518 strings_Repeat_c := repeat_ok Tryd.lays105 Tryd.Builder_Extra_105 (by kernel_rfl)
theorem ok_strings_Join : FOk Tryd.prog phi 630 strings_Join_c := join_ok Tryd.lays156 Tryd.Builder_Extra_156 (by kernel_rfl)
theorem ok_strings_trimRightByte : FOk Tryd.prog phi 911 strings_trimRightByte_c := fn_ok hm (D := strings_trimRightByte_D) DOk.nil (by kernel_rfl) _ _ _ _
theorem ok_strings_TrimRight : FOk Tryd.prog phi 631 strings_TrimRight_c := fn_ok hm (D := strings_TrimRight_D) (DOk.cons ok_strings_trimRightByte DOk.nil) (by kernel_rfl) _ _ _ _
theorem ok_impl_isLine : FOk Tryd.prog phi 1024 impl_isLine_c := fn_ok hm (D := impl_isLine_D) (DOk.cons ok_impl_few (DOk.cons ok_impl_within DOk.nil)) (by kernel_rfl) _ _ _ _
theorem ok_impl_ValidReport_1 : FOk Tryd.prog phi 872 impl_ValidReport_1_c := fn_ok hm (D := impl_ValidReport_1_D) (DOk.cons ok_impl_isLine DOk.nil) (by kernel_rfl) _ _ _ _
theorem ok_slices_IndexFunc___string_string__impl_ValidReport_1 : FOk Tryd.prog phi 1237 slices_IndexFunc___string_string__impl_ValidReport_1_c := fn_ok hm (D := slices_IndexFunc___string_string__impl_ValidReport_1_D) (DOk.cons ok_impl_ValidReport_1 DOk.nil) (by kernel_rfl) _ _ _ _
theorem ok_slices_ContainsFunc___string_string__impl_ValidReport_1 : FOk Tryd.prog phi 1238 slices_ContainsFunc___string_string__impl_ValidReport_1_c := fn_ok hm (D := slices_ContainsFunc___string_string__impl_ValidReport_1_D) (DOk.cons ok_impl_ValidReport_1 (DOk.cons ok_slices_IndexFunc___string_string__impl_ValidReport_1 DOk.nil)) (by kernel_rfl) _ _ _ _
theorem ok_impl_ValidReport : FOk Tryd.prog phi 566 impl_ValidReport_c := fn_ok hm (D := impl_ValidReport_D) (DOk.cons ok_impl_few (DOk.cons ok_impl_ValidReport_1 (DOk.cons ok_slices_ContainsFunc___string_string__impl_ValidReport_1 DOk.nil))) (by kernel_rfl) _ _ _ _
theorem ok_impl_report : FOk Tryd.prog phi 517 impl_report_c := fn_ok hm (D := impl_report_D) (DOk.cons ok_impl_ValidReport DOk.nil) (by kernel_rfl) _ _ _ _
theorem ok_impl_TableLines : FOk Tryd.prog phi 219 impl_TableLines_c := fn_ok hm (D := impl_TableLines_D) (DOk.cons ok_impl_report (DOk.cons ok_strings_Repeat (DOk.cons ok_strings_Join (DOk.cons ok_strings_TrimRight (DOk.cons ok_impl_areCells DOk.nil))))) (by kernel_rfl) _ _ _ _
theorem ok_laws_eqStringS : FOk Tryd.prog phi 137 laws_eqStringS_c := fn_ok hm (D := laws_eqStringS_D) DOk.nil (by kernel_rfl) _ _ _ _
theorem ok_laws_eqStringSS : FOk Tryd.prog phi 221 laws_eqStringSS_c := fn_ok hm (D := laws_eqStringSS_D) (DOk.cons ok_laws_eqStringS DOk.nil) (by kernel_rfl) _ _ _ _
theorem ok_laws_toStringS : FOk Tryd.prog phi 629 laws_toStringS_c := fn_ok hm (D := laws_toStringS_D) DOk.nil (by kernel_rfl) _ _ _ _
theorem ok_laws_markText : FOk Tryd.prog phi 40 laws_markText_c := fn_ok hm (D := laws_markText_D) DOk.nil (by kernel_rfl) _ _ _ _
theorem ok_laws_markStringS : FOk Tryd.prog phi 139 laws_markStringS_c := fn_ok hm (D := laws_markStringS_D) (DOk.cons ok_laws_markText DOk.nil) (by kernel_rfl) _ _ _ _
theorem ok_laws_heldStringS : FOk Tryd.prog phi 136 laws_heldStringS_c := fn_ok hm (D := laws_heldStringS_D) (DOk.cons ok_laws_markText DOk.nil) (by kernel_rfl) _ _ _ _
section
open Go.Ab
set_option maxHeartbeats 3200000 in
theorem ss_to_all : ∀ (b off len cap : Nat) (w : World) (aa : Nat → Value) (V4 : Nat → Value → Nat → Nat → World → Prop),b < w.heap.size → len ≤ 1099511627776 →
 (∀ j,j < len → w.cell? ⟨b,off + j,none⟩ = some (aa j)) →
 (∀ j v lo hi w w',V4 j v lo hi w → Hi lo w w' → V4 j v lo hi w') →
 (∀ j,j < len → ∀ w',Lo w.heap.size w w' → Calls Tryd.prog 17 #[aa j] w' fun e w'' => ∃ ad n cap,e = .returned (.slice ad n cap) ∧ Lo w'.heap.size w' w'' ∧ V4 j (.slice ad n cap) w'.heap.size w''.heap.size w'') →
 Calls Tryd.prog 6 #[.slice (some ⟨b,off,none⟩) len cap] w fun e w' => e = .returned (.slice (some ⟨w.heap.size,0,none⟩) len len) ∧ Lo w.heap.size w w' ∧
  ∃ (C : Array Value) (lo hi : Nat → Nat),w'.heap[w.heap.size]? = some (.cells C 24) ∧ C.size = len ∧ (∀ j,j < len → ∃ ad n cap,C[j]? = some (.slice ad n cap) ∧
    V4 j (.slice ad n cap) (lo j) (hi j) w' ∧ w.heap.size < lo j ∧ hi j ≤ w'.heap.size) ∧ ∀ i j,i < j → j < len → hi i ≤ lo j := by
 intro b off len cap w aa V4 hb hl h0 hV hT
 have hmk : ∀ w' : World,(Instr.makeSlice 22 (.int .i64 (len : Int)) (.int .i64 (len : Int))).run Tryd.prog w' = .ok (.slice (some ⟨w'.heap.size,0,none⟩) len len) (w'.alloc (.cells (madeCells #[Value.slice none 0 0] len) 24)) := by
  intro w'
  have hI : (Tryd.prog.info? 24).map (fun i => (i.zero,i.size,i.bytes)) = some (some (.slice none 0 0),1,24) := by kernel_rfl
  obtain ⟨i,hi,he⟩ := Option.map_eq_some_iff.1 hI
  simp only [Prod.mk.injEq] at he
  have h := run_make (P := Tryd.prog) w' 22 24 i _ Tryd.underlying22 hi he.1 .i64 .i64 len len (by omega) (Int.le_refl _) (by rw [he.2.2]; omega) (by omega)
  rw [he.2.1] at h
  simp only [Nat.mul_one] at h
  exact h
 go_enter Tryd.func6,Tryd.ntmps6
 go_wp2_with (fail)
 go_loopw [4] (fun i wr => ∃ k : Nat,k ≤ len ∧ i = .int .i64 k ∧ Lo w.heap.size w wr ∧ w.heap.size + 1 ≤ wr.heap.size ∧
  ∃ (C : Array Value) (lo hi : Nat → Nat),wr.heap[w.heap.size]? = some (.cells C 24) ∧ C.size = len ∧ (∀ j,j < k → ∃ ad n cap,C[j]? = some (.slice ad n cap) ∧
    V4 j (.slice ad n cap) (lo j) (hi j) wr ∧ w.heap.size < lo j ∧ hi j ≤ wr.heap.size) ∧ ∀ i j,i < j → j < k → hi i ≤ lo j)
  (fun i _ => len - (intOf i).toNat)
 case atStart =>
  refine ⟨0,Nat.zero_le _,rfl,(Lo.refl _ _).alloc (Nat.le_refl _) _,by simp,_,fun _ => 0,fun _ => 0,get_new _ _ rfl,by rw [size_madeCells],fun j h => absurd h (Nat.not_lt_zero _),fun i j _ h => absurd h (Nat.not_lt_zero _)⟩
 case round =>
  obtain ⟨k,hk,rfl,hnx,hsz,C,lo,hi,hC,hCs,hdone,hch⟩ := hrel
  rcases Nat.lt_or_ge k len with hkl | hkl
  ·have c0 := (hnx.cell (by exact hb)).trans (h0 k hkl)
   go_wp2_with (fail)
   go_at_call 17
   refine (hT k hkl _ hnx).mono ?_
   rintro e w1 ⟨ad,n,cp,rfl,hw1,hv1⟩
   have hC1 : w1.heap[w.heap.size]? = some (.cells C 24) := (hw1.block _ (by omega)).trans hC
   have o0 : k < C.size := by omega
   have q0 : w1.cell? ⟨w.heap.size,k,none⟩ = some C[k] := by simp [World.cell?,hC1,o0]
   have f1 : ∀ j,w1.frozen? ⟨w.heap.size,j,none⟩ = false := fun j => by simp [World.frozen?,hC1]
   go_wp2_with (fail)
   go_roundw
   case rel =>
    have hwL := hw1.size
    refine ⟨k + 1,by omega,by go_num,?_,by simp only [setCell_size]; omega,_,fun j => if j = k then wr.heap.size else lo j,fun j => if j = k then w1.heap.size else hi j,setCell_at hC1 _ _,by simpa using hCs,fun j hj => ?_,fun i j hij hj => ?_⟩
    ·exact Lo.setCell (hnx.trans (hw1.mono hnx.size)) (Nat.le_refl _)
    ·rcases Nat.lt_or_ge j k with hjk | hjk
     ·obtain ⟨ad',n',cp',d3,d4,d5,d6⟩ := hdone j hjk
      have hne : j ≠ k := by omega
      simp only [hne,if_false]
      refine ⟨ad',n',cp',(Array.getElem?_setIfInBounds_ne (by omega)).trans d3,?_,d5,?_⟩
      ·exact hV _ _ _ _ _ _ d4 ((Hi.of_lo hw1).setCell d5)
      ·simp only [setCell_size]; omega
     ·obtain rfl : j = k := by omega
      simp only [if_true]
      have hlt : w.heap.size < wr.heap.size := by omega
      exact ⟨ad,n,cp,by rw [Array.getElem?_setIfInBounds_self_of_lt (by omega)],hV _ _ _ _ _ _ hv1 ((Hi.refl _ _).setCell hlt),hlt,by simp only [setCell_size]; omega⟩
    ·have hne : i ≠ k := by omega
     simp only [hne,if_false]
     rcases Nat.lt_or_ge j k with hjk | hjk
     ·have hne : j ≠ k := by omega
      simp only [hne,if_false]
      exact hch i j hij hjk
     ·obtain rfl : j = k := by omega
      simp only [if_true]
      obtain ⟨_,_,_,_,_,_,d6⟩ := hdone i hij
      exact d6
   case measure => simp [intOf]; omega
  ·have : k = len := by omega
   subst this
   go_wp2_with (fail)
   go_ret
   exact ⟨rfl,hnx,C,lo,hi,hC,hCs,hdone,hch⟩
set_option maxHeartbeats 3200000 in
theorem ss_to_nil : ∀ (a : Option Addr) (cap : Nat) (w : World),Calls Tryd.prog 6 #[.slice a 0 cap] w fun e w' => e = .returned (.slice (some ⟨w.heap.size,0,none⟩) 0 0) ∧ Lo w.heap.size w w' ∧ w'.heap[w.heap.size]? = some (.cells #[] 24) := by
 intro a cap w
 have hmk : ∀ w' : World,(Instr.makeSlice 22 (.int .i64 0) (.int .i64 0)).run Tryd.prog w' = .ok (.slice (some ⟨w'.heap.size,0,none⟩) 0 0) (w'.alloc (.cells #[] 24)) := by
  intro w'
  have hI : (Tryd.prog.info? 24).map (fun i => (i.zero,i.size,i.bytes)) = some (some (.slice none 0 0),1,24) := by kernel_rfl
  obtain ⟨i,hi,he⟩ := Option.map_eq_some_iff.1 hI
  simp only [Prod.mk.injEq] at he
  have h := run_make (P := Tryd.prog) w' 22 24 i _ Tryd.underlying22 hi he.1 .i64 .i64 0 0 (by omega) (Int.le_refl _) (by rw [he.2.2]; omega) (by omega)
  rw [he.2.1] at h
  have e : madeCells (Value.slice none 0 0).cells (Int.toNat 0 * 1) = #[] := Array.eq_empty_of_size_eq_zero (by rw [size_madeCells]; rfl)
  rw [e] at h
  exact h
 go_enter Tryd.func6,Tryd.ntmps6
 go_wp2_with (fail)
 refine wp_loop_rounds 1 ?_
 rw [rounds_succ]
 go_wp2_with (fail)
 go_ret
 exact ⟨rfl,(Lo.refl _ _).alloc (Nat.le_refl _) _,get_new _ _ rfl⟩
theorem ss_rows_walk : RowsWalk Tryd.prog 6 17 24 := ⟨ss_to_nil,ss_to_all⟩
set_option maxHeartbeats 3200000 in
theorem ss_mark_walk : MarkRowsWalk Tryd.prog 10 11 24 := ⟨by
 intro b len cap m0 w C ad n cp lo hi V4 hl hm hn hC hCs h3 hlo hhi hdis h4 hV hI
 have hbw : b < w.heap.size := by
  rcases Nat.lt_or_ge b w.heap.size with h | h
  ·exact h
  ·rw [Array.getElem?_eq_none h] at hC; cases hC
 go_enter Tryd.func10,Tryd.ntmps10
 go_wp2_with (fail)
 go_loopw [1,5] (fun kv i wr => ∃ k : Nat,k ≤ len ∧ i = .int .i64 k ∧ ∃ m : Nat,kv = .int .i64 m ∧ m ≤ m0 + k * 4194304 ∧ Rg (fun c => ∃ j,j < len ∧ lo j ≤ c ∧ c < hi j) w wr ∧ ∀ j,k ≤ j → j < len → V4 j wr)
  (fun _ i _ => len - (intOf i).toNat)
 case atStart => exact ⟨0,Nat.zero_le _,rfl,m0,rfl,by omega,Rg.refl _ _,fun j _ hj => h4 j hj⟩
 case round =>
  obtain ⟨k,hk,rfl,m,rfl,hmb,hR,hV4⟩ := hrel
  rcases Nat.lt_or_ge k len with hkl | hkl
  ·have hkb : k * 4194304 ≤ 1048576 * 4194304 := Nat.mul_le_mul_right _ (by omega)
   have hmm : m ≤ 4600000000000000 := by omega
   have hC1 : wr.heap[b]? = some (.cells C 24) := (hR.block b hbw (fun ⟨j,hj,h1,h2⟩ => by have := hlo j hj; omega)).trans hC
   have q3 : wr.cell? ⟨b,k,none⟩ = some (.slice (ad k) (n k) (cp k)) := by simp [World.cell?,hC1,h3 k hkl]
   go_wp2_with (fail)
   go_at_call 11
   refine (hI k hkl m wr (by omega) hR (hV4 k (Nat.le_refl _) hkl)).mono ?_
   rintro e w3 ⟨m',rfl,hm',hR3⟩
   go_wp2_with (fail)
   go_roundw
   case rel =>
    refine ⟨k + 1,by omega,by go_num,m',rfl,?_,hR.trans (hR3.mono fun c hc => ⟨k,hkl,hc⟩),fun j h1 h2 => ?_⟩
    ·omega
    ·refine hV j _ _ h2 (hV4 j (by omega) h2) (fun c hc1 hc2 => ?_) hR3.size
     have := hdis k j (by omega) h2
     have := hhi j h2
     have := hR.size
     exact hR3.block c (by omega) (by omega)
   case measure => simp [intOf]; omega
  ·have : k = len := by omega
   subst this
   go_wp2_with (fail)
   go_ret
   exact ⟨m,rfl,hmb,hR⟩⟩
set_option maxHeartbeats 12800000 in
theorem law_walk : ListLawWalk Tryd.prog 3 4 5 6 7 8 9 10 11 12 := ⟨⟨_,Tryd.func3,by decide +kernel,rfl⟩,by
 intro w v n hn hSz
 go_enter Tryd.func3,Tryd.ntmps3
 go_wp2_with (fail)
 go_at_call 4
 refine (hSz w (Lo.refl _ w)).mono ?_
 rintro e x1 ⟨rfl,L⟩
 go_wp2_with (fail)
 go_ret
 exact ⟨rfl,L⟩,by
 intro w v n c0 M T W0 G G2 kT kG kG2 kW hSz hTo hSp hIm hEp hEs hMk hMp hHp
 go_enter Tryd.func3,Tryd.ntmps3
 go_wp2_with (fail)
 go_at_call 4
 refine (hSz w (Lo.refl _ w)).mono ?_
 rintro e x1 ⟨rfl,L⟩
 have s1 := L.size
 go_wp2_with (fail)
 ·go_ret
  exact ⟨rfl,L⟩
 go_at_call 6
 refine (hTo x1 L).mono ?_
 rintro e x2 ⟨a1,n1,p1,rfl,hx2,t1⟩
 have sx2 := hx2.size
 have L0 := L.size
 replace L := L.trans (hx2.mono (by omega : w.heap.size ≤ x1.heap.size))
 clear L0
 go_wp2_with (fail)
 go_at_call 5
 refine (hSp _ _ _ x2 L t1).mono ?_
 rintro e x3 ⟨pa,pn,pc,rfl,hx3,q0⟩
 have sx3 := hx3.size
 have L0 := L.size
 replace L := L.trans (hx3.mono (by omega : w.heap.size ≤ x2.heap.size))
 clear L0
 go_wp2_with (fail)
 go_at_call 6
 refine (hTo x3 L).mono ?_
 rintro e x4 ⟨a2,n2,p2,rfl,hx4,t2⟩
 have sx4 := hx4.size
 have L0 := L.size
 replace L := L.trans (hx4.mono (by omega : w.heap.size ≤ x3.heap.size))
 clear L0
 replace q0 := kW _ _ _ _ q0 (fun c hc => hx4.block c (by omega)) hx4.size
 go_wp2_with (fail)
 go_at_call 7
 refine (hIm _ _ _ x4 L t2).mono ?_
 rintro e x5 ⟨ga,gn,gc,rfl,hx5,gx⟩
 have sx5 := hx5.size
 have L0 := L.size
 replace L := L.trans (hx5.mono (by omega : w.heap.size ≤ x4.heap.size))
 clear L0
 replace q0 := kW _ _ _ _ q0 (fun c hc => hx5.block c (by omega)) hx5.size
 replace t2 := kT _ _ _ _ _ t2 (fun c c1 c2 => hx5.block c (by omega)) hx5.size
 go_wp2_with (fail)
 go_at_call 8
 refine (hEp _ _ _ _ _ x5 L gx q0).mono ?_
 rintro e x6 ⟨rfl,hx6⟩
 have sx6 := hx6.size
 have L0 := L.size
 replace L := L.trans (hx6.mono (by omega : w.heap.size ≤ x5.heap.size))
 clear L0
 replace q0 := kW _ _ _ _ q0 (fun c hc => hx6.block c (by omega)) hx6.size
 replace t2 := kT _ _ _ _ _ t2 (fun c c1 c2 => hx6.block c (by omega)) hx6.size
 replace gx := kG _ _ _ _ _ gx (fun c c1 c2 => hx6.block c (by omega)) hx6.size
 go_wp2_with (fail)
 go_at_call 6
 refine (hTo x6 L).mono ?_
 rintro e x7 ⟨a3,n3,p3,rfl,hx7,t3⟩
 have sx7 := hx7.size
 have L0 := L.size
 replace L := L.trans (hx7.mono (by omega : w.heap.size ≤ x6.heap.size))
 clear L0
 replace q0 := kW _ _ _ _ q0 (fun c hc => hx7.block c (by omega)) hx7.size
 replace t2 := kT _ _ _ _ _ t2 (fun c c1 c2 => hx7.block c (by omega)) hx7.size
 replace gx := kG _ _ _ _ _ gx (fun c c1 c2 => hx7.block c (by omega)) hx7.size
 go_wp2_with (fail)
 go_at_call 9
 refine (hEs _ _ _ _ _ _ x7 L t2 t3).mono ?_
 rintro e x8 ⟨rfl,hx8⟩
 have sx8 := hx8.size
 have L0 := L.size
 replace L := L.trans (hx8.mono (by omega : w.heap.size ≤ x7.heap.size))
 clear L0
 replace q0 := kW _ _ _ _ q0 (fun c hc => hx8.block c (by omega)) hx8.size
 replace t2 := kT _ _ _ _ _ t2 (fun c c1 c2 => hx8.block c (by omega)) hx8.size
 replace gx := kG _ _ _ _ _ gx (fun c c1 c2 => hx8.block c (by omega)) hx8.size
 go_wp2_with (fail)
 clear t1 t3
 go_at_call 10
 refine (hMk _ _ _ x8 L t2).mono ?_
 rintro e x9 ⟨mk,rfl,hx9⟩
 have sx9 := hx9.size
 have L0 := L.size
 replace L := Lo.rg L hx9 (fun c hc => by omega) (by omega)
 clear L0
 replace q0 := kW _ _ _ _ q0 (fun c hc => hx9.block c (by omega) (by omega)) hx9.size
 replace gx := kG _ _ _ _ _ gx (fun c c1 c2 => hx9.block c (by omega) (by omega)) hx9.size
 have hmk : ¬ ((mk : Int) < 0) := by omega
 go_wp2_with (fail)
 go_at_call 8
 refine (hEp _ _ _ _ _ x9 L gx q0).mono ?_
 rintro e y1 ⟨rfl,hy1⟩
 have sy1 := hy1.size
 have L0 := L.size
 replace L := L.trans (hy1.mono (by omega : w.heap.size ≤ x9.heap.size))
 clear L0
 replace q0 := kW _ _ _ _ q0 (fun c hc => hy1.block c (by omega)) hy1.size
 replace gx := kG _ _ _ _ _ gx (fun c c1 c2 => hy1.block c (by omega)) hy1.size
 go_wp2_with (fail)
 go_at_call 11
 refine (hMp _ _ _ y1 L gx).mono ?_
 rintro e y2 ⟨rfl,hy2,gy⟩
 have sy2 := hy2.size
 have L0 := L.size
 replace L := Lo.rg L hy2 (fun c hc => by omega) (by omega)
 clear L0
 replace q0 := kW _ _ _ _ q0 (fun c hc => hy2.block c (by omega) (by omega)) hy2.size
 go_wp2_with (fail)
 go_at_call 12
 refine (hHp _ _ _ y2 L gy).mono ?_
 rintro e y3 ⟨rfl,hy3⟩
 have sy3 := hy3.size
 have L0 := L.size
 replace L := L.trans (hy3.mono (by omega : w.heap.size ≤ y2.heap.size))
 clear L0
 replace q0 := kW _ _ _ _ q0 (fun c hc => hy3.block c (by omega)) hy3.size
 replace gy := kG2 _ _ _ _ _ gy (fun c c1 c2 => hy3.block c (by omega)) hy3.size
 go_wp2_with (fail)
 go_at_call 6
 refine (hTo y3 L).mono ?_
 rintro e y4 ⟨a4,n4,p4,rfl,hy4,t4⟩
 have sy4 := hy4.size
 have L0 := L.size
 replace L := L.trans (hy4.mono (by omega : w.heap.size ≤ y3.heap.size))
 clear L0
 replace q0 := kW _ _ _ _ q0 (fun c hc => hy4.block c (by omega)) hy4.size
 replace gy := kG2 _ _ _ _ _ gy (fun c c1 c2 => hy4.block c (by omega)) hy4.size
 go_wp2_with (fail)
 go_at_call 7
 refine (hIm _ _ _ y4 L t4).mono ?_
 rintro e y5 ⟨ha,hn,hc,rfl,hy5,gz⟩
 have sy5 := hy5.size
 have L0 := L.size
 replace L := L.trans (hy5.mono (by omega : w.heap.size ≤ y4.heap.size))
 clear L0
 replace q0 := kW _ _ _ _ q0 (fun c hc => hy5.block c (by omega)) hy5.size
 replace gy := kG2 _ _ _ _ _ gy (fun c c1 c2 => hy5.block c (by omega)) hy5.size
 go_wp2_with (fail)
 go_at_call 8
 refine (hEp _ _ _ _ _ y5 L gz q0).mono ?_
 rintro e y6 ⟨rfl,hy6⟩
 have sy6 := hy6.size
 have L0 := L.size
 replace L := L.trans (hy6.mono (by omega : w.heap.size ≤ y5.heap.size))
 clear L0
 replace gy := kG2 _ _ _ _ _ gy (fun c c1 c2 => hy6.block c (by omega)) hy6.size
 go_wp2_with (fail)
 go_at_call 12
 refine (hHp _ _ _ y6 L gy).mono ?_
 rintro e y7 ⟨rfl,hy7⟩
 have sy7 := hy7.size
 have L0 := L.size
 replace L := L.trans (hy7.mono (by omega : w.heap.size ≤ y6.heap.size))
 clear L0
 go_wp2_with (fail)
 go_ret
 exact ⟨rfl,L⟩⟩
end
theorem ok_laws_FnExactTableLines : FOk Tryd.prog phi 1261 laws_FnExactTableLines_c := rowsLaw_ok laws_FnExactTableLines_F (g := 1261) (gsz := 223) (gsp := 222) (gim := 219) (gep := 137) (ges := 221) (gmp := 139) (ghp := 136) (gI := 629) law_walk ss_rows_walk ss_mark_walk (by kernel_rfl)
 (fun x l n h => callOk_two ok_laws_szStringSS h)
 (fun x ps c h => callOk_d2 ok_spec_TableLines h)
 (fun x ps c h => callOk_tok2 ok_impl_TableLines h)
 (fun x y b h => callOk_two ok_laws_eqStringS h)
 (fun x y b h => callOk_two ok_laws_eqStringSS h)
 (fun x y h => callOk_tok ok_laws_toStringS h)
 (fun x m m2 y h => callOk_ios ok_laws_markStringS h)
 (fun x m m2 h => callOk_two ok_laws_heldStringS h)
theorem law : ∀ x,wfU laws_FnExactTableLines_c.ps x → ∃ y,laws_FnExactTableLines_c.f x = some y ∧ resA laws_FnExactTableLines_c y = ([A.bool true],[]) := fun x hx => ⟨true,(by classical exact if_pos (laws_FnExactTableLines_true x.1 hx.1)),rfl⟩
theorem own : ownKnob Tryd.prog.godebug = none := by kernel_rfl
theorem laid : laidOutB Tryd.prog = true := by kernel_rfl
theorem reads : ∀ t ∈ Tryd.f3.params.toList,Tryd.prog.readableRec t = true ∧ t < Tryd.prog.types.size := by
 have h : (Tryd.f3.params.toList.all fun t => Tryd.prog.readableRec t && decide (t < Tryd.prog.types.size)) = true := by kernel_rfl
 intro t ht
 have := List.all_eq_true.1 h t ht
 simpa only [Bool.and_eq_true,decide_eq_true_eq] using this
theorem spec_eq (H : Type) : ∀ (ds : List (DataW H)),ds.length = Tryd.f3.params.toList.length → Rows.fnExactTableLinesSpec.fn H ds = { results := [.lit (.bool true)],args := ds } := by
 intro ds hd
 have hd : ds.length = 1 := hd
 match ds,hd with
 | [d0],_ => rfl
theorem tab (W : World) (hL : laidMetH Tryd.prog Rows.fnExactTableLinesRow.laid W) : ∀ i,Tryd.prog.globalNamed pow10Name = some i → Lib.TabIs Tryd.prog W pow10Name .u64 Lib.pow10Tab := by
 intro i hi
 have h : Tryd.prog.globalNamed pow10Name = none := by kernel_rfl
 rw [h] at hi; cases hi
theorem errs (W : World) (hL : laidMetH Tryd.prog Rows.fnExactTableLinesRow.laid W) : ∀ n,errNames.contains n = true → ∀ i,Tryd.prog.globalNamed n = some i → ∃ u v,W.var? Tryd.prog n = some #[.iface u v] := by
 intro n hn i hi
 have hn : n = "strconv.ErrSyntax" ∨ n = "strconv.ErrRange" := by simpa [errNames] using hn
 rcases hn with rfl | rfl
 ·have h : Tryd.prog.globalNamed "strconv.ErrSyntax" = none := by kernel_rfl
  rw [h] at hi; cases hi
 ·have h : Tryd.prog.globalNamed "strconv.ErrRange" = none := by kernel_rfl
  rw [h] at hi; cases hi
theorem contract (H : Type) (enc : TypeId × Value → H) (W : World) (base : Nat) (args : Array Value) (ds gs : List (DataW H)) (before : List MemPlace)
 (hval : ∀ (j : Nat) t v,Tryd.f3.params[j]? = some t → args[j]? = some v → Value.okWide Tryd.prog W .any base t v)
 (hW : DataW.Whole enc Tryd.prog Tryd.f3.params.toList Rows.fnExactTableLinesSpec.vars false W args.toList ds gs before) (hL : laidMetH Tryd.prog Rows.fnExactTableLinesRow.laid W) (hsh : W.ShapedOpen Tryd.prog) :
 Calls Tryd.prog 3 args W fun e W' => ∃ v,e = .returned v ∧ Rows.fnExactTableLinesSpec.post enc Tryd.prog Tryd.f3 false true false false W args v W' :=
 row_contract (φ := phi) (g := 1261) (n := 20) ok_laws_FnExactTableLines rfl rfl (tb := 4) Tryd.underlying4 (by kernel_rfl) rfl law laid reads spec_eq W base args ds gs before hval hW (Glob.start hsh (tab W hL) (errs W hL))
theorem lifted (os : Os) (started : os.Started) (H : Type) (enc : TypeId × Value → H) :
 ReturnsInHanded {} Tryd.checked os 3 .any (fun w args => (Rows.fnExactTableLinesSpec.pre enc Tryd.prog Tryd.f3 Rows.fnExactTableLinesRow.domain false w args ∧ laidMetH Tryd.prog Rows.fnExactTableLinesRow.laid w) ∧ sizedMet enc Tryd.prog Tryd.f3 (OpenSpec.ofChange Rows.fnExactTableLinesSpec) false w args) (Rows.fnExactTableLinesSpec.post enc Tryd.prog Tryd.f3 false true false false) := by
 refine returnsInHanded_laid (C := Tryd.checked) (laid := Rows.fnExactTableLinesRow.laid) own started (by kernel_rfl) Tryd.func3
  (ChangeSpec.witness_shaped (enc := enc) (C := Tryd.checked) (os := os) (X := fun w _ => laidMetH Tryd.prog Rows.fnExactTableLinesRow.laid w) false (World.laidAll Tryd.prog os Rows.fnExactTableLinesRow.laid) #[.slice none 0 0] 12 (World.laidAll_os _ _ _)
    (World.shaped_of_ZipB (by kernel_rfl) (by kernel_rfl)) (by kernel_rfl) (by kernel_rfl) (by kernel_rfl)
    (by rw [MakeChecks.laidMetH_plain _ _ _ (by kernel_rfl)]; exact laidMet_laidAll _ (by kernel_rfl) (by kernel_rfl))) ?_
 intro W base args ds gs before hval hW hL hsh
 exact contract H enc W base args ds gs before hval hW hL hsh
theorem over : Rows.fnExactTableLinesRow.holds Tryd.pinned (OpenSpec.ofChange Rows.fnExactTableLinesSpec) :=
 OpenClaim.holds_of_wide 3 Tryd.f3 rfl rfl rfl rfl rfl rfl rfl ⟨rfl,rfl,rfl,rfl,rfl⟩ rfl rfl rfl rfl rfl (by kernel_rfl) Tryd.func3 (by kernel_rfl)
  (of_decide_eq_true (by kernel_rfl)) (by unfold Func.isWrapper; first | (rw [if_pos (by decide +kernel)]; kernel_rfl) | (rw [if_neg (by decide +kernel)]; exact ⟨rfl,rfl⟩))
  (fun os started H enc _ => lifted os started H enc)
theorem card : Rows.FnExactTableLinesCardSaid :=
 Claim7.holds_tied_plain_at .later [] [.data,.pinned] true (true,"c06a31e4afefd111a4a5af0928a787cb483b839dda7df34536daf51e16a0d98b") false over (fun _ h => by cases h) (by kernel_rfl) (fun _ h => by cases h) fnExactTableLines_row_tie rfl ⟨rfl,rfl⟩ (by kernel_rfl) rfl
  (fun f fn hf hfn => by
    obtain rfl : f = 3 := Option.some.inj ((show Tryd.prog.funcNamed "loop.example/g01061/laws.FnExactTableLines" = some 3 by kernel_rfl).symm.trans hf) |>.symm
    obtain rfl : fn = Tryd.f3 := (Option.some.inj (Tryd.func3.symm.trans hfn)).symm
    exact ⟨by kernel_rfl,fun j t ht => by
     have hm : t ∈ Tryd.f3.params.toList := by simpa using Array.mem_of_getElem? ht
     have hall : (Tryd.f3.params.toList.all fun u => !Tryd.prog.wantsStandIn u) = true := by kernel_rfl
     exact (show Tryd.prog.wantsStandIn t = false by simpa using List.all_eq_true.1 hall t hm)⟩)
  (by kernel_rfl)
theorem proved : Rows.FnExactTableLinesCardSaid := card
end Go.Proofs.YtihgbmhhcalejaaDoor.fnExactTableLines
