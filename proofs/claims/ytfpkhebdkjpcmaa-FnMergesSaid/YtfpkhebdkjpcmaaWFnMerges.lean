/- The law FnMerges answers true for every input, whatever it is, and leaves its arguments as they were. Conditions: none. -/
import Derived.Test.YtfpkhebdkjpcmaaQFnMerges
import Derived.Test.YtfpkhebdkjpcmaaRows
import Derived.Test.YtfpkhebdkjpcmaaL5
import Derived.Test.YtfpkhebdkjpcmaaLE
import Derived.Carry
import Derived.Deep.RegionHeld3
import Derived.Shelf.RegionOpenPlain
import Derived.LoopTactic
import Derived.Test.YtfpkhebdkjpcmaaL8
import Derived.Test.YtfpkhebdkjpcmaaShelf
import Derived.WalkKit
import Derived.ProofKit
import Derived.OpenShut
import Derived.JoinedOf
import Derived.Handed
set_option linter.unusedVariables false
set_option maxRecDepth 100000
namespace Go.Proofs.Ytfpkhebdkjpcmaa.fnMerges
open Go.Ab Go.Ab.P
open Go.ChangeShapes Go.WideShapes Go.ChangeAt Go.RowKit
def phiL : List (Nat × Nat) := [(89,4),(441,16),(847,53),(463,35),(642,34),(686,17),(276,5),(926,36),(925,37),(687,18),(275,6),(22,60),(21,23),(24,54),(23,45),(692,38),(689,19),(823,56),(861,57),(520,41),(704,21),(927,42),(688,22),(705,20),(280,7),(693,24),(266,8),(281,9),(11,63),(12,64),(13,58),(1,51),(936,43),(706,25),(279,10),(557,44),(685,26),(277,11),(151,12),(697,30),(696,27),(4,46),(695,28),(699,47),(1043,59),(932,48),(702,29),(268,13),(698,31),(691,50),(930,49),(694,32),(278,14),(933,52),(703,33),(267,15),(1279,3)]
def phi (n : Nat) : Nat := (phiL.lookup n).getD 1000000
theorem hm : Try.prog.follows .mixedOrders = true := by kernel_rfl
theorem ok_laws_r8Long : FOk Try.prog phi 89 laws_r8Long_c := fn_ok hm (D := laws_r8Long_D) DOk.nil (by kernel_rfl) _ _ _ _
theorem ok_spec_l00From : FOk Try.prog phi 441 spec_l00From_c := fn_ok hm (D := spec_l00From_D) DOk.nil (by kernel_rfl) _ _ _ _
theorem ok_spec_l00Src_next : FOk Try.prog phi 847 spec_l00Src_next_c := fn_ok hm (D := spec_l00Src_next_D) DOk.nil (by kernel_rfl) _ _ _ _
theorem ok_spec_l00Src_pick : FOk Try.prog phi 463 spec_l00Src_pick_c := fn_ok hm (D := spec_l00Src_pick_D) (DOk.cons ok_spec_l00Src_next DOk.nil) (by kernel_rfl) _ _ _ _
theorem ok_spec_l00Src_one : FOk Try.prog phi 642 spec_l00Src_one_c := fn_ok hm (D := spec_l00Src_one_D) (DOk.cons ok_spec_l00Src_pick DOk.nil) (by kernel_rfl) _ _ _ _
theorem ok_spec_l27DrawState : FOk Try.prog phi 686 spec_l27DrawState_c := fn_ok hm (D := spec_l27DrawState_D) (DOk.cons ok_spec_l00Src_pick (DOk.cons ok_spec_l00Src_one DOk.nil)) (by kernel_rfl) _ _ _ _
theorem ok_spec_R8State : FOk Try.prog phi 276 spec_R8State_c := fn_ok hm (D := spec_R8State_D) (DOk.cons ok_spec_l00From (DOk.cons ok_spec_l27DrawState DOk.nil)) (by kernel_rfl) _ _ _ _
theorem ok_spec_l27At : FOk Try.prog phi 926 spec_l27At_c := fn_ok hm (D := spec_l27At_D) DOk.nil (by kernel_rfl) _ _ _ _
theorem ok_spec_l27Set : FOk Try.prog phi 925 spec_l27Set_c := fn_ok hm (D := spec_l27Set_D) DOk.nil (by kernel_rfl) _ _ _ _
theorem ok_spec_l27Changed : FOk Try.prog phi 687 spec_l27Changed_c := fn_ok hm (D := spec_l27Changed_D) (DOk.cons ok_spec_l00Src_pick (DOk.cons ok_spec_l00Src_one (DOk.cons ok_spec_l27Set (DOk.cons ok_spec_l27At DOk.nil)))) (by kernel_rfl) _ _ _ _
theorem ok_spec_R8Changed : FOk Try.prog phi 275 spec_R8Changed_c := fn_ok hm (D := spec_R8Changed_D) (DOk.cons ok_spec_l00From (DOk.cons ok_spec_l27Changed DOk.nil)) (by kernel_rfl) _ _ _ _
theorem ok_impl_isDigit : FOk Try.prog phi 22 impl_isDigit_c := fn_ok hm (D := impl_isDigit_D) DOk.nil (by kernel_rfl) _ _ _ _
theorem ok_impl_few : FOk Try.prog phi 21 impl_few_c := fn_ok hm (D := impl_few_D) DOk.nil (by kernel_rfl) _ _ _ _
theorem ok_impl_IsName : FOk Try.prog phi 24 impl_IsName_c := fn_ok hm (D := impl_IsName_D) (DOk.cons ok_impl_few (DOk.cons ok_impl_isDigit DOk.nil)) (by kernel_rfl) _ _ _ _
theorem ok_impl_within : FOk Try.prog phi 23 impl_within_c := fn_ok hm (D := impl_within_D) DOk.nil (by kernel_rfl) _ _ _ _
theorem ok_impl_Setting_valid : FOk Try.prog phi 692 impl_Setting_valid_c := fn_ok hm (D := impl_Setting_valid_D) (DOk.cons ok_impl_within (DOk.cons ok_impl_IsName DOk.nil)) (by kernel_rfl) _ _ _ _
theorem ok_impl_ValidState : FOk Try.prog phi 689 impl_ValidState_c := fn_ok hm (D := impl_ValidState_D) (DOk.cons ok_impl_few (DOk.cons ok_impl_Setting_valid DOk.nil)) (by kernel_rfl) _ _ _ _
theorem ok_slices_Sort___string_string_ : FOk Try.prog phi 823 slices_Sort___string_string__c := sortS_ok Try.lays190 (by kernel_rfl)
theorem ok_slices_Compact___string_string_ : FOk Try.prog phi 861 slices_Compact___string_string__c := compactS_ok Try.lays194 (by kernel_rfl)
theorem ok_impl_sortedSet : FOk Try.prog phi 520 impl_sortedSet_c := fn_ok hm (D := impl_sortedSet_D) (DOk.cons ok_slices_Sort___string_string_ (DOk.cons ok_slices_Compact___string_string_ DOk.nil)) (by kernel_rfl) _ _ _ _
theorem ok_impl_namesOf : FOk Try.prog phi 704 impl_namesOf_c := fn_ok hm (D := impl_namesOf_D) (DOk.cons ok_impl_sortedSet DOk.nil) (by kernel_rfl) _ _ _ _
theorem ok_impl_find : FOk Try.prog phi 927 impl_find_c := fn_ok hm (D := impl_find_D) DOk.nil (by kernel_rfl) _ _ _ _
theorem ok_impl_value : FOk Try.prog phi 688 impl_value_c := fn_ok hm (D := impl_value_D) (DOk.cons ok_impl_find DOk.nil) (by kernel_rfl) _ _ _ _
section
open Go.Proofs
theorem conf_idx : IndexWalk Try.prog 55 := ⟨by
 intro g lb eg p b o c xs w hn hC hb hp
 have hcell : ∀ (W : World) (j : Nat) (hj : j < xs.length),W.heap[b]? = w.heap[b]? → W.cell? ⟨b,o + j,none⟩ = some (encS xs[j]) := fun W j hj e => by
  have := hC j (encS xs[j]) (by rw [List.getElem?_map,List.getElem?_eq_getElem hj]; rfl)
  rw [← this]; simp only [World.cell?,e]
 clear hC
 have hmax : xs.length ≤ 9223372036854775807 := by omega
 go_enter Try.func55,Try.ntmps55
 go_wp2_with (fail)
 go_loopw [5,8] (fun _ s8 wr => ∃ kk : Nat,kk ≤ xs.length ∧ s8 = .int .i64 kk ∧ Lo w.heap.size w wr ∧ Hid (∀ j (hj : j < xs.length),j < kk → p xs[j] = false))
  (fun _ s8 _ => xs.length - (intOf s8).toNat)
 case atStart => exact ⟨0,Nat.zero_le _,rfl,Lo.refl _ _,fun j hj h => by omega⟩
 case round =>
  obtain ⟨kk,hkk,rfl,L1,A⟩ := hrel
  by_cases hlt : kk < xs.length
  ·have hltz : (kk : Int) < (xs.length : Int) := by omega
   have hcl := hcell wr kk hlt (L1.block b hb)
   have hcall := hp wr xs[kk] (List.getElem_mem hlt) ((Turned.refl b w).lo L1)
   have hd : Hid (firstAt p xs 0 = if p xs[kk] then some kk else firstAt p (xs.drop (kk + 1)) (kk + 1)) := by
    show _ = _
    rw [firstAt_drop kk A.out,List.drop_eq_getElem_cons hlt,firstAt]
   have hA2 : Hid (p xs[kk] = false → ∀ j (hj : j < xs.length),j < kk + 1 → p xs[j] = false) := fun h j hj hj2 => by
    by_cases e : j = kk
    ·subst e; exact h
    ·exact A.out j hj (by omega)
   generalize xs[kk] = y at hcl hcall hd hA2
   clear hcell hp A
   cases hq : p y with
   | true =>
     rw [hq] at hcall
     go_wp2_with (go_at_fn g; refine hcall.mono ?_; rintro e w' ⟨rfl,L2⟩)
     go_ret
     have hd2 := hd.out
     rw [hq,if_pos rfl] at hd2
     rw [hd2]
     exact ⟨rfl,L1.trans (L2.mono L1.size)⟩
   | false =>
     rw [hq] at hcall
     go_wp2_with (go_at_fn g; refine hcall.mono ?_; rintro e w' ⟨rfl,L2⟩)
     exact ⟨⟨kk + 1,hlt,rfl,L1.trans (L2.mono L1.size),hA2.out hq⟩,by simp only [intOf]; omega⟩
  ·obtain rfl : kk = xs.length := by omega
   have hltz : ¬ (xs.length : Int) < (xs.length : Int) := by omega
   have hd : firstAt p xs 0 = none := by
    rw [firstAt_drop xs.length A.out,List.drop_length]; rfl
   have hd' : Hid (firstAt p xs 0 = none) := hd
   clear hcell hp A hd
   go_wp2_with (fail)
   go_ret
   rw [hd'.out]
   exact ⟨rfl,L1⟩,by
 intro g lb ad w
 go_enter Try.func55,Try.ntmps55
 go_wp2_with (fail)
 go_loopw [5,8] (fun _ s8 wr => s8 = .int .i64 0 ∧ wr = w) (fun _ _ _ => 0)
 case atStart => exact ⟨rfl,rfl⟩
 case round =>
  obtain ⟨rfl,rfl⟩ := hrel
  go_wp2_with (fail)
  go_ret
  exact ⟨rfl,Lo.refl _ _⟩⟩
theorem conf_info : (Try.prog.info? 9).map (fun i => (i.zero,i.size,i.bytes)) = some (some (.string ⟨#[]⟩),1,16) := by kernel_rfl
set_option maxHeartbeats 1600000 in
theorem conf_del : DelFuncWalk Try.prog 39 := ⟨by
 intro g lb eg p b o c xs w hn hc hc0 hC hr hp
 obtain ⟨iE,hi,he⟩ := Option.map_eq_some_iff.1 conf_info
 simp only [Prod.mk.injEq] at he
 obtain ⟨hz0,hsz,hby⟩ := he
 have hbw : b < w.heap.size := hr.lt
 have hzv : ∀ w,(zeroValue 9).run Try.prog w = .ok (.string ⟨#[]⟩) w := fun w => by simp [zeroValue,typeInfo,hi,hz0]
 have hmax : xs.length ≤ 9223372036854775807 := by omega
 have hix := conf_idx.run g lb eg p b o c xs w hn hC hbw hp
 rcases hq : firstAt p xs 0 with _ | k0
 ·rw [hq] at hix
  have hix' : Calls Try.prog 55 #[.slice (some ⟨b,o,none⟩) xs.length c,.func (.func g) #[] lb] w fun e w' => e = .returned (.int .i64 (-1)) ∧ Lo w.heap.size w w' := hix
  have hf : Hid (xs.filter (fun x => !p x) = xs) := firstAt_none hq
  have hC' : Hid (Cells w b o (xs.map encS)) := hC
  clear hC hp hix hzv hr hq
  go_enter Try.func39,Try.ntmps39
  go_wp2_with (go_at_call 55; refine hix'.mono ?_; rintro e w' ⟨rfl,L⟩)
  go_ret
  rw [hf.out]
  exact ⟨rfl,hC'.out.of_block (L.block b hbw),(Turned.refl b w).lo L⟩
 ·rw [hq] at hix
  have hix' : Calls Try.prog 55 #[.slice (some ⟨b,o,none⟩) xs.length c,.func (.func g) #[] lb] w fun e w' => e = .returned (.int .i64 (k0 : Int)) ∧ Lo w.heap.size w w' := hix
  have K0 : Hid (KeptIn p xs k0 (k0 + 1) xs) := KeptIn.start hq
  have hk0 : k0 < xs.length := by have := (KeptIn.start hq).le; omega
  have hne1 : ((k0 : Int) == -1) = false := beq_eq_false_iff_ne.2 (by omega)
  have hC' : Hid (Cells w b o (xs.map encS)) := hC
  have hr' : Hid (Room 1 w b (o + c * 1)) := hr
  have hp' : Hid (Reads Try.prog g lb p xs b w) := hp
  clear hC hp hix hr hq
  go_enter Try.func39,Try.ntmps39
  go_wp2_with (go_at_call 55; refine hix'.mono ?_; rintro e w1 ⟨rfl,L⟩)
  go_loopw [5,6,7] (fun s5 s6 _ wr => ∃ (i j : Nat) (ys : List (List UInt8)),s5 = .int .i64 i ∧ s6 = .int .i64 j ∧ j ≤ xs.length ∧ Hid (KeptIn p xs i j ys) ∧ Hid (Cells wr b o (ys.map encS)) ∧ Hid (Turned b w wr))
   (fun _ s6 _ _ => xs.length - (intOf s6).toNat)
  case atStart => exact ⟨k0,k0 + 1,xs,rfl,by congr 1,by omega,K0,hC'.out.of_block (L.block b hbw),(Turned.refl b w).lo L⟩
  case round =>
   obtain ⟨i,j,ys,rfl,rfl,hjl,I,Cr,Tr⟩ := hrel
   have hij := I.out.lt
   have hyl := I.out.len
   have hrr := Tr.out.room _ _ hr'.out
   have hbr : b < wr.heap.size := Nat.lt_of_lt_of_le hbw Tr.out.size
   by_cases hlt : j < xs.length
   ·have hltz : (j : Int) < (xs.length : Int) := by omega
    have cj : wr.cell? ⟨b,o + j,none⟩ = some (encS xs[j]) := Cr.out j (encS xs[j]) (by rw [List.getElem?_map,I.out.at hlt]; rfl)
    obtain ⟨ci,fi⟩ := hrr.cell (j := o + i) (by omega)
    have hcall := hp'.out wr xs[j] (List.getElem_mem hlt) Tr.out
    have hkeep : Hid (p xs[j] = false → KeptIn p xs (i + 1) (j + 1) (ys.set i xs[j])) := fun h => I.out.keep hlt h
    have hskip : Hid (p xs[j] = true → KeptIn p xs i (j + 1) ys) := fun h => I.out.skip hlt h
    clear hrr
    obtain ⟨u,hu⟩ := Option.isSome_iff_exists.1 ci
    clear ci
    generalize xs[j] = y at cj hcall hkeep hskip
    cases hq : p y with
    | false =>
      rw [hq] at hcall
      go_wp2_with (go_at_fn g; refine hcall.mono ?_; rintro e w2 ⟨rfl,L2⟩; have hu2 := (L2.cell (b := b) (j := o + i) hbr).trans hu; have fi2 := (frozen?_of_block (L2.block b hbr) (o + i)).trans fi)
      refine ⟨⟨i + 1,j + 1,ys.set i y,by congr 1,by congr 1,hlt,hkeep.out hq,?_,(Tr.out.lo L2).setCell _ _⟩,by simp only [intOf]; omega⟩
      have h1 := cells_set1 (i := i) (Cr.out.of_block (L2.block b hbr)) (by rw [List.length_map,hyl]; omega) (encS y)
      rw [← List.map_set] at h1
      exact h1
    | true =>
      rw [hq] at hcall
      go_wp2_with (go_at_fn g; refine hcall.mono ?_; rintro e w2 ⟨rfl,L2⟩)
      exact ⟨⟨i,j + 1,ys,rfl,by congr 1,hlt,hskip.out hq,Cr.out.of_block (L2.block b hbr),Tr.out.lo L2⟩,by simp only [intOf]; omega⟩
   ·obtain rfl : j = xs.length := by omega
    have hltz : ¬ (xs.length : Int) < (xs.length : Int) := by omega
    have hcl : ∀ ty,(Builtin.clear_ #[30] ty #[.slice (some ⟨b,o + i,none⟩) (xs.length - i) (c - i)]).run Try.prog wr = .ok (.tuple #[]) (wr.setCells b (o + i) (Builtin.zeroCells (Value.string ⟨#[]⟩).cells (xs.length - i)).toList) :=
     fun ty => Lib.run_clear_cellsZ wr _ _ ty _ 1 Try.underlying30 hzv rfl (by decide) b (o + i) _ _ (by omega) (fun t ht => by rw [Nat.add_assoc]; exact (hrr.cell (by omega)).1) (fun t ht => by rw [Nat.add_assoc]; exact (hrr.cell (by omega)).2)
    have fin : Hid (xs.filter (fun x => !p x) = ys.take i) := by
     have := I.out.low
     rw [List.take_length] at this; exact this.symm
    have finl : Hid ((xs.filter fun x => !p x).length = i) := by
     show _ = _
     rw [fin.out,List.length_take]; omega
    have hic : i ≤ c := by omega
    clear hrr hp' hC' hr' K0 I
    go_wp2
    go_ret
    rw [finl.out,fin.out]
    refine ⟨rfl,?_,Tr.out.setCells (.inl rfl) _ _⟩
    rw [List.map_take]
    exact cells_out Cr.out _,by
 intro g lb ad w
 have hix := conf_idx.nil g lb ad w
 go_enter Try.func39,Try.ntmps39
 go_wp2_with (go_at_call 55; refine hix.mono ?_; rintro e w' ⟨rfl,L⟩)
 go_ret
 exact ⟨rfl,L⟩⟩
set_option maxHeartbeats 1600000 in
theorem conf_cl (a0 a1 a2 : Option Addr) (n0 n1 n2 c0 c1 c2 B0 B1 B2 : Nat) (x : List UInt8) (z0 z1 z2 : Int) (W : World) (h0 : B0 < W.heap.size) (h1 : B1 < W.heap.size) (h2 : B2 < W.heap.size)
 (g0 : W.cell? ⟨B0,0,none⟩ = some (.slice a0 n0 c0)) (g1 : W.cell? ⟨B1,0,none⟩ = some (.slice a1 n1 c1)) (g2 : W.cell? ⟨B2,0,none⟩ = some (.slice a2 n2 c2))
 (hv0 : ∀ W',Lo W.heap.size W W' → Calls Try.prog 22 #[.slice a0 n0 c0,encS x] W' fun e W2 => e = .returned (.int .i64 z0) ∧ Lo W'.heap.size W' W2)
 (hv1 : ∀ W',Lo W.heap.size W W' → Calls Try.prog 22 #[.slice a1 n1 c1,encS x] W' fun e W2 => e = .returned (.int .i64 z1) ∧ Lo W'.heap.size W' W2)
 (hv2 : ∀ W',Lo W.heap.size W W' → Calls Try.prog 22 #[.slice a2 n2 c2,encS x] W' fun e W2 => e = .returned (.int .i64 z2) ∧ Lo W'.heap.size W' W2) :
 Calls Try.prog 40 #[encS x,.pointer (some ⟨B1,0,none⟩),.pointer (some ⟨B2,0,none⟩),.pointer (some ⟨B0,0,none⟩)] W fun e W' => e = .returned (.bool (z1 == z2 || (z1 == z0 || z2 == z0))) ∧ Lo W.heap.size W W' := by
 have L0 := Lo.refl W.heap.size W
 go_enter Try.func40,Try.ntmps40
 go_wp2_with (fail)
 go_region_held3 (fun w' => w'.cell? ⟨B0,0,none⟩ = some (.slice a0 n0 c0) ∧ w'.cell? ⟨B1,0,none⟩ = some (.slice a1 n1 c1) ∧ w'.cell? ⟨B2,0,none⟩ = some (.slice a2 n2 c2)) (go_keep)
  (first | (go_at_call 22; refine (hv1 _ (Lo.drew L0)).mono ?_; clear hv1; rintro e x1 ⟨rfl,k1⟩; have L1 : Lo W.heap.size W x1 := (Lo.drew L0).trans (k1.mono (Nat.le_refl _)); have e0 := (L1.cell (b := B0) (j := 0) h0).trans g0; have e1 := (L1.cell (b := B1) (j := 0) h1).trans g1; have e2 := (L1.cell (b := B2) (j := 0) h2).trans g2) | (go_at_call 22; refine (hv2 _ L1).mono ?_; clear hv2; rintro e x2 ⟨rfl,k2⟩; have L2 : Lo W.heap.size W x2 := L1.trans (k2.mono L1.size); have e0' := (L2.cell (b := B0) (j := 0) h0).trans g0; have e1' := (L2.cell (b := B1) (j := 0) h1).trans g1; have e2' := (L2.cell (b := B2) (j := 0) h2).trans g2) | (go_at_call 22; refine (hv0 _ L2).mono ?_; clear hv0; rintro e x3 ⟨rfl,k3⟩; have L3 : Lo W.heap.size W x3 := L2.trans (k3.mono L2.size); have e0'' := (L3.cell (b := B0) (j := 0) h0).trans g0; have e1'' := (L3.cell (b := B1) (j := 0) h1).trans g1; have e2'' := (L3.cell (b := B2) (j := 0) h2).trans g2))
 by_cases c1 : z1 = z2 <;> by_cases c2 : z1 = z0 <;> by_cases c3 : z2 = z0 <;>
  (go_wp2_with (fail); go_ret; exact ⟨by simp_all [Bool.or_assoc],L3⟩)
set_option maxHeartbeats 1600000 in
theorem conf_walk : ConfWalk Try.prog 20 21 22 := ⟨⟨_,Try.func20,by decide +kernel,rfl⟩,by
 intro a0 a1 a2 n0 n1 n2 c0 c1 c2 xs vl w hx hn hv
 have eg : ∀ args w,(callFunc 40 args).run Try.prog w = .ok (.enter 40 args) w := enters_of Try.func40 (by kernel_rfl) rfl
 have hz1 : ∀ (u : World) (o : Obj),(u.alloc o).heap.size = u.heap.size + 1 := fun u o => by simp
 obtain ⟨p,hp⟩ : ∃ p : List UInt8 → Bool,p = strikeB vl := ⟨_,rfl⟩
 rw [← hp]
 obtain ⟨W0,hW0⟩ : ∃ W0,W0 = (((w.alloc (.cells #[.slice a0 n0 c0] 24)).alloc (.cells #[.slice a1 n1 c1] 24)).alloc (.cells #[.slice a2 n2 c2] 24)).alloc (.cells #[.slice a0 n0 c0,.slice a1 n1 c1,.slice a2 n2 c2] 24) := ⟨_,rfl⟩
 have hs0 : W0.heap.size = w.heap.size + 4 := by rw [hW0]; simp only [hz1]
 have LW : Lo w.heap.size w W0 := by
  rw [hW0]
  exact ((((Lo.refl _ w).alloc (Nat.le_refl _) _).alloc (by simp only [hz1]; omega) _).alloc (by simp only [hz1]; omega) _).alloc (by simp only [hz1]; omega) _
 have b0 : W0.heap[w.heap.size]? = some (.cells #[.slice a0 n0 c0] 24) := by
  rw [hW0,get_old _ _ (by simp only [hz1]; omega),get_old _ _ (by simp only [hz1]; omega),get_old _ _ (by simp only [hz1]; omega),get_new _ _ rfl]
 have b1 : W0.heap[w.heap.size + 1]? = some (.cells #[.slice a1 n1 c1] 24) := by
  rw [hW0,get_old _ _ (by simp only [hz1]; omega),get_old _ _ (by simp only [hz1]; omega),get_new _ _ (by simp only [hz1])]
 have b2 : W0.heap[w.heap.size + 2]? = some (.cells #[.slice a2 n2 c2] 24) := by
  rw [hW0,get_old _ _ (by simp only [hz1]; omega),get_new _ _ (by simp only [hz1])]
 have b3 : W0.heap[w.heap.size + 3]? = some (.cells #[.slice a0 n0 c0,.slice a1 n1 c1,.slice a2 n2 c2] 24) := by
  rw [hW0,get_new _ _ (by simp only [hz1])]
 have hnm := hn W0 (w.heap.size + 3) LW (by omega) ⟨_,b3⟩
 have hread : ∀ (W1 : World) (b : Nat),Lo W0.heap.size W0 W1 → W0.heap.size ≤ b → Reads Try.prog 40 #[.pointer (some ⟨w.heap.size + 1,0,none⟩),.pointer (some ⟨w.heap.size + 2,0,none⟩),.pointer (some ⟨w.heap.size,0,none⟩)] p xs b W1 := by
  intro W1 b L1 hb W x hx hT
  have hWs : W0.heap.size ≤ W.heap.size := Nat.le_trans L1.size hT.size
  have hL1s := L1.size
  have blk : ∀ q,q < W0.heap.size → W.heap[q]? = W0.heap[q]? := fun q hq => (hT.block q (by omega) (by omega)).trans (L1.block q hq)
  have LwW : Lo w.heap.size w W := ⟨by omega,fun q hq => (blk q (by omega)).trans (LW.block q hq),hT.os.trans (L1.os.trans LW.os),hT.output.trans (L1.output.trans LW.output)⟩
  have lo : ∀ W',Lo W.heap.size W W' → Lo w.heap.size w W' := fun W' h => LwW.trans (h.mono (by omega))
  rw [hp]
  exact conf_cl a0 a1 a2 n0 n1 n2 c0 c1 c2 w.heap.size (w.heap.size + 1) (w.heap.size + 2) x (vl 0 x) (vl 1 x) (vl 2 x) W (by omega) (by omega) (by omega)
   (by simp only [World.cell?,blk _ (show w.heap.size < W0.heap.size by omega),b0]; rfl) (by simp only [World.cell?,blk _ (show w.heap.size + 1 < W0.heap.size by omega),b1]; rfl) (by simp only [World.cell?,blk _ (show w.heap.size + 2 < W0.heap.size by omega),b2]; rfl)
   (fun W' h => hv W' 0 _ x rfl hx (lo W' h)) (fun W' h => hv W' 1 _ x rfl hx (lo W' h)) (fun W' h => hv W' 2 _ x rfl hx (lo W' h))
 have hdel : ∀ (W1 : World) (v : Value),Lo W0.heap.size W0 W1 → ((∃ ad,v = .slice ad 0 0 ∧ xs = []) ∨ ∃ b o c,v = .slice (some ⟨b,o,none⟩) xs.length c ∧ W0.heap.size ≤ b ∧ xs.length ≤ c ∧ c ≠ 0 ∧ Cells W1 b o (xs.map encS) ∧ Room 1 W1 b (o + c * 1)) →
  Calls Try.prog 39 #[v,.func (.func 40) #[] #[.pointer (some ⟨w.heap.size + 1,0,none⟩),.pointer (some ⟨w.heap.size + 2,0,none⟩),.pointer (some ⟨w.heap.size,0,none⟩)]] W1 fun e w' => Lo w.heap.size w w' ∧ ∃ v',e = .returned v' ∧
   ((∃ ad,v' = .slice ad 0 0 ∧ xs.filter (fun x => !p x) = []) ∨ ∃ b o c,v' = .slice (some ⟨b,o,none⟩) (xs.filter fun x => !p x).length c ∧ w.heap.size ≤ b ∧ b < w'.heap.size ∧ (xs.filter fun x => !p x).length ≤ c ∧ Cells w' b o ((xs.filter fun x => !p x).map encS)) := by
  intro W1 v L1 h
  have LL : Lo w.heap.size w W1 := LW.trans (L1.mono (by omega))
  rcases h with ⟨ad,rfl,rfl⟩ | ⟨b,o,c,rfl,hb,hc,hc0,hC,hr⟩
  ·refine (conf_del.none 40 _ ad W1).mono ?_
   rintro e w' ⟨rfl,h⟩
   exact ⟨LL.trans (h.mono (by have := LL.size; omega)),_,rfl,.inl ⟨ad,rfl,rfl⟩⟩
  ·refine (conf_del.run 40 _ eg p b o c xs W1 hx hc hc0 hC hr (hread W1 b L1 hb)).mono ?_
   rintro e w' ⟨rfl,h1,h2⟩
   have hbl := hr.lt
   have hle : (xs.filter fun x => !p x).length ≤ xs.length := List.length_filter_le _ _
   exact ⟨LL.trans ⟨h2.size,fun q hq => h2.block q (by have := LL.size; omega) (by omega),h2.os,h2.output⟩,_,rfl,.inr ⟨b,o,c,rfl,by omega,Nat.lt_of_lt_of_le hbl h2.size,by omega,h1⟩⟩
 clear hn hv hread hp eg hx
 have k0 : w.heap.size < W0.heap.size := by omega
 clear b0 b1 b2 b3 LW hs0 k0
 go_enter Try.func20,Try.ntmps20
 go_wp2_with (fail)
 rw [← hW0]
 refine hnm.mono ?_
 rintro e W1 ⟨L1,v,rfl,hv⟩
 have hd := hdel W1 v L1 hv
 clear hdel hnm
 go_wp2_with (fail)
 refine hd.mono ?_
 rintro e W2 ⟨L2,v',rfl,hv'⟩
 go_wp2_with (fail)
 go_ret
 exact ⟨L2,v',rfl,hv'⟩⟩
end
theorem ok_impl_conflicts : FOk Try.prog phi 705 impl_conflicts_c := conflicts_ok (g := 705) (gn := 704) (gv := 688) conf_walk (by kernel_rfl) (fun x ns h => callOk_tok ok_impl_namesOf h) (fun l x y h => callOk_two ok_impl_value h)
theorem ok_impl_MergeStates : FOk Try.prog phi 280 impl_MergeStates_c := fn_ok hm (D := impl_MergeStates_D) (DOk.cons ok_impl_few (DOk.cons ok_impl_value (DOk.cons ok_impl_ValidState (DOk.cons ok_impl_namesOf (DOk.cons ok_impl_conflicts DOk.nil))))) (by kernel_rfl) _ _ _ _
theorem ok_spec_l27Same : FOk Try.prog phi 693 spec_l27Same_c := fn_ok hm (D := spec_l27Same_D) DOk.nil (by kernel_rfl) _ _ _ _
theorem ok_spec_SameState : FOk Try.prog phi 266 spec_SameState_c := fn_ok hm (D := spec_SameState_D) (DOk.cons ok_spec_l27Same DOk.nil) (by kernel_rfl) _ _ _ _
theorem ok_impl_ConflictsOf : FOk Try.prog phi 281 impl_ConflictsOf_c := fn_ok hm (D := impl_ConflictsOf_D) (DOk.cons ok_impl_ValidState (DOk.cons ok_impl_conflicts DOk.nil)) (by kernel_rfl) _ _ _ _
theorem ok_spec_l01Small : FOk Try.prog phi 11 spec_l01Small_c := fn_ok hm (D := spec_l01Small_D) DOk.nil (by kernel_rfl) _ _ _ _
theorem ok_spec_l01Digit : FOk Try.prog phi 12 spec_l01Digit_c := fn_ok hm (D := spec_l01Digit_D) DOk.nil (by kernel_rfl) _ _ _ _
theorem ok_spec_l01Name : FOk Try.prog phi 13 spec_l01Name_c := fn_ok hm (D := spec_l01Name_D) (DOk.cons ok_spec_l01Small (DOk.cons ok_spec_l01Digit DOk.nil)) (by kernel_rfl) _ _ _ _
theorem ok_spec_l00In : FOk Try.prog phi 1 spec_l00In_c := fn_ok hm (D := spec_l00In_D) DOk.nil (by kernel_rfl) _ _ _ _
theorem ok_spec_l27Setting : FOk Try.prog phi 936 spec_l27Setting_c := fn_ok hm (D := spec_l27Setting_D) (DOk.cons ok_spec_l00In (DOk.cons ok_spec_l01Name DOk.nil)) (by kernel_rfl) _ _ _ _
theorem ok_spec_l27State : FOk Try.prog phi 706 spec_l27State_c := fn_ok hm (D := spec_l27State_D) (DOk.cons ok_spec_l27Setting DOk.nil) (by kernel_rfl) _ _ _ _
theorem ok_spec_ValidState : FOk Try.prog phi 279 spec_ValidState_c := fn_ok hm (D := spec_ValidState_D) (DOk.cons ok_spec_l27State DOk.nil) (by kernel_rfl) _ _ _ _
theorem ok_spec_l00Src_text : FOk Try.prog phi 557 spec_l00Src_text_c := fn_ok hm (D := spec_l00Src_text_D) (DOk.cons ok_spec_l00Src_pick DOk.nil) (by kernel_rfl) _ _ _ _
theorem ok_spec_l27Draw : FOk Try.prog phi 685 spec_l27Draw_c := fn_ok hm (D := spec_l27Draw_D) (DOk.cons ok_spec_l00Src_pick (DOk.cons ok_spec_l00Src_text (DOk.cons ok_spec_l27DrawState (DOk.cons ok_spec_l27Changed DOk.nil)))) (by kernel_rfl) _ _ _ _
theorem ok_spec_R8History : FOk Try.prog phi 277 spec_R8History_c := fn_ok hm (D := spec_R8History_D) (DOk.cons ok_spec_l00From (DOk.cons ok_spec_l27Draw DOk.nil)) (by kernel_rfl) _ _ _ _
theorem ok_laws_r8At : FOk Try.prog phi 151 laws_r8At_c := fn_ok hm (D := laws_r8At_D) DOk.nil (by kernel_rfl) _ _ _ _
theorem ok_impl_isMemo : FOk Try.prog phi 697 impl_isMemo_c := fn_ok hm (D := impl_isMemo_D) (DOk.cons ok_impl_few (DOk.cons ok_impl_within DOk.nil)) (by kernel_rfl) _ _ _ _
theorem ok_impl_ValidHistory : FOk Try.prog phi 696 impl_ValidHistory_c := fn_ok hm (D := impl_ValidHistory_D) (DOk.cons ok_impl_few (DOk.cons ok_impl_within (DOk.cons ok_impl_ValidState (DOk.cons ok_impl_isMemo DOk.nil)))) (by kernel_rfl) _ _ _ _
theorem ok_impl_at : FOk Try.prog phi 4 impl_at_c := fn_ok hm (D := impl_at_D) DOk.nil (by kernel_rfl) _ _ _ _
theorem ok_impl_isVersion : FOk Try.prog phi 695 impl_isVersion_c := fn_ok hm (D := impl_isVersion_D) (DOk.cons ok_impl_at DOk.nil) (by kernel_rfl) _ _ _ _
theorem ok_impl_ancestors : FOk Try.prog phi 699 impl_ancestors_c := fn_ok hm (D := impl_ancestors_D) DOk.nil (by kernel_rfl) _ _ _ _
theorem ok_slices_Index___int64_int64_ : FOk Try.prog phi 1043 slices_Index___int64_int64__c := fn_ok hm (D := slices_Index___int64_int64__D) DOk.nil (by kernel_rfl) _ _ _ _
theorem ok_slices_Contains___int64_int64_ : FOk Try.prog phi 932 slices_Contains___int64_int64__c := fn_ok hm (D := slices_Contains___int64_int64__D) (DOk.cons ok_slices_Index___int64_int64_ DOk.nil) (by kernel_rfl) _ _ _ _
theorem ok_impl_common : FOk Try.prog phi 702 impl_common_c := fn_ok hm (D := impl_common_D) (DOk.cons ok_impl_ancestors (DOk.cons ok_slices_Contains___int64_int64_ DOk.nil)) (by kernel_rfl) _ _ _ _
theorem ok_impl_CommonAncestor : FOk Try.prog phi 268 impl_CommonAncestor_c := fn_ok hm (D := impl_CommonAncestor_D) (DOk.cons ok_impl_isVersion (DOk.cons ok_impl_ValidHistory (DOk.cons ok_impl_common DOk.nil))) (by kernel_rfl) _ _ _ _
theorem ok_impl_stateOf : FOk Try.prog phi 698 impl_stateOf_c := fn_ok hm (D := impl_stateOf_D) DOk.nil (by kernel_rfl) _ _ _ _
theorem ok_impl_clone_impl_Setting_ : FOk Try.prog phi 691 impl_clone_impl_Setting__c := fn_ok hm (D := impl_clone_impl_Setting__D) DOk.nil (by kernel_rfl) _ _ _ _
theorem ok_impl_copyHistory : FOk Try.prog phi 930 impl_copyHistory_c := fn_ok hm (D := impl_copyHistory_D) (DOk.cons ok_impl_clone_impl_Setting_ DOk.nil) (by kernel_rfl) _ _ _ _
theorem ok_impl_commit : FOk Try.prog phi 694 impl_commit_c := fn_ok hm (D := impl_commit_D) (DOk.cons ok_impl_clone_impl_Setting_ (DOk.cons ok_impl_copyHistory DOk.nil)) (by kernel_rfl) _ _ _ _
theorem ok_impl_MergeVersions : FOk Try.prog phi 278 impl_MergeVersions_c := fn_ok hm (D := impl_MergeVersions_D) (DOk.cons ok_impl_MergeStates (DOk.cons ok_impl_commit (DOk.cons ok_impl_isVersion (DOk.cons ok_impl_ValidHistory (DOk.cons ok_impl_isMemo (DOk.cons ok_impl_stateOf (DOk.cons ok_impl_common DOk.nil))))))) (by kernel_rfl) _ _ _ _
theorem ok_spec_l27Memo : FOk Try.prog phi 933 spec_l27Memo_c := fn_ok hm (D := spec_l27Memo_D) DOk.nil (by kernel_rfl) _ _ _ _
theorem ok_spec_l27Ok : FOk Try.prog phi 703 spec_l27Ok_c := fn_ok hm (D := spec_l27Ok_D) (DOk.cons ok_spec_l00In (DOk.cons ok_spec_l27State (DOk.cons ok_spec_l27Memo DOk.nil))) (by kernel_rfl) _ _ _ _
theorem ok_spec_ValidHistory : FOk Try.prog phi 267 spec_ValidHistory_c := fn_ok hm (D := spec_ValidHistory_D) (DOk.cons ok_spec_l27Ok DOk.nil) (by kernel_rfl) _ _ _ _
theorem ok_laws_FnMerges : FOk Try.prog phi 1279 laws_FnMerges_c := fn_ok hm (D := laws_FnMerges_D) (DOk.cons ok_laws_r8Long (DOk.cons ok_laws_r8At (DOk.cons ok_spec_SameState (DOk.cons ok_spec_ValidHistory (DOk.cons ok_impl_CommonAncestor (DOk.cons ok_spec_R8Changed (DOk.cons ok_spec_R8State (DOk.cons ok_spec_R8History (DOk.cons ok_impl_MergeVersions (DOk.cons ok_spec_ValidState (DOk.cons ok_impl_MergeStates (DOk.cons ok_impl_ConflictsOf DOk.nil)))))))))))) (by kernel_rfl) _ _ _ _
theorem law : ∀ x,wfU laws_FnMerges_c.ps x → ∃ y,laws_FnMerges_c.f x = some y ∧ resA laws_FnMerges_c y = ([A.bool true],[]) := fun x hx => ⟨true,(laws_FnMerges_true x.1 x.2.1 hx.1 hx.2.1),rfl⟩
theorem own : ownKnob Try.prog.godebug = none := by kernel_rfl
theorem laid : laidOutB Try.prog = true := by kernel_rfl
theorem reads : ∀ t ∈ Try.f3.params.toList,Try.prog.readableRec t = true ∧ t < Try.prog.types.size := by
 have h : (Try.f3.params.toList.all fun t => Try.prog.readableRec t && decide (t < Try.prog.types.size)) = true := by kernel_rfl
 intro t ht
 have := List.all_eq_true.1 h t ht
 simpa only [Bool.and_eq_true,decide_eq_true_eq] using this
theorem spec_eq (H : Type) : ∀ (ds : List (DataW H)),ds.length = Try.f3.params.toList.length → Rows.fnMergesSpec.fn H ds = { results := [.lit (.bool true)],args := ds } := by
 intro ds hd
 have hd : ds.length = 2 := hd
 match ds,hd with
 | [d0,d1],_ => rfl
theorem tab (W : World) : ∀ i,Try.prog.globalNamed pow10Name = some i → Lib.TabIs Try.prog W pow10Name .u64 Lib.pow10Tab := by
 intro i hi
 have h : Try.prog.globalNamed pow10Name = none := by kernel_rfl
 rw [h] at hi; cases hi
theorem errs (W : World) : ∀ n,errNames.contains n = true → ∀ i,Try.prog.globalNamed n = some i → ∃ u v,W.var? Try.prog n = some #[.iface u v] := by
 intro n hn i hi
 have hn : n = "strconv.ErrSyntax" ∨ n = "strconv.ErrRange" := by simpa [errNames] using hn
 rcases hn with rfl | rfl
 ·have h : Try.prog.globalNamed "strconv.ErrSyntax" = none := by kernel_rfl
  rw [h] at hi; cases hi
 ·have h : Try.prog.globalNamed "strconv.ErrRange" = none := by kernel_rfl
  rw [h] at hi; cases hi
theorem contract (H : Type) (enc : TypeId × Value → H) (W : World) (base : Nat) (args : Array Value) (ds gs : List (DataW H)) (before : List MemPlace)
 (hval : ∀ (j : Nat) t v,Try.f3.params[j]? = some t → args[j]? = some v → Value.okWide Try.prog W .any base t v)
 (hW : DataW.Whole enc Try.prog Try.f3.params.toList Rows.fnMergesSpec.vars false W args.toList ds gs before) (hsh : W.ShapedOpen Try.prog) :
 Calls Try.prog 3 args W fun e W' => ∃ v,e = .returned v ∧ Rows.fnMergesSpec.post enc Try.prog Try.f3 false true false false W args v W' :=
 row_contract (φ := phi) (g := 1279) (n := 20) ok_laws_FnMerges rfl rfl (tb := 4) Try.underlying4 (by kernel_rfl) rfl law laid reads spec_eq W base args ds gs before hval hW (Glob.start hsh (tab W) (errs W))
theorem lifted (os : Os) (started : os.Started) (H : Type) (enc : TypeId × Value → H) :
 ReturnsInHanded {} Try.checked os 3 .any (Rows.fnMergesSpec.pre6 enc Try.prog Try.f3 Rows.fnMergesRow.domain false) (Rows.fnMergesSpec.post enc Try.prog Try.f3 false true false false) := by
 refine returnsInHanded_of_change_shaped (C := Try.checked) own started (by kernel_rfl) Try.func3
  (ChangeSpec.witness6 (enc := enc) (C := Try.checked) false ⟨#[],#[.slice none 0 0,.slice none 0 0],[]⟩ 12 (by kernel_rfl) (by kernel_rfl) (by kernel_rfl) (by kernel_rfl)) ?_
 intro W base args ds gs before hval hW _ _ hsh _
 exact contract H enc W base args ds gs before hval hW hsh
theorem over : Rows.fnMergesRow.holds Try.pinned (OpenSpec.ofChange Rows.fnMergesSpec) :=
 OpenClaim.holds_of_wide 3 Try.f3 rfl rfl rfl rfl rfl rfl rfl ⟨rfl,rfl,rfl,rfl,rfl⟩ rfl rfl rfl rfl rfl (by kernel_rfl) Try.func3 (by kernel_rfl)
  (of_decide_eq_true (by kernel_rfl)) (by unfold Func.isWrapper; first | (rw [if_pos (by decide +kernel)]; kernel_rfl) | (rw [if_neg (by decide +kernel)]; exact ⟨rfl,rfl⟩))
  (fun os started H enc _ => lifted os started H enc)
theorem proved : Rows.FnMergesSaid := over
end Go.Proofs.Ytfpkhebdkjpcmaa.fnMerges
