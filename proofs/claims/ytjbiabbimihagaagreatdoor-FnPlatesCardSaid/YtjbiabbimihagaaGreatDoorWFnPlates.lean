/- The law FnPlates answers true for every input, whatever it is, and leaves its arguments as they were. Conditions: none. -/
import Derived.Test.YtjbiabbimihagaaGreatDoorQFnPlates
import Derived.Test.YtjbiabbimihagaaGreatDoorRows
import Derived.Test.YtjbiabbimihagaaGreatDoorL5
import Derived.Test.YtjbiabbimihagaaGreatDoorLG
import Derived.Carry
import Derived.Deep.RegionHeld3
import Derived.StillTailTactics
import Derived.Test.YtjbiabbimihagaaGreatDoorShelf
import Derived.Test.YtjbiabbimihagaaGreatDoorCards
import Derived.Test.YtjbiabbimihagaaGreatDoorTie
import Derived.LaidMore
import Derived.Lay
import Derived.SevenTiedAt
import Derived.Stop.Joined
import Derived.WalkKit
import Derived.ProofKit
import Derived.OpenShut
import Derived.JoinedOf
import Derived.Handed
set_option linter.unusedVariables false
set_option maxRecDepth 100000
namespace Go.Proofs.YtjbiabbimihagaaGreatDoor.fnPlates
open Go.Ab Go.Ab.P
open Go.ChangeShapes Go.WideShapes Go.ChangeAt Go.RowKit
def phiL : List (Nat × Nat) := [(76,4),(441,19),(847,52),(463,22),(445,21),(769,20),(642,23),(768,24),(365,5),(23,27),(944,53),(714,25),(772,26),(773,28),(464,40),(971,41),(967,55),(1270,38),(770,30),(465,43),(27,54),(771,29),(364,6),(774,31),(363,7),(362,8),(1,57),(968,56),(777,32),(776,33),(854,68),(775,34),(361,9),(779,35),(16,60),(778,36),(360,10),(359,11),(358,12),(357,13),(4,37),(780,39),(1271,38),(356,14),(782,42),(448,44),(355,15),(21,63),(864,74),(524,64),(630,48),(460,47),(353,17),(683,45),(522,62),(457,46),(354,16),(17,49),(783,50),(352,18),(1281,3)]
def phi (n : Nat) : Nat := (phiL.lookup n).getD 1000000
theorem hm : Tryz.prog.follows .mixedOrders = true := by kernel_rfl
theorem ok_laws_b10Long : FOk Tryz.prog phi 76 laws_b10Long_c := fn_ok hm (D := laws_b10Long_D) DOk.nil (by kernel_rfl) _ _ _ _
theorem ok_spec_l00From : FOk Tryz.prog phi 441 spec_l00From_c := fn_ok hm (D := spec_l00From_D) DOk.nil (by kernel_rfl) _ _ _ _
theorem ok_spec_l00Src_next : FOk Tryz.prog phi 847 spec_l00Src_next_c := fn_ok hm (D := spec_l00Src_next_D) DOk.nil (by kernel_rfl) _ _ _ _
theorem ok_spec_l00Src_pick : FOk Tryz.prog phi 463 spec_l00Src_pick_c := fn_ok hm (D := spec_l00Src_pick_D) (DOk.cons ok_spec_l00Src_next DOk.nil) (by kernel_rfl) _ _ _ _
theorem ok_spec_l00Src_among : FOk Tryz.prog phi 445 spec_l00Src_among_c := fn_ok hm (D := spec_l00Src_among_D) (DOk.cons ok_spec_l00Src_pick DOk.nil) (by kernel_rfl) _ _ _ _
section
open Go.Ab
theorem pl_infoR : (Tryz.prog.info? 33).map (fun i => (i.zero,i.size,i.bytes)) = some (some (.slice none 0 0),1,24) := by kernel_rfl
theorem pl_infoI : (Tryz.prog.info? 2).map (fun i => (i.zero,i.size,i.bytes)) = some (some (.int .i64 0),1,8) := by kernel_rfl
set_option maxHeartbeats 3200000 in
theorem pl_ok {φ : Nat → Nat} {S : Nat} {K0 : Nat → Prop} {pk : srcE.ty → Int → Option (Int × srcE.ty)} {p : Value}
 (pick : ∀ {x : srcE.ty} {n y : Int} {x' : srcE.ty} {xsv av : Value} {xs : List (List Int)} {acc : List Int} {u : World},pk x n = some (y,x') → Mst Tryz.prog φ S 33 2 K0 x p xs xsv acc av u →
   Calls Tryz.prog 22 #[p,.int .i64 n] u fun r w' => r = .returned (.int .i64 y) ∧ u.heap.size ≤ w'.heap.size ∧ Fq S p u w' ∧ Mst Tryz.prog φ S 33 2 K0 x' p xs xsv acc av w')
 {x0 x2 : srcE.ty} {rows : List (List Int)} (hY : mOkF pk x0 = some (x2,rows)) {w : World} (N0 : Mst Tryz.prog φ S 33 2 K0 x0 p [] (.slice none 0 0) [] (.slice none 0 0) w) (hS : S ≤ w.heap.size) :
 Calls Tryz.prog 51 #[p] w fun r w' => ∃ vo,r = .returned vo ∧ Fq S p w w' ∧ S ≤ w'.heap.size ∧ Mst Tryz.prog φ S 33 2 K0 x2 p rows vo [] (.slice none 0 0) w' := by
 unfold mOkF at hY
 obtain ⟨⟨a,x1⟩,ha,hY1⟩ := Option.bind_eq_some_iff.1 hY
 clear hY
 split at hY1
 rotate_left
 ·cases hY1
 rename_i ha0
 obtain ⟨⟨b,x3⟩,hb,hY2⟩ := Option.bind_eq_some_iff.1 hY1
 clear hY1
 simp only at ha0 hb hY2
 split at hY2
 rotate_left
 ·cases hY2
 rename_i hb0
 have ha1 : a ≤ 1000 := ha0.2
 have ha2 : 0 ≤ a := ha0.1
 have hb1 : b ≤ 1000 := hb0.2
 have hb2 : 0 ≤ b := hb0.1
 obtain ⟨iR,hiR,heR⟩ := Option.map_eq_some_iff.1 pl_infoR
 simp only [Prod.mk.injEq] at heR
 obtain ⟨zR,sR,bR⟩ := heR
 obtain ⟨iI,hiI,heI⟩ := Option.map_eq_some_iff.1 pl_infoI
 simp only [Prod.mk.injEq] at heI
 obtain ⟨zI,sI,bI⟩ := heI
 go_enter Tryz.func51,Tryz.ntmps51
 go_wp2_with (fail)
 go_at_call 22
 refine (pick ha N0).mono ?_
 rintro r w1 ⟨rfl,hz1,L1,N1⟩
 go_wp2_with (fail)
 go_at_call 22
 refine (pick hb N1).mono ?_
 rintro r w2 ⟨rfl,hz2,L2,N2⟩
 replace L2 := L1.trans L2
 have hS2 : S ≤ w2.heap.size := by omega
 have N3 : Mst Tryz.prog φ S 33 2 K0 x3 p [] (.slice (some ⟨w2.heap.size,0,none⟩) 0 0) [] (.slice none 0 0) (w2.alloc (.cells #[] 33)) := (N2.keep ((Lo.refl _ _).alloc (Nat.le_refl _) _)).out _
 have L3 : Fq S p w (w2.alloc (.cells #[] 33)) := L2.alloc hS2 _
 clear N1 L1 N2 L2
 go_wp2_with (fail)
 go_loopw [5,6] (fun vo kv wr => ∃ (k : Int) (r : Nat) (x : srcE.ty) (out : List (List Int)),kv = .int .i64 k ∧ 0 ≤ k ∧ k + r = 1 + a ∧ out.length + r ≤ 1001 ∧ mRows pk (b.toNat + 1) r x out = some (x2,rows) ∧ S ≤ wr.heap.size ∧ Mst Tryz.prog φ S 33 2 K0 x p out vo [] (.slice none 0 0) wr ∧ Fq S p w wr)
  (fun _ kv _ => (1 + a - intOf kv).toNat)
 case atStart =>
  exact ⟨0,a.toNat + 1,x3,[],rfl,by omega,by omega,by simp; omega,hY2,by simp; omega,N3,L3⟩
 case round =>
  clear N3 L3 hY2
  obtain ⟨k,r,x,out,rfl,hk0,hkr,hlr,hbr,hSr,N3,L3⟩ := hrel
  cases r with
  | succ r =>
    have hlt : k < 1 + a := by omega
    have hk9 : k ≤ 1000 := by omega
    obtain ⟨⟨x5,row⟩,hrow,hb2⟩ := Option.bind_eq_some_iff.1 hbr
    clear hbr
    simp only at hrow hb2
    go_wp2_with (fail)
    have N4 : Mst Tryz.prog φ S 33 2 K0 x p out u5 [] (.slice (some ⟨wr.heap.size,0,none⟩) 0 0) (wr.alloc (.cells #[] 2)) := (N3.keep ((Lo.refl _ _).alloc (Nat.le_refl _) _)).row _
    have L4 : Fq S p w (wr.alloc (.cells #[] 2)) := L3.alloc hSr _
    clear N3 L3
    go_loopw [7,8] (fun ro jv w5 => ∃ (j : Int) (r2 : Nat) (x6 : srcE.ty) (acc : List Int),jv = .int .i64 j ∧ 0 ≤ j ∧ j + r2 = 1 + b ∧ acc.length + r2 ≤ 1001 ∧ mRow pk r2 x6 acc = some (x5,row) ∧ S ≤ w5.heap.size ∧ Mst Tryz.prog φ S 33 2 K0 x6 p out u5 acc ro w5 ∧ Fq S p w w5)
     (fun _ jv _ => (1 + b - intOf jv).toNat)
    case atStart =>
     exact ⟨0,b.toNat + 1,x,[],rfl,by omega,by omega,by simp; omega,hrow,by simp; omega,N4,L4⟩
    case round =>
     clear N4 L4 hrow
     obtain ⟨j,r2,x6,acc,rfl,hj0,hjr,hlr2,hbr2,hS6,N6,L6⟩ := hrel
     cases r2 with
     | succ r2 =>
       have hltj : j < 1 + b := by omega
       have hj9 : j ≤ 1000 := by omega
       obtain ⟨⟨y,x7⟩,hy,hb3⟩ := Option.bind_eq_some_iff.1 hbr2
       clear hbr2
       split at hb3
       rotate_left
       ·cases hb3
       rename_i hy0
       simp only at hy0 hb3
       have hy1 : y ≤ 1000 := hy0.2
       have hy2 : 0 ≤ y := hy0.1
       go_wp2_with (fail)
       refine (pick hy N6).mono ?_
       rintro e w6 ⟨rfl,hz6,L7,N7⟩
       replace L7 := L6.trans L7
       have hS7 : S ≤ w6.heap.size := by omega
       have N8 : Mst Tryz.prog φ S 33 2 K0 x7 p out u5 acc u7 (w6.alloc (.cells #[.int .i64 (20 + y)] 2)) := N7.keep ((Lo.refl _ _).alloc (Nat.le_refl _) _)
       have L8 : Fq S p w (w6.alloc (.cells #[.int .i64 (20 + y)] 2)) := L7.alloc hS7 _
       have hzA : (w6.alloc (.cells #[.int .i64 (20 + y)] 2)).heap.size = w6.heap.size + 1 := by simp
       obtain ⟨ad,n,cp,w7,hrun,hz7,L9,N9⟩ := N8.rowapp (t := 33) (y := 20 + y) Tryz.underlying33 hiI sI zI rfl (by rw [bI]; omega) (by omega) (get_new _ _ rfl) rfl 1 33
       replace L9 := L8.trans L9
       have hS9 : S ≤ w7.heap.size := by omega
       clear hzA
       go_wp2_with (first | (at_builtin; refine wpList_append_run _ rfl _ _ _ _ rfl _ _ rfl rfl hrun ?_) | fail)
       exact ⟨⟨j + 1,r2,x7,acc ++ [20 + y],rfl,by omega,by omega,by simp; omega,hb3,hS9,N9,L9⟩,by simp only [intOf]; omega⟩
     | zero =>
       obtain ⟨rfl,rfl⟩ : x6 = x5 ∧ acc = row := by simpa [mRow] using hbr2
       have hgej : ¬ j < 1 + b := by omega
       obtain ⟨ra,rn,rc,rfl⟩ := N6.rowSlice
       have N7 : Mst Tryz.prog φ S 33 2 K0 x6 p out u5 acc (.slice ra rn rc) (wr.alloc (.cells #[.slice ra rn rc] 33)) := N6.keep ((Lo.refl _ _).alloc (Nat.le_refl _) _)
       have L7 : Fq S p w (wr.alloc (.cells #[.slice ra rn rc] 33)) := L6.alloc hS6 _
       have hzA : (wr.alloc (.cells #[.slice ra rn rc] 33)).heap.size = wr.heap.size + 1 := by simp
       obtain ⟨ad,n,cp,w7,hrun,hz7,L9,N9⟩ := N7.outapp (t := 24) Tryz.underlying24 hiR sR zR rfl (by rw [bR]; omega) (by omega) (get_new _ _ rfl) rfl 1 24
       replace L9 := L7.trans L9
       have hS9 : S ≤ w7.heap.size := by omega
       clear hzA
       go_wp2_with (first | (at_builtin; refine wpList_append_run _ rfl _ _ _ _ rfl _ _ rfl rfl hrun ?_) | fail)
       exact ⟨⟨k + 1,r,x6,out ++ [acc],rfl,by omega,by omega,by simp; omega,hb2,hS9,N9,L9⟩,by simp only [intOf]; omega⟩
  | zero =>
    obtain ⟨rfl,rfl⟩ : x = x2 ∧ out = rows := by simpa [mRows] using hbr
    have hge : ¬ k < 1 + a := by omega
    go_wp2_with (fail)
    go_ret
    exact ⟨_,rfl,L3,hSr,N3⟩
set_option maxHeartbeats 3200000 in
theorem pl_draw : PlateDrawWalk Tryz.prog 20 22 21 33 2 := ⟨⟨_,Tryz.func20,by decide +kernel,rfl⟩,by
 intro φ gp ga pk am hp ha hP hA x0 x1 ys hY S K0 p w N0
 have hS : S ≤ w.heap.size := by
  obtain ⟨_,_,O,B,obr,h1,h2,h3,h4,h5,h6,h7,h8,h9⟩ := N0
  exact h8
 have pick : ∀ {x : srcE.ty} {n y : Int} {x' : srcE.ty} {xsv av : Value} {xs : List (List Int)} {acc : List Int} {u : World},pk x n = some (y,x') → Mst Tryz.prog φ S 33 2 K0 x p xs xsv acc av u →
  Calls Tryz.prog 22 #[p,.int .i64 n] u fun r w' => r = .returned (.int .i64 y) ∧ u.heap.size ≤ w'.heap.size ∧ Fq S p u w' ∧ Mst Tryz.prog φ S 33 2 K0 x' p xs xsv acc av w' := fun hq hn => by
  have := hn.call (hP _ _ _ _ hq)
  rw [hp] at this
  exact this
 unfold mDrawF at hY
 obtain ⟨⟨x2,rows⟩,hrows,hY1⟩ := Option.bind_eq_some_iff.1 hY
 clear hY
 split at hY1
 rotate_left
 ·cases hY1
 rename_i hlen
 obtain ⟨⟨c,x3⟩,hc,hY3⟩ := Option.bind_eq_some_iff.1 hY1
 clear hY1
 simp only at hlen hc hY3
 obtain ⟨iR,hiR,heR⟩ := Option.map_eq_some_iff.1 pl_infoR
 simp only [Prod.mk.injEq] at heR
 obtain ⟨zR,sR,bR⟩ := heR
 obtain ⟨iI,hiI,heI⟩ := Option.map_eq_some_iff.1 pl_infoI
 simp only [Prod.mk.injEq] at heI
 obtain ⟨zI,sI,bI⟩ := heI
 go_enter Tryz.func20,Tryz.ntmps20
 go_wp2_with (fail)
 go_at_call 51
 refine (pl_ok pick hrows N0 hS).mono ?_
 rintro r w1 ⟨vo,rfl,L1,hS1,N1⟩
 go_wp2_with (fail)
 go_at_call 22
 refine (pick hc N1).mono ?_
 rintro e w9 ⟨rfl,hz9,L9,N9⟩
 replace L9 := L1.trans L9
 have hS9 : S ≤ w9.heap.size := by omega
 clear N0 N1 L1 hrows pick
 have fin : ∀ {x : srcE.ty} {vo : Value} {zs : List (List Int)} {u : World},Mst Tryz.prog φ S 33 2 K0 x p zs vo [] (.slice none 0 0) u → Fq S p w u → some (x,zs) = some (x1,ys) →
  ∃ ad n cp,(Ending.returned vo) = .returned (.slice ad n cp) ∧ Fq S p w u ∧ Mst Tryz.prog φ S 33 2 K0 x1 p ys (.slice ad n cp) [] (.slice none 0 0) u := fun hn hl hz => by
  obtain ⟨ad,cp,rfl⟩ := hn.slice
  cases hz
  exact ⟨ad,_,cp,rfl,hl,hn⟩
 by_cases c0 : c = 0
 ·subst c0
  simp only [if_true] at hY3
  split at hY3
  rotate_left
  ·cases hY3
  rename_i y ys' rt
  obtain ⟨⟨q,x10⟩,hq,hys⟩ := Option.bind_eq_some_iff.1 hY3
  have hcl := (N9.keep (Lo.drew (Lo.refl _ w9))).amongFirst (t := 2) (ns := [0,1,200,201]) (hA _ _ _ _ hq) 4 (Nat.le_refl _)
  rw [ha] at hcl
  obtain ⟨b,cap,b0,o0,c0,rfl,hb,hb0,g2,⟨gS,gN⟩,hcl⟩ := hcl
  have g2' : w9.cell? ⟨b,0,none⟩ = some (.slice (some ⟨b0,o0,none⟩) (ys'.length + 1) c0) := g2
  clear hP
  go_wp2_with (fail)
  go_region_held3 (fun w' => w'.cell? ⟨b,0,none⟩ = some (.slice (some ⟨b0,o0,none⟩) (ys'.length + 1) c0)) (first | go_keep | (refine (World.cell?_setCell_other _ _ _ _ (by simp <;> omega)).trans ?_; assumption))
   (first | (go_at_call 21; refine hcl.mono ?_; rintro e w10 ⟨rfl,L10,k2,⟨u0,k3⟩,k4,N10⟩))
  go_wp2_with (fail)
  go_ret
  exact fin N10 ((L9.drew.trans L10).trans (.of_lo (Lo.setCell (Lo.refl _ _) gS))) hys
 ·simp only [c0,if_false] at hY3
  by_cases c1 : c = 1
  ·subst c1
   simp only [if_true] at hY3
   have Na := N9.rowLit [5] (by simp)
   have La : Fq S p w (w9.alloc (.cells #[.int .i64 5] 2)) := L9.alloc hS9 _
   have hza : (w9.alloc (.cells #[.int .i64 5] 2)).heap.size = w9.heap.size + 1 := by simp
   have Nb := Na.keep ((Lo.refl _ _).alloc (Nat.le_refl _) (.cells #[.slice (some ⟨w9.heap.size,0,none⟩) 1 1] 33))
   have Lb : Fq S p w ((w9.alloc (.cells #[.int .i64 5] 2)).alloc (.cells #[.slice (some ⟨w9.heap.size,0,none⟩) 1 1] 33)) := La.alloc (by omega) _
   obtain ⟨ad,n,cp,wc,hrun,hzc,Lc,Nc⟩ := Nb.outapp (t := 24) Tryz.underlying24 hiR sR zR rfl (by rw [bR]; omega) (by omega) (get_new _ _ rfl) rfl 1 24
   have hz2 : (w9.alloc (.cells ([5].map (Value.int .i64)).toArray 2)).heap.size = w9.heap.size + 1 := by simp
   rw [hz2] at hrun
   obtain ⟨ad0,cp0,rfl⟩ := N9.slice
   have hrun' : (Builtin.append_ #[24,24] 24 #[.slice ad0 rows.length cp0,.slice (some ⟨w9.heap.size + 1,0,none⟩) 1 1]).run Tryz.prog ((w9.alloc (.cells #[.int .i64 5] 2)).alloc (.cells #[.slice (some ⟨w9.heap.size,0,none⟩) 1 1] 33)) = .ok (.slice ad n cp) wc := hrun
   clear hrun hz2 hza
   go_wp2_with (first | (at_builtin; refine wpList_append_run _ rfl _ _ _ _ rfl _ _ rfl rfl hrun' ?_) | fail)
   go_ret
   exact fin Nc (Lb.trans Lc) hY3
  ·simp only [c1,if_false] at hY3
   by_cases c2 : c = 2
   ·subst c2
    simp only [if_true] at hY3
    obtain ⟨⟨q,x10⟩,hq,hY4⟩ := Option.bind_eq_some_iff.1 hY3
    simp only at hY4
    split at hY4
    rotate_left
    ·cases hY4
    rename_i hq0
    have hq1 : q ≤ 1000 := hq0.2
    have hq2 : 0 ≤ q := hq0.1
    have hcl := N9.among (t := 2) (ns := [0,10,11]) (hA _ _ _ _ hq) 3 (Nat.le_refl _)
    rw [ha] at hcl
    clear hP
    go_wp2_with (fail)
    refine hcl.mono ?_
    rintro e wa ⟨rfl,hza,La,Na,_⟩
    replace La := L9.trans La
    have hSa : S ≤ wa.heap.size := by omega
    clear hcl N9 hza
    have Nb : Mst Tryz.prog φ S 33 2 K0 x10 p [] (.slice (some ⟨wa.heap.size,0,none⟩) 0 0) [] (.slice none 0 0) (wa.alloc (.cells #[] 33)) := (Na.keep ((Lo.refl _ _).alloc (Nat.le_refl _) _)).out _
    have Lb : Fq S p w (wa.alloc (.cells #[] 33)) := La.alloc hSa _
    clear Na
    go_wp2_with (fail)
    go_loopw [3,5] (fun vo kv wr => ∃ r : Nat,kv = .int .i64 r ∧ (r : Int) ≤ q ∧ S ≤ wr.heap.size ∧ Mst Tryz.prog φ S 33 2 K0 x10 p (List.replicate r [3,4]) vo [] (.slice none 0 0) wr ∧ Fq S p w wr)
     (fun _ kv _ => (q - intOf kv).toNat)
    case atStart => exact ⟨0,rfl,by omega,by simp; omega,Nb,Lb⟩
    case round =>
     obtain ⟨r,rfl,hrq,hSr,Nr,Lr⟩ := hrel
     obtain ⟨ad0,cp0,rfl⟩ := Nr.slice
     rw [List.length_replicate] at Nr ⊢
     have hr9 : (r : Int) ≤ 1000 := by omega
     by_cases hlt : (r : Int) < q
     ·have N1 := Nr.rowLit [3,4] (by simp)
      have Lw1 : Fq S p w (wr.alloc (.cells #[.int .i64 3,.int .i64 4] 2)) := Lr.alloc hSr _
      have hz1 : (wr.alloc (.cells #[.int .i64 3,.int .i64 4] 2)).heap.size = wr.heap.size + 1 := by simp
      have N2 := N1.keep ((Lo.refl _ _).alloc (Nat.le_refl _) (.cells #[.slice (some ⟨wr.heap.size,0,none⟩) 2 2] 33))
      have Lw2 : Fq S p w ((wr.alloc (.cells #[.int .i64 3,.int .i64 4] 2)).alloc (.cells #[.slice (some ⟨wr.heap.size,0,none⟩) 2 2] 33)) := Lw1.alloc (by omega) _
      have hzB : ((wr.alloc (.cells #[.int .i64 3,.int .i64 4] 2)).alloc (.cells #[.slice (some ⟨wr.heap.size,0,none⟩) 2 2] 33)).heap.size = wr.heap.size + 2 := by simp
      obtain ⟨ad,n,cp,wc,hrun,hzc,Lc,Nc⟩ := N2.outapp (t := 24) Tryz.underlying24 hiR sR zR rfl (by rw [bR]; omega) (by rw [List.length_replicate]; omega) (get_new _ _ rfl) rfl 1 24
      have hSc : S ≤ wc.heap.size := Nat.le_trans hSr (Nat.le_trans (by simp <;> omega) hzc)
      have hz2 : (wr.alloc (.cells ([3,4].map (Value.int .i64)).toArray 2)).heap.size = wr.heap.size + 1 := by simp
      rw [hz2] at hrun
      have hrun' : (Builtin.append_ #[24,24] 24 #[.slice ad0 r cp0,.slice (some ⟨wr.heap.size + 1,0,none⟩) 1 1]).run Tryz.prog ((wr.alloc (.cells #[.int .i64 3,.int .i64 4] 2)).alloc (.cells #[.slice (some ⟨wr.heap.size,0,none⟩) 2 2] 33)) = .ok (.slice ad n cp) wc := hrun
      have hN : Mst Tryz.prog φ S 33 2 K0 x10 p (List.replicate (r + 1) [3,4]) (.slice ad n cp) [] (.slice none 0 0) wc := by
       rw [List.replicate_succ']; exact Nc
      clear hrun hz2 hz1 hzB hzc
      go_wp2_with (first | (at_builtin; refine wpList_append_run _ rfl _ _ _ _ rfl _ _ rfl rfl hrun' ?_) | fail)
      exact ⟨⟨r + 1,by congr 1,by omega,hSc,hN,Lw2.trans Lc⟩,by simp only [intOf]; omega⟩
     ·obtain rfl : r = q.toNat := by omega
      go_wp2_with (fail)
      go_ret
      exact fin Nr Lr hY4
   ·simp only [c2,if_false] at hY3
    go_wp2_with (fail)
    go_ret
    exact fin N9 L9 hY3⟩
end
theorem ok_spec_l08Draw : FOk Tryz.prog phi 769 spec_l08Draw_c := plateDraw_ok (g := 769) (gp := 463) (ga := 445) pl_draw (by kernel_rfl) (fun x n y x2 h => callOk_boxD ok_spec_l00Src_pick h) (fun x ns y x2 h => callOk_boxD ok_spec_l00Src_among h)
theorem ok_spec_l00Src_one : FOk Tryz.prog phi 642 spec_l00Src_one_c := fn_ok hm (D := spec_l00Src_one_D) (DOk.cons ok_spec_l00Src_pick DOk.nil) (by kernel_rfl) _ _ _ _
theorem ok_spec_l08DrawLeast : FOk Tryz.prog phi 768 spec_l08DrawLeast_c := fn_ok hm (D := spec_l08DrawLeast_D) (DOk.cons ok_spec_l00Src_among DOk.nil) (by kernel_rfl) _ _ _ _
theorem ok_spec_DrawThinTo : FOk Tryz.prog phi 365 spec_DrawThinTo_c := fn_ok hm (D := spec_DrawThinTo_D) (DOk.cons ok_spec_l00From (DOk.cons ok_spec_l00Src_among (DOk.cons ok_spec_l00Src_pick (DOk.cons ok_spec_l00Src_one (DOk.cons ok_spec_l08DrawLeast (DOk.cons ok_spec_l08Draw DOk.nil)))))) (by kernel_rfl) _ _ _ _
theorem ok_impl_within : FOk Tryz.prog phi 23 impl_within_c := fn_ok hm (D := impl_within_D) DOk.nil (by kernel_rfl) _ _ _ _
theorem ok_impl_isGrid : FOk Tryz.prog phi 944 impl_isGrid_c := fn_ok hm (D := impl_isGrid_D) (DOk.cons ok_impl_within DOk.nil) (by kernel_rfl) _ _ _ _
theorem ok_impl_ValidPlate : FOk Tryz.prog phi 714 impl_ValidPlate_c := fn_ok hm (D := impl_ValidPlate_D) (DOk.cons ok_impl_isGrid DOk.nil) (by kernel_rfl) _ _ _ _
theorem ok_impl_isCell : FOk Tryz.prog phi 772 impl_isCell_c := fn_ok hm (D := impl_isCell_D) (DOk.cons ok_impl_within DOk.nil) (by kernel_rfl) _ _ _ _
theorem ok_impl_isLeast : FOk Tryz.prog phi 773 impl_isLeast_c := fn_ok hm (D := impl_isLeast_D) (DOk.cons ok_impl_within DOk.nil) (by kernel_rfl) _ _ _ _
theorem ok_impl_place_of : FOk Tryz.prog phi 464 impl_place_of_c := fn_ok hm (D := impl_place_of_D) DOk.nil (by kernel_rfl) _ _ _ _
theorem ok_impl_thinner : FOk Tryz.prog phi 971 impl_thinner_c := fn_ok hm (D := impl_thinner_D) DOk.nil (by kernel_rfl) _ _ _ _
theorem ok_impl_thinned_1 : FOk Tryz.prog phi 967 impl_thinned_1_c := fn_ok hm (D := impl_thinned_1_D) (DOk.cons ok_impl_place_of (DOk.cons ok_impl_thinner DOk.nil)) (by kernel_rfl) _ _ _ _
theorem ok_impl_mapped_impl_thinned_1 : FOk Tryz.prog phi 1270 impl_mapped_impl_thinned_1_c := fn_ok hm (D := impl_mapped_impl_thinned_1_D) (DOk.cons ok_impl_thinned_1 DOk.nil) (by kernel_rfl) _ _ _ _
theorem ok_impl_thinned : FOk Tryz.prog phi 770 impl_thinned_c := fn_ok hm (D := impl_thinned_D) (DOk.cons ok_impl_mapped_impl_thinned_1 DOk.nil) (by kernel_rfl) _ _ _ _
theorem ok_impl_places : FOk Tryz.prog phi 465 impl_places_c := fn_ok hm (D := impl_places_D) DOk.nil (by kernel_rfl) _ _ _ _
theorem ok_impl_divRound : FOk Tryz.prog phi 27 impl_divRound_c := fn_ok hm (D := impl_divRound_D) DOk.nil (by kernel_rfl) _ _ _ _
theorem ok_impl_plateMass : FOk Tryz.prog phi 771 impl_plateMass_c := fn_ok hm (D := impl_plateMass_D) (DOk.cons ok_impl_divRound (DOk.cons ok_impl_place_of (DOk.cons ok_impl_places DOk.nil))) (by kernel_rfl) _ _ _ _
theorem ok_impl_ThinTo : FOk Tryz.prog phi 364 impl_ThinTo_c := fn_ok hm (D := impl_ThinTo_D) (DOk.cons ok_impl_within (DOk.cons ok_impl_ValidPlate (DOk.cons ok_impl_thinned (DOk.cons ok_impl_plateMass (DOk.cons ok_impl_isCell (DOk.cons ok_impl_isLeast DOk.nil)))))) (by kernel_rfl) _ _ _ _
theorem ok_impl_isBy : FOk Tryz.prog phi 774 impl_isBy_c := fn_ok hm (D := impl_isBy_D) (DOk.cons ok_impl_within DOk.nil) (by kernel_rfl) _ _ _ _
theorem ok_impl_ThinAll : FOk Tryz.prog phi 363 impl_ThinAll_c := fn_ok hm (D := impl_ThinAll_D) (DOk.cons ok_impl_ValidPlate (DOk.cons ok_impl_thinned (DOk.cons ok_impl_isLeast (DOk.cons ok_impl_isBy DOk.nil)))) (by kernel_rfl) _ _ _ _
theorem ok_impl_PlateMass : FOk Tryz.prog phi 362 impl_PlateMass_c := fn_ok hm (D := impl_PlateMass_D) (DOk.cons ok_impl_ValidPlate (DOk.cons ok_impl_plateMass (DOk.cons ok_impl_isCell DOk.nil))) (by kernel_rfl) _ _ _ _
theorem ok_spec_l00In : FOk Tryz.prog phi 1 spec_l00In_c := fn_ok hm (D := spec_l00In_D) DOk.nil (by kernel_rfl) _ _ _ _
theorem ok_spec_l08Thick : FOk Tryz.prog phi 968 spec_l08Thick_c := fn_ok hm (D := spec_l08Thick_D) (DOk.cons ok_spec_l00In DOk.nil) (by kernel_rfl) _ _ _ _
theorem ok_spec_l08Ok : FOk Tryz.prog phi 777 spec_l08Ok_c := fn_ok hm (D := spec_l08Ok_D) (DOk.cons ok_spec_l08Thick DOk.nil) (by kernel_rfl) _ _ _ _
theorem ok_spec_l08By : FOk Tryz.prog phi 776 spec_l08By_c := fn_ok hm (D := spec_l08By_D) (DOk.cons ok_spec_l00In (DOk.cons ok_spec_l08Thick DOk.nil)) (by kernel_rfl) _ _ _ _
theorem ok_spec_l00Own : FOk Tryz.prog phi 854 spec_l00Own_c := fn_ok hm (D := spec_l00Own_D) DOk.nil (by kernel_rfl) _ _ _ _
section
open Go.Ab
theorem al_max (w : World) (a b : Int) : Calls Tryz.prog 49 #[.int .i64 a,.int .i64 b] w fun e w' => e = .returned (.int .i64 (if a < b then b else a)) ∧ w' = w := by
 by_cases h : b < a
 ·rw [if_neg (by omega)]
  go_enter Tryz.func49,Tryz.ntmps49
  go_wp2_with (fail)
  go_ret
  exact ⟨rfl,rfl⟩
 ·have e : (if a < b then b else a) = b := by split <;> omega
  rw [e]
  go_enter Tryz.func49,Tryz.ntmps49
  go_wp2_with (fail)
  go_ret
  exact ⟨rfl,rfl⟩
theorem al_thin (w : World) (n b le : Int) (h1 : -1000000 ≤ n) (h2 : n ≤ 1000000) (h3 : -1000000 ≤ b) (h4 : b ≤ 1000000) : Calls Tryz.prog 59 #[.int .i64 n,.int .i64 b,.int .i64 le] w fun e w' => e = .returned (.int .i64 (thinI b le n)) ∧ w' = w := by
 unfold thinI
 by_cases h : n ≤ le
 ·rw [if_pos h]
  go_enter Tryz.func59,Tryz.ntmps59
  go_wp2_with (fail)
  go_ret
  exact ⟨rfl,rfl⟩
 ·rw [if_neg h]
  rcases Int.lt_or_le (n - b) le with h5 | h5
  ·rw [if_pos h5]
   have e : (if le < n - b then n - b else le) = le := if_neg (by omega)
   have hm := al_max w le (n - b)
   rw [e] at hm
   go_enter Tryz.func59,Tryz.ntmps59
   go_wp2_with (fail)
   go_at_call 49
   refine hm.mono ?_
   rintro r w' ⟨rfl,rfl⟩
   go_wp2_with (fail)
   go_ret
   exact ⟨rfl,rfl⟩
  ·rw [if_neg (by omega)]
   have e : (if le < n - b then n - b else le) = n - b := by split <;> omega
   have hm := al_max w le (n - b)
   rw [e] at hm
   go_enter Tryz.func59,Tryz.ntmps59
   go_wp2_with (fail)
   go_at_call 49
   refine hm.mono ?_
   rintro r w' ⟨rfl,rfl⟩
   go_wp2_with (fail)
   go_ret
   exact ⟨rfl,rfl⟩
theorem al_infoR : (Tryz.prog.info? 33).map (fun i => (i.zero,i.size,i.bytes)) = some (some (.slice none 0 0),1,24) := by kernel_rfl
set_option maxHeartbeats 3200000 in
theorem al_own {φ : Nat → Nat} {go : Nat} {own : List Int → Option (List Int)} (ho : φ go = 68)
 (hO : ∀ r r',own r = some r' → CallOk Tryz.prog φ go [.sl 1 (r.map i64E.enc)] [.tok 0 1 (r'.map i64E.enc)] []) {xs ys : List (List Int)} (hY : ownRows own xs = some ys) (hl : xs.length ≤ 1000)
 {w : World} {K : Nat → Prop} {v : Value} (hr : Rep φ w K v (.sl 1 (xs.map rowE2.enc))) (hK : ∀ b,K b → b < w.heap.size) (hG : Glob Tryz.prog K w) :
 Calls Tryz.prog 58 #[v] w fun r w' => ∃ vo O,r = .returned vo ∧ Lo w.heap.size w w' ∧ NestP φ 33 ys vo O w' ∧ ∀ b,O b → w.heap.size ≤ b ∧ b < w'.heap.size := by
 obtain ⟨⟨av,cv,rfl⟩,hrow⟩ := rows_at hr
 obtain ⟨iR,hiR,heR⟩ := Option.map_eq_some_iff.1 al_infoR
 simp only [Prod.mk.injEq] at heR
 obtain ⟨zR,sR,bR⟩ := heR
 go_enter Tryz.func58,Tryz.ntmps58
 go_wp2_with (fail)
 have L0 : Lo w.heap.size w (w.alloc (.cells #[] 33)) := (Lo.refl _ _).alloc (Nat.le_refl _) _
 go_loopw [3,4] (fun vo iv wr => ∃ (i : Nat) (done rest : List (List Int)) (O : Nat → Prop),iv = .int .i64 i ∧ i ≤ xs.length ∧ done.length = i ∧ ownRows own (xs.drop i) = some rest ∧ done ++ rest = ys ∧ NestP φ 33 done vo O wr ∧ (∀ b,O b → w.heap.size ≤ b ∧ b < wr.heap.size) ∧ Lo w.heap.size w wr)
  (fun _ iv _ => ((xs.length : Int) - intOf iv).toNat)
 case atStart =>
  exact ⟨0,[],ys,fun _ => False,rfl,by omega,rfl,hY,rfl,.nil _ _ _,fun b hb => hb.elim,L0⟩
 case round =>
  clear L0 hY
  obtain ⟨i,done,rest,O,rfl,hi,hdl,hw,hys,N,hO1,L⟩ := hrel
  have hi9 : (i : Int) ≤ 1000 := by omega
  have hxl : (xs.length : Int) ≤ 1000 := by omega
  rcases Nat.lt_or_ge i xs.length with hlt | hge
  ·have hlt' : (i : Int) < (xs.length : Int) := by omega
   obtain ⟨b,o,cap,a,n,c,e1,hc1,hKb,hrr⟩ := hrow i xs[i] (List.getElem?_eq_getElem hlt)
   injection e1 with e1 _ e2
   subst e1 e2
   rw [List.drop_eq_getElem_cons hlt] at hw
   obtain ⟨r',hr',hw1⟩ := Option.bind_eq_some_iff.1 hw
   obtain ⟨rest',hw2,rfl⟩ := Option.map_eq_some_iff.1 hw1
   clear hw hw1
   have hc2 : wr.cell? ⟨b,o + i,none⟩ = some (.slice a n c) := by
    rw [← hc1]; simp only [World.cell?,L.block b (hK b hKb)]
   have hrr2 : Rep φ wr K (.slice a n c) (.sl 1 (xs[i].map i64E.enc)) := hrr.mono (fun b hb => L.block b (hK b hb)) fun _ h => h
   have hcall := (hO _ _ hr').own (.cons _ _ _ _ hrr2 .nil) (fun b hb => Nat.lt_of_lt_of_le (hK b hb) L.size) (hG.on (fun _ h => h) fun b hb => L.block b (hK b hb))
   rw [ho] at hcall
   go_wp2_with (fail)
   refine hcall.mono ?_
   rintro e w5 ⟨a5,n5,c5,rfl,L5,⟨hz5,hpl,ob5,hrep5,hrange⟩⟩
   have hz6 : (w5.alloc (.cells #[.slice a5 n5 c5] 33)).heap.size = w5.heap.size + 1 := by simp
   have N5 := N.keep (w' := w5) fun c hc => L5.block c (hO1 c hc).2
   have L6 : Lo w.heap.size w (w5.alloc (.cells #[.slice a5 n5 c5] 33)) := (L.trans (L5.mono L.size)).alloc (Nat.le_trans L.size L5.size) _
   obtain ⟨ad,n7,cp,w7,hrun,hz7,hos,hout,hfr,N7⟩ := (N5.keep (w' := w5.alloc (.cells #[.slice a5 n5 c5] 33)) fun c hc => get_old _ _ (Nat.lt_of_lt_of_le (hO1 c hc).2 L5.size)).pushR
    (hrep5.keepF fun b hb => get_old _ _ (hrange b hb).2) (fun b hb => by have := (hrange b hb).2; omega) (fun b hb hn => by have := (hrange b hb).1; have := (hO1 b hn).2; omega) (fun b hb => by have := (hO1 b hb).2; have := L5.size; omega)
    (t := 24) Tryz.underlying24 hiR sR zR rfl (by rw [bR]; omega) (by omega) (get_new _ _ rfl) rfl 1 24
   go_wp2_with (first | (at_builtin; refine wpList_append_run _ rfl _ _ _ _ rfl _ _ rfl rfl hrun ?_) | fail)
   have hSz : w.heap.size ≤ w7.heap.size := by have := L6.size; omega
   refine ⟨⟨i + 1,done ++ [r'],rest',_,rfl,by omega,by simp [hdl],hw2,by rw [← hys,List.append_assoc]; rfl,N7,fun b hb => ?_,L6.trans ⟨hz7,fun b hb => hfr b (by have := L6.size; omega) fun ho => by have := (hO1 b ho).1; omega,hos,hout⟩⟩,by simp only [intOf]; omega⟩
   have q1 := L5.size
   have q2 := L.size
   rcases hb with hb | hb | hb
   ·have := hO1 b hb; exact ⟨this.1,by omega⟩
   ·have := hrange b hb; exact ⟨by omega,by omega⟩
   ·exact ⟨by omega,hb.2⟩
  ·obtain rfl : i = xs.length := by omega
   have hge' : ¬ ((xs.length : Nat) : Int) < (xs.length : Int) := by omega
   rw [List.drop_length] at hw
   cases hw
   rw [List.append_nil] at hys
   subst hys
   go_wp2_with (fail)
   go_ret
   exact ⟨_,rfl,L,O,N,hO1⟩
set_option maxHeartbeats 3200000 in
theorem al_walk : PlateAllWalk Tryz.prog 34 68 := ⟨⟨_,Tryz.func34,by decide +kernel,rfl⟩,by
 intro φ go own ho hO xs b le zs hY w K v hr hK hG
 unfold allF at hY
 split at hY
 rotate_left
 ·cases hY
 rename_i hc
 obtain ⟨hl,hb1,hb2,hl1,hl2⟩ := hc
 obtain ⟨ys,hys,hY1⟩ := Option.bind_eq_some_iff.1 hY
 clear hY
 split at hY1
 rotate_left
 ·cases hY1
 rename_i hsm
 cases hY1
 have hyl : ys.length ≤ 1000 := by
  have key : ∀ {xs ys : List (List Int)},ownRows own xs = some ys → ys.length = xs.length := by
   intro xs
   induction xs with
   | nil => intro ys h; cases h; rfl
   | cons x xs ih =>
     intro ys h
     obtain ⟨r,_,h1⟩ := Option.bind_eq_some_iff.1 h
     obtain ⟨t,h2,rfl⟩ := Option.map_eq_some_iff.1 h1
     simp [ih h2]
  rw [key hys]; exact hl
 have hsmall : ∀ i (row : List Int),ys[i]? = some row → row.length ≤ 1000 ∧ ∀ (k : Nat) y,row[k]? = some y → -1000000 ≤ y ∧ y ≤ 1000000 := fun i row hi => by
  have := List.all_eq_true.1 hsm row (List.mem_of_getElem? hi)
  simp only [smallRow,Bool.and_eq_true,decide_eq_true_eq,List.all_eq_true] at this
  exact ⟨this.1,fun k y hk => this.2 y (List.mem_of_getElem? hk)⟩
 go_enter Tryz.func34,Tryz.ntmps34
 go_wp2_with (fail)
 go_at_call 58
 refine (al_own ho hO hys hl hr hK hG).mono ?_
 rintro r w1 ⟨vo,O,rfl,L1,N1,hO1⟩
 have L1s := L1.size
 obtain ⟨av,cv,rfl⟩ := N1.slice
 go_wp2_with (fail)
 go_loopw [8,9] (fun iv _ wr => ∃ i : Nat,iv = .int .i64 i ∧ i ≤ ys.length ∧ NestP φ 33 ((ys.take i).map (fun r => r.map (thinI b le)) ++ ys.drop i) (.slice av ys.length cv) O wr ∧ w1.heap.size ≤ wr.heap.size ∧ Lo w.heap.size w wr)
  (fun iv _ _ => ((ys.length : Int) - intOf iv).toNat)
 case atStart =>
  exact ⟨0,rfl,by omega,by simpa using N1,Nat.le_refl _,L1⟩
 case round =>
  obtain ⟨i,rfl,hi,N,hz,L⟩ := hrel
  have hi9 : (i : Int) ≤ 1000 := by omega
  have hyl9 : (ys.length : Int) ≤ 1000 := by omega
  rcases Nat.lt_or_ge i ys.length with hlt | hge
  ·have hlt' : (i : Int) < (ys.length : Int) := by omega
   have hrow : ys[i]? = some (Go.Ab.rowAt ys i) := by simp [Go.Ab.rowAt,List.getElem?_eq_getElem hlt]
   obtain ⟨hrl,hry⟩ := hsmall i _ hrow
   rw [← alMid_zero hlt] at N
   have hrl9 : ((Go.Ab.rowAt ys i).length : Int) ≤ 1000 := by omega
   go_wp2_with (fail)
   go_loopw [9] (fun kv w5 => ∃ k : Nat,kv = .int .i64 k ∧ k ≤ (Go.Ab.rowAt ys i).length ∧ NestP φ 33 (alMid b le ys i k) (.slice av ys.length cv) O w5 ∧ w1.heap.size ≤ w5.heap.size ∧ Lo w.heap.size w w5)
    (fun kv _ => (((Go.Ab.rowAt ys i).length : Int) - intOf kv).toNat)
   case atStart => exact ⟨0,rfl,by omega,N,hz,L⟩
   case round =>
    clear N hz L
    obtain ⟨k,rfl,hk,N,hz,L⟩ := hrel
    have hk9 : (k : Int) ≤ 1000 := by omega
    rcases Nat.lt_or_ge k (Go.Ab.rowAt ys i).length with hkl | hkg
    ·have hkl' : (k : Int) < ((Go.Ab.rowAt ys i).length : Int) := by omega
     have hy := List.getElem?_eq_getElem hkl
     generalize (Go.Ab.rowAt ys i)[k] = y at hy
     have hyb := hry k y hy
     have hy1 := hyb.1
     have hy2 := hyb.2
     obtain ⟨bo,cap,b0,o0,c0,e1,g1,g2,g3,g4,⟨g5,g6⟩,g7⟩ := N.at (by rw [alMid_len hlt]; exact hlt) (alMid_at hlt hy)
     rw [alMid_rowlen hlt hk] at g1
     rw [alMid_len hlt] at e1
     injection e1 with e1 _ e2
     subst e1 e2
     have g8 := g7 (thinI b le y)
     rw [alMid_next hlt hy] at g8
     clear g7 N
     have g1' : wr.drew.cell? ⟨bo,i,none⟩ = some (.slice (some ⟨b0,o0,none⟩) (Go.Ab.rowAt ys i).length c0) := g1
     have g2' : wr.drew.cell? ⟨b0,o0 + k,none⟩ = some (.int .i64 y) := g2
     go_wp2_with (fail)
     go_still_tail 15,(by kernel_rfl)
     still_call (al_thin _ y b le hy1 hy2 hb1 hb2)
     repeat still_step
     refine wpStill_nil ?_
     change wpList _ _ _ _ _ wr.drew
     go_wp2_with (fail)
     exact ⟨⟨k + 1,rfl,by omega,g8.keep fun _ _ => rfl,by show _ ≤ (wr.setCell _ _).heap.size; rw [setCell_size]; exact hz,Lo.drew (L.trans (Lo.setCell (Lo.refl _ _) (hO1 _ g4).1))⟩,by simp only [intOf]; omega⟩
    ·obtain rfl : k = (Go.Ab.rowAt ys i).length := by omega
     obtain ⟨bo,cap,ad0,cp0,e1,g1⟩ := N.rowHd (by rw [alMid_len hlt]; exact hlt)
     rw [alMid_rowlen hlt hk] at g1
     rw [alMid_len hlt] at e1
     injection e1 with e1 _ e2
     subst e1 e2
     rw [alMid_full hlt] at N
     go_wp2_with (fail)
     exact ⟨⟨i + 1,rfl,by omega,N,hz,L⟩,by simp only [intOf]; omega⟩
  ·obtain rfl : i = ys.length := by omega
   rw [List.take_length,List.drop_length,List.append_nil] at N
   go_wp2_with (fail)
   go_ret
   exact ⟨_,_,_,rfl,L,N.data fun b hb => ⟨(hO1 b hb).1,Nat.lt_of_lt_of_le (hO1 b hb).2 hz⟩⟩⟩
end
theorem ok_spec_l08All : FOk Tryz.prog phi 775 spec_l08All_c := plateAll_ok (g := 775) (go := 854) al_walk (by kernel_rfl) (fun r r2 h => callOk_tok ok_spec_l00Own h)
theorem ok_spec_ThinAll : FOk Tryz.prog phi 361 spec_ThinAll_c := fn_ok hm (D := spec_ThinAll_D) (DOk.cons ok_spec_l08All (DOk.cons ok_spec_l08By (DOk.cons ok_spec_l08Ok DOk.nil))) (by kernel_rfl) _ _ _ _
theorem ok_spec_l08Density : FOk Tryz.prog phi 779 spec_l08Density_c := fn_ok hm (D := spec_l08Density_D) (DOk.cons ok_spec_l00In DOk.nil) (by kernel_rfl) _ _ _ _
theorem ok_spec_l01Div : FOk Tryz.prog phi 16 spec_l01Div_c := fn_ok hm (D := spec_l01Div_D) DOk.nil (by kernel_rfl) _ _ _ _
theorem ok_spec_l08Mass : FOk Tryz.prog phi 778 spec_l08Mass_c := fn_ok hm (D := spec_l08Mass_D) (DOk.cons ok_spec_l01Div DOk.nil) (by kernel_rfl) _ _ _ _
theorem ok_spec_PlateMass : FOk Tryz.prog phi 360 spec_PlateMass_c := fn_ok hm (D := spec_PlateMass_D) (DOk.cons ok_spec_l08Ok (DOk.cons ok_spec_l08Mass (DOk.cons ok_spec_l08Density DOk.nil))) (by kernel_rfl) _ _ _ _
theorem ok_spec_DrawWeakestRow : FOk Tryz.prog phi 359 spec_DrawWeakestRow_c := fn_ok hm (D := spec_DrawWeakestRow_D) (DOk.cons ok_spec_l00From (DOk.cons ok_spec_l08Draw DOk.nil)) (by kernel_rfl) _ _ _ _
theorem ok_impl_RowStiff : FOk Tryz.prog phi 358 impl_RowStiff_c := fn_ok hm (D := impl_RowStiff_D) (DOk.cons ok_impl_ValidPlate DOk.nil) (by kernel_rfl) _ _ _ _
theorem ok_impl_WeakestRow : FOk Tryz.prog phi 357 impl_WeakestRow_c := fn_ok hm (D := impl_WeakestRow_D) (DOk.cons ok_impl_RowStiff DOk.nil) (by kernel_rfl) _ _ _ _
theorem ok_impl_at : FOk Tryz.prog phi 4 impl_at_c := fn_ok hm (D := impl_at_D) DOk.nil (by kernel_rfl) _ _ _ _
theorem ok_impl_ScrapeRow_1 : FOk Tryz.prog phi 780 impl_ScrapeRow_1_c := fn_ok hm (D := impl_ScrapeRow_1_D) (DOk.cons ok_impl_place_of (DOk.cons ok_impl_thinner DOk.nil)) (by kernel_rfl) _ _ _ _
theorem ok_impl_mapped_impl_ScrapeRow_1 : FOk Tryz.prog phi 1271 impl_mapped_impl_ScrapeRow_1_c := fn_ok hm (D := impl_mapped_impl_ScrapeRow_1_D) (DOk.cons ok_impl_ScrapeRow_1 DOk.nil) (by kernel_rfl) _ _ _ _
theorem ok_impl_ScrapeRow : FOk Tryz.prog phi 356 impl_ScrapeRow_c := fn_ok hm (D := impl_ScrapeRow_D) (DOk.cons ok_impl_at (DOk.cons ok_impl_ValidPlate (DOk.cons ok_impl_isLeast (DOk.cons ok_impl_isBy (DOk.cons ok_impl_mapped_impl_ScrapeRow_1 DOk.nil))))) (by kernel_rfl) _ _ _ _
theorem ok_impl_sameSize : FOk Tryz.prog phi 782 impl_sameSize_c := fn_ok hm (D := impl_sameSize_D) DOk.nil (by kernel_rfl) _ _ _ _
theorem ok_impl_distance : FOk Tryz.prog phi 448 impl_distance_c := fn_ok hm (D := impl_distance_D) DOk.nil (by kernel_rfl) _ _ _ _
theorem ok_impl_PlateGap : FOk Tryz.prog phi 355 impl_PlateGap_c := fn_ok hm (D := impl_PlateGap_D) (DOk.cons ok_impl_distance (DOk.cons ok_impl_place_of (DOk.cons ok_impl_places (DOk.cons ok_impl_ValidPlate (DOk.cons ok_impl_sameSize DOk.nil))))) (by kernel_rfl) _ _ _ _
theorem ok_impl_few : FOk Tryz.prog phi 21 impl_few_c := fn_ok hm (D := impl_few_D) DOk.nil (by kernel_rfl) _ _ _ _
theorem ok_strconv_FormatInt : FOk Tryz.prog phi 864 strconv_FormatInt_c := formatInt_ok Tryz.laysM173 ⟨5,by kernel_rfl⟩ (by kernel_rfl)
theorem ok_impl_Decimal : FOk Tryz.prog phi 524 impl_Decimal_c := fn_ok hm (D := impl_Decimal_D) (DOk.cons ok_strconv_FormatInt DOk.nil) (by kernel_rfl) _ _ _ _
theorem ok_strings_Join : FOk Tryz.prog phi 630 strings_Join_c := join_ok Tryz.lays156 Tryz.Builder_Extra_156 (by kernel_rfl)
theorem ok_impl_ListText : FOk Tryz.prog phi 460 impl_ListText_c := fn_ok hm (D := impl_ListText_D) (DOk.cons ok_impl_few (DOk.cons ok_impl_within (DOk.cons ok_impl_Decimal (DOk.cons ok_strings_Join DOk.nil)))) (by kernel_rfl) _ _ _ _
theorem ok_impl_PlateText : FOk Tryz.prog phi 353 impl_PlateText_c := fn_ok hm (D := impl_PlateText_D) (DOk.cons ok_impl_ListText (DOk.cons ok_strings_Join (DOk.cons ok_impl_ValidPlate DOk.nil))) (by kernel_rfl) _ _ _ _
theorem ok_strings_Split : FOk Tryz.prog phi 683 strings_Split_c := split_ok Tryz.laysM146 (of_decide_eq_true (by kernel_rfl)) (by kernel_rfl)
section
open Go.Lib
theorem rd_long (s : ByteArray) (w : World) (hl : 18 < (Lib.trimPrefix s.data.toList [45]).length) :
 Calls Tryz.prog 62 #[.string s] w fun e w' => e = .returned (.tuple #[.int .i64 0,.bool false]) ∧ Below w.heap.size w w' := by
 go_enter Tryz.func62,Tryz.ntmps62
 go_wp2_with (go_at_call 72; refine (Tryz.strings_TrimPrefix _ _ _).mono ?_; rintro e w' ⟨rfl,rfl⟩)
 all_goals first
  | (exfalso; omega)
  | (go_ret2; exact ⟨rfl,Below.refl _ _⟩)
theorem rd_bad (s : ByteArray) (w : World) (hl : ¬ 18 < (Lib.trimPrefix s.data.toList [45]).length) (m : Int) (u : TypeId) (hP : Calls Tryz.prog 73 #[.string s,.int .i64 10,.int .i64 64] w fun e w' => ∃ x,e = .returned (.tuple #[.int .i64 m,.iface u x]) ∧ Below w.heap.size w w') :
 Calls Tryz.prog 62 #[.string s] w fun e w' => e = .returned (.tuple #[.int .i64 0,.bool false]) ∧ Below w.heap.size w w' := by
 go_enter Tryz.func62,Tryz.ntmps62
 go_wp2_with (first | (go_at_call 72; refine (Tryz.strings_TrimPrefix _ _ _).mono ?_; rintro e w' ⟨rfl,rfl⟩) | (go_at_call 73; refine hP.mono ?_; rintro e w1 ⟨x,rfl,hw1⟩))
 all_goals first
  | (exfalso; omega)
  | (go_ret2; exact ⟨rfl,hw1⟩)
theorem rd_ok (s : ByteArray) (w : World) (hl : ¬ 18 < (Lib.trimPrefix s.data.toList [45]).length) (v : Int) (hs : Lib.itoa v = s.data.toList) (hP : Calls Tryz.prog 73 #[.string s,.int .i64 10,.int .i64 64] w fun e w' => e = .returned (.tuple #[.int .i64 v,.nilIface]) ∧ Below w.heap.size w w')
 (hF : ∀ w',Below w.heap.size w w' → Calls Tryz.prog 74 #[.int .i64 v,.int .i64 10] w' fun e w'' => e = .returned (.string ⟨(Lib.itoa v).toArray⟩) ∧ Below w'.heap.size w' w'') :
 Calls Tryz.prog 62 #[.string s] w fun e w' => e = .returned (.tuple #[.int .i64 v,.bool true]) ∧ Below w.heap.size w w' := by
 have HS := Lib.hid hs; clear hs
 go_enter Tryz.func62,Tryz.ntmps62
 go_wp2_with (first | (go_at_call 72; refine (Tryz.strings_TrimPrefix _ _ _).mono ?_; rintro e w' ⟨rfl,rfl⟩) | (go_at_call 73; refine hP.mono ?_; rintro e w1 ⟨rfl,hw1⟩) | (go_at_call 74; refine (hF _ hw1).mono ?_; rintro e w2 ⟨rfl,hw2⟩) | go_in)
 all_goals first
  | (exfalso; omega)
  | skip
 ·rename_i h
  exfalso
  rw [HS.out] at h
  simp [Lib.toList_data] at h
 ·go_ret2; exact ⟨rfl,hw1.trans (hw2.mono hw1.size)⟩
theorem rd_no (s : ByteArray) (w : World) (hl : ¬ 18 < (Lib.trimPrefix s.data.toList [45]).length) (v : Int) (hs : Lib.itoa v ≠ s.data.toList) (hP : Calls Tryz.prog 73 #[.string s,.int .i64 10,.int .i64 64] w fun e w' => e = .returned (.tuple #[.int .i64 v,.nilIface]) ∧ Below w.heap.size w w')
 (hF : ∀ w',Below w.heap.size w w' → Calls Tryz.prog 74 #[.int .i64 v,.int .i64 10] w' fun e w'' => e = .returned (.string ⟨(Lib.itoa v).toArray⟩) ∧ Below w'.heap.size w' w'') :
 Calls Tryz.prog 62 #[.string s] w fun e w' => e = .returned (.tuple #[.int .i64 0,.bool false]) ∧ Below w.heap.size w w' := by
 have HS := Lib.hid hs; clear hs
 go_enter Tryz.func62,Tryz.ntmps62
 go_wp2_with (first | (go_at_call 72; refine (Tryz.strings_TrimPrefix _ _ _).mono ?_; rintro e w' ⟨rfl,rfl⟩) | (go_at_call 73; refine hP.mono ?_; rintro e w1 ⟨rfl,hw1⟩) | (go_at_call 74; refine (hF _ hw1).mono ?_; rintro e w2 ⟨rfl,hw2⟩) | go_in)
 all_goals first
  | (exfalso; omega)
  | skip
 ·go_ret2; exact ⟨rfl,hw1.trans (hw2.mono hw1.size)⟩
 ·rename_i h
  exfalso
  apply HS.out
  simpa [Lib.toList_data] using h
end
theorem rd_walk : RdWalk Tryz.prog 62 73 74 := ⟨⟨_,Tryz.func62,by decide +kernel,rfl⟩,rd_long,rd_bad,rd_ok,rd_no⟩
theorem ok_impl_ReadDecimal : FOk Tryz.prog phi 522 impl_ReadDecimal_c := readDecimal_ok Tryz.laysC174 Tryz.laysM173 ⟨5,by kernel_rfl⟩ (by kernel_rfl) (by kernel_rfl) rd_walk (by kernel_rfl)
theorem ok_impl_ReadList : FOk Tryz.prog phi 457 impl_ReadList_c := fn_ok hm (D := impl_ReadList_D) (DOk.cons ok_impl_within (DOk.cons ok_impl_ReadDecimal (DOk.cons ok_strings_Split DOk.nil))) (by kernel_rfl) _ _ _ _
theorem ok_impl_ReadPlate : FOk Tryz.prog phi 354 impl_ReadPlate_c := fn_ok hm (D := impl_ReadPlate_D) (DOk.cons ok_impl_ReadList (DOk.cons ok_strings_Split (DOk.cons ok_impl_ValidPlate DOk.nil))) (by kernel_rfl) _ _ _ _
theorem ok_spec_l00Max : FOk Tryz.prog phi 17 spec_l00Max_c := fn_ok hm (D := spec_l00Max_D) DOk.nil (by kernel_rfl) _ _ _ _
theorem ok_spec_l08Abs : FOk Tryz.prog phi 783 spec_l08Abs_c := fn_ok hm (D := spec_l08Abs_D) (DOk.cons ok_spec_l00Max DOk.nil) (by kernel_rfl) _ _ _ _
theorem ok_spec_PlateGap : FOk Tryz.prog phi 352 spec_PlateGap_c := fn_ok hm (D := spec_PlateGap_D) (DOk.cons ok_spec_l00Max (DOk.cons ok_spec_l08Ok (DOk.cons ok_spec_l08Abs DOk.nil))) (by kernel_rfl) _ _ _ _
theorem ok_laws_FnPlates : FOk Tryz.prog phi 1281 laws_FnPlates_c := fn_ok hm (D := laws_FnPlates_D) (DOk.cons ok_laws_b10Long (DOk.cons ok_spec_PlateGap (DOk.cons ok_impl_PlateText (DOk.cons ok_impl_ReadPlate (DOk.cons ok_impl_PlateGap (DOk.cons ok_impl_ScrapeRow (DOk.cons ok_impl_WeakestRow (DOk.cons ok_impl_RowStiff (DOk.cons ok_spec_DrawWeakestRow (DOk.cons ok_spec_PlateMass (DOk.cons ok_spec_ThinAll (DOk.cons ok_impl_PlateMass (DOk.cons ok_impl_ThinAll (DOk.cons ok_impl_ThinTo (DOk.cons ok_spec_DrawThinTo DOk.nil))))))))))))))) (by kernel_rfl) _ _ _ _
theorem law : ∀ x,wfU laws_FnPlates_c.ps x → ∃ y,laws_FnPlates_c.f x = some y ∧ resA laws_FnPlates_c y = ([A.bool true],[]) := fun x hx => ⟨true,(laws_FnPlates_true x.1 x.2.1 hx.1 hx.2.1),rfl⟩
theorem own : ownKnob Tryz.prog.godebug = none := by kernel_rfl
theorem laid : laidOutB Tryz.prog = true := by kernel_rfl
theorem reads : ∀ t ∈ Tryz.f3.params.toList,Tryz.prog.readableRec t = true ∧ t < Tryz.prog.types.size := by
 have h : (Tryz.f3.params.toList.all fun t => Tryz.prog.readableRec t && decide (t < Tryz.prog.types.size)) = true := by kernel_rfl
 intro t ht
 have := List.all_eq_true.1 h t ht
 simpa only [Bool.and_eq_true,decide_eq_true_eq] using this
theorem spec_eq (H : Type) : ∀ (ds : List (DataW H)),ds.length = Tryz.f3.params.toList.length → Rows.fnPlatesSpec.fn H ds = { results := [.lit (.bool true)],args := ds } := by
 intro ds hd
 have hd : ds.length = 2 := hd
 match ds,hd with
 | [d0,d1],_ => rfl
theorem tab (W : World) (hL : laidMetH Tryz.prog Rows.fnPlatesRow.laid W) : ∀ i,Tryz.prog.globalNamed pow10Name = some i → Lib.TabIs Tryz.prog W pow10Name .u64 Lib.pow10Tab := by
 intro i hi
 have hp : (Rows.fnPlatesRow.laid.all fun x => x.2.handleName?.isNone) = true := by kernel_rfl
 rw [MakeChecks.laidMetH_plain _ _ _ hp] at hL
 have h1 : laidMet Tryz.prog (("internal/strconv.uint64pow10",Rows.laid_internal_strconv_uint64pow10) :: [("unicode/utf8.acceptRanges",Rows.laid_unicode_utf8_acceptRanges),("strconv.ErrRange",Rows.laid_strconv_ErrRange),("strconv.ErrSyntax",Rows.laid_strconv_ErrSyntax),("unicode/utf8.first",Rows.laid_unicode_utf8_first)]) W := (laidMet.tail (laidMet.tail hL))
 have e : (Rows.laid_internal_strconv_uint64pow10 : DataW Unit) = Lib.tabData .u64 Lib.pow10Tab := by kernel_rfl
 rw [e] at h1
 exact Lib.tabIs_of_head (t := 138) (e := 73) (n := 20) hi (by obtain rfl := Option.some.inj ((show Tryz.prog.globalNamed pow10Name = some 5 by kernel_rfl).symm.trans hi); kernel_rfl) (by kernel_rfl) (by kernel_rfl) (by kernel_rfl) (by kernel_rfl) h1
theorem errs (W : World) (hL : laidMetH Tryz.prog Rows.fnPlatesRow.laid W) : ∀ n,errNames.contains n = true → ∀ i,Tryz.prog.globalNamed n = some i → ∃ u v,W.var? Tryz.prog n = some #[.iface u v] := by
 intro n hn i hi
 have hn : n = "strconv.ErrSyntax" ∨ n = "strconv.ErrRange" := by simpa [errNames] using hn
 have hp : (Rows.fnPlatesRow.laid.all fun x => x.2.handleName?.isNone) = true := by kernel_rfl
 rw [MakeChecks.laidMetH_plain _ _ _ hp] at hL
 rcases hn with rfl | rfl
 ·have h1 : laidMet Tryz.prog (("strconv.ErrSyntax",Rows.laid_strconv_ErrSyntax) :: [("unicode/utf8.first",Rows.laid_unicode_utf8_first)]) W := (laidMet.tail (laidMet.tail (laidMet.tail (laidMet.tail (laidMet.tail hL)))))
  exact laid_iface (ti := 89) h1 ⟨_,_,rfl⟩ hi (by obtain rfl := Option.some.inj ((show Tryz.prog.globalNamed "strconv.ErrSyntax" = some 3 by kernel_rfl).symm.trans hi); kernel_rfl) Tryz.underlying89
 ·have h1 : laidMet Tryz.prog (("strconv.ErrRange",Rows.laid_strconv_ErrRange) :: [("strconv.ErrSyntax",Rows.laid_strconv_ErrSyntax),("unicode/utf8.first",Rows.laid_unicode_utf8_first)]) W := (laidMet.tail (laidMet.tail (laidMet.tail (laidMet.tail hL))))
  exact laid_iface (ti := 89) h1 ⟨_,_,rfl⟩ hi (by obtain rfl := Option.some.inj ((show Tryz.prog.globalNamed "strconv.ErrRange" = some 4 by kernel_rfl).symm.trans hi); kernel_rfl) Tryz.underlying89
theorem contract (H : Type) (enc : TypeId × Value → H) (W : World) (base : Nat) (args : Array Value) (ds gs : List (DataW H)) (before : List MemPlace)
 (hval : ∀ (j : Nat) t v,Tryz.f3.params[j]? = some t → args[j]? = some v → Value.okWide Tryz.prog W .any base t v)
 (hW : DataW.Whole enc Tryz.prog Tryz.f3.params.toList Rows.fnPlatesSpec.vars false W args.toList ds gs before) (hL : laidMetH Tryz.prog Rows.fnPlatesRow.laid W) (hsh : W.ShapedOpen Tryz.prog) :
 Calls Tryz.prog 3 args W fun e W' => ∃ v,e = .returned v ∧ Rows.fnPlatesSpec.post enc Tryz.prog Tryz.f3 false true false false W args v W' :=
 row_contract (φ := phi) (g := 1281) (n := 20) ok_laws_FnPlates rfl rfl (tb := 4) Tryz.underlying4 (by kernel_rfl) rfl law laid reads spec_eq W base args ds gs before hval hW (Glob.start hsh (tab W hL) (errs W hL))
theorem lifted (os : Os) (started : os.Started) (H : Type) (enc : TypeId × Value → H) :
 ReturnsInHanded {} Tryz.checked os 3 .any (fun w args => (Rows.fnPlatesSpec.pre enc Tryz.prog Tryz.f3 Rows.fnPlatesRow.domain false w args ∧ laidMetH Tryz.prog Rows.fnPlatesRow.laid w) ∧ sizedMet enc Tryz.prog Tryz.f3 (OpenSpec.ofChange Rows.fnPlatesSpec) false w args) (Rows.fnPlatesSpec.post enc Tryz.prog Tryz.f3 false true false false) := by
 refine returnsInHanded_laid (C := Tryz.checked) (laid := Rows.fnPlatesRow.laid) own started (by kernel_rfl) Tryz.func3
  (ChangeSpec.witness_shaped (enc := enc) (C := Tryz.checked) (os := os) (X := fun w _ => laidMetH Tryz.prog Rows.fnPlatesRow.laid w) false (World.laidAll Tryz.prog os Rows.fnPlatesRow.laid) #[.slice none 0 0,.slice none 0 0] 12 (World.laidAll_os _ _ _)
    (World.shaped_of_ZipB (by kernel_rfl) (by kernel_rfl)) (by kernel_rfl) (by kernel_rfl) (by kernel_rfl)
    (by rw [MakeChecks.laidMetH_plain _ _ _ (by kernel_rfl)]; exact laidMet_laidAll _ (by kernel_rfl) (by kernel_rfl))) ?_
 intro W base args ds gs before hval hW hL hsh
 exact contract H enc W base args ds gs before hval hW hL hsh
theorem over : Rows.fnPlatesRow.holds Tryz.pinned (OpenSpec.ofChange Rows.fnPlatesSpec) :=
 OpenClaim.holds_of_wide 3 Tryz.f3 rfl rfl rfl rfl rfl rfl rfl ⟨rfl,rfl,rfl,rfl,rfl⟩ rfl rfl rfl rfl rfl (by kernel_rfl) Tryz.func3 (by kernel_rfl)
  (of_decide_eq_true (by kernel_rfl)) (by unfold Func.isWrapper; first | (rw [if_pos (by decide +kernel)]; kernel_rfl) | (rw [if_neg (by decide +kernel)]; exact ⟨rfl,rfl⟩))
  (fun os started H enc _ => lifted os started H enc)
theorem card : Rows.FnPlatesCardSaid :=
 Claim7.holds_tied_plain_at .later [] [.data,.data,.data,.data,.sentinel,.sentinel,.pinned] true (true,"b011ea76f854aa6bb6e469e7b74fd610966f49ed33f935d22d05361650c759ac") true over (fun _ h => by cases h) (by kernel_rfl) (fun _ h => by cases h) fnPlates_row_tie rfl ⟨rfl,rfl⟩ (by kernel_rfl) rfl
  (fun f fn hf hfn => by
    obtain rfl : f = 3 := Option.some.inj ((show Tryz.prog.funcNamed "loop.example/g01061/laws.FnPlates" = some 3 by kernel_rfl).symm.trans hf) |>.symm
    obtain rfl : fn = Tryz.f3 := (Option.some.inj (Tryz.func3.symm.trans hfn)).symm
    exact ⟨by kernel_rfl,fun j t ht => by
     have hm : t ∈ Tryz.f3.params.toList := by simpa using Array.mem_of_getElem? ht
     have hall : (Tryz.f3.params.toList.all fun u => !Tryz.prog.wantsStandIn u) = true := by kernel_rfl
     exact (show Tryz.prog.wantsStandIn t = false by simpa using List.all_eq_true.1 hall t hm)⟩)
  (by kernel_rfl)
theorem proved : Rows.FnPlatesCardSaid := card
end Go.Proofs.YtjbiabbimihagaaGreatDoor.fnPlates
