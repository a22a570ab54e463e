/- The law FnPosts answers true for every input, whatever it is, and leaves its arguments as they were. Conditions: none. -/
import Derived.Test.YtmflggnljccofaaQFnPosts
import Derived.Test.YtmflggnljccofaaRows
import Derived.Test.YtmflggnljccofaaL5
import Derived.Test.YtmflggnljccofaaLC
import Derived.Carry
import Derived.Deep.RegionHeld3
import Derived.WalkKit
import Derived.ProofKit
import Derived.OpenShut
import Derived.JoinedOf
import Derived.Handed
set_option linter.unusedVariables false
set_option maxRecDepth 100000
namespace Go.Proofs.Ytmflggnljccofaa.fnPosts
open Go.Ab Go.Ab.P
open Go.ChangeShapes Go.WideShapes Go.ChangeAt Go.RowKit
def phiL : List (Nat × Nat) := [(76,4),(441,16),(847,26),(463,19),(445,17),(100,5),(23,18),(99,6),(98,7),(483,27),(466,20),(465,21),(464,22),(97,8),(96,9),(27,23),(95,10),(90,11),(94,12),(93,13),(642,28),(793,29),(794,30),(726,31),(467,24),(92,14),(22,36),(21,33),(24,34),(500,35),(796,32),(468,25),(91,15),(1263,3)]
def phi (n : Nat) : Nat := (phiL.lookup n).getD 1000000
theorem hm : Try.prog.follows .mixedOrders = true := by kernel_rfl
theorem ok_laws_b10Long : FOk Try.prog phi 76 laws_b10Long_c := fn_ok hm (D := laws_b10Long_D) DOk.nil (by kernel_rfl) _ _ _ _
theorem ok_spec_l00From : FOk Try.prog phi 441 spec_l00From_c := fn_ok hm (D := spec_l00From_D) DOk.nil (by kernel_rfl) _ _ _ _
theorem ok_spec_l00Src_next : FOk Try.prog phi 847 spec_l00Src_next_c := fn_ok hm (D := spec_l00Src_next_D) DOk.nil (by kernel_rfl) _ _ _ _
theorem ok_spec_l00Src_pick : FOk Try.prog phi 463 spec_l00Src_pick_c := fn_ok hm (D := spec_l00Src_pick_D) (DOk.cons ok_spec_l00Src_next DOk.nil) (by kernel_rfl) _ _ _ _
theorem ok_spec_l00Src_among : FOk Try.prog phi 445 spec_l00Src_among_c := fn_ok hm (D := spec_l00Src_among_D) (DOk.cons ok_spec_l00Src_pick DOk.nil) (by kernel_rfl) _ _ _ _
theorem ok_spec_DrawPostRing : FOk Try.prog phi 100 spec_DrawPostRing_c := fn_ok hm (D := spec_DrawPostRing_D) (DOk.cons ok_spec_l00From (DOk.cons ok_spec_l00Src_among DOk.nil)) (by kernel_rfl) _ _ _ _
theorem ok_impl_within : FOk Try.prog phi 23 impl_within_c := fn_ok hm (D := impl_within_D) DOk.nil (by kernel_rfl) _ _ _ _
theorem ok_impl_PostRing : FOk Try.prog phi 99 impl_PostRing_c := fn_ok hm (D := impl_PostRing_D) (DOk.cons ok_impl_within DOk.nil) (by kernel_rfl) _ _ _ _
section
open Go.Ab
theorem bp_infoR : (Try.prog.info? 31).map (fun i => (i.zero,i.size,i.bytes)) = some (some (.slice none 0 0),1,24) := by kernel_rfl
theorem bp_infoI : (Try.prog.info? 2).map (fun i => (i.zero,i.size,i.bytes)) = some (some (.int .i64 0),1,8) := by kernel_rfl
set_option maxHeartbeats 3200000 in
theorem bp_walk : BestPostWalk Try.prog 7 16 19 17 := ⟨⟨_,Try.func7,by decide +kernel,rfl⟩,by
 intro φ gf gp ga pk am hf hp ha hP hA x0 ys a hF hY w K v hr hK hG
 unfold bpF at hY
 obtain ⟨⟨k,x1⟩,hk,hY1⟩ := Option.bind_eq_some_iff.1 hY
 clear hY
 split at hY1
 rotate_left
 ·cases hY1
 rename_i hk0
 obtain ⟨⟨x2,rows⟩,hrows,hY2⟩ := Option.bind_eq_some_iff.1 hY1
 clear hY1
 obtain ⟨⟨c,x3⟩,hc,hY3⟩ := Option.bind_eq_some_iff.1 hY2
 clear hY2
 simp only at hk0 hrows hc hY3
 obtain ⟨iR,hiR,heR⟩ := Option.map_eq_some_iff.1 bp_infoR
 simp only [Prod.mk.injEq] at heR
 obtain ⟨zR,sR,bR⟩ := heR
 obtain ⟨iI,hiI,heI⟩ := Option.map_eq_some_iff.1 bp_infoI
 simp only [Prod.mk.injEq] at heI
 obtain ⟨zI,sI,bI⟩ := heI
 have pick : ∀ {x : srcE.ty} {n y : Int} {x' : srcE.ty} {v3 xsv av : Value} {xs : List (List Int)} {acc : List Int} {u : World},pk x n = some (y,x') → Nst Try.prog φ w.heap.size 31 2 x v3 xs xsv acc av u →
  Calls Try.prog 19 #[v3,.int .i64 n] u fun r w' => r = .returned (.int .i64 y) ∧ u.heap.size ≤ w'.heap.size ∧ Lo w.heap.size u w' ∧ Nst Try.prog φ w.heap.size 31 2 x' v3 xs xsv acc av w' := fun hq hn => by
  have := hn.call (hP _ _ _ _ hq)
  rw [hp] at this
  exact this
 go_enter Try.func7,Try.ntmps7
 go_wp2_with (fail)
 go_at_call 16
 have h0 := Nst.start (e := 31) (eI := 2) hF hr hK hG
 rw [hf] at h0
 refine h0.mono ?_
 rintro r w1 ⟨p,rfl,L,N⟩
 go_wp2_with (fail)
 go_at_call 19
 have N1 : Nst Try.prog φ w.heap.size 31 2 x0 p [] (.slice (some ⟨w1.heap.size,0,none⟩) 0 0) [] (.slice none 0 0) (w1.alloc (.cells #[] 31)) := (N.keep ((Lo.refl _ _).alloc (Nat.le_refl _) _)).out _
 have L1 : Lo w.heap.size w (w1.alloc (.cells #[] 31)) := L.alloc L.size _
 refine (pick hk N1).mono ?_
 rintro r w2 ⟨rfl,hz2,L2,N2⟩
 replace L2 := L1.trans L2
 clear N N1 L1
 generalize hv0 : Value.slice (some ⟨w1.heap.size,0,none⟩) 0 0 = vo at N2
 go_wp2_with (fail)
 have hk1 : k ≤ 1000 := hk0.2
 have hk2 : 0 ≤ k := hk0.1
 go_loopw [4,5] (fun vo kv wr => ∃ (r : Nat) (x : srcE.ty) (out : List (List Int)),kv = .int .i64 ((r : Int) - 1) ∧ out.length + r ≤ 1001 ∧ bpRows pk r x out = some (x2,rows) ∧ Nst Try.prog φ w.heap.size 31 2 x p out vo [] (.slice none 0 0) wr ∧ Lo w.heap.size w wr)
  (fun _ kv _ => (intOf kv + 1).toNat)
 case atStart =>
  exact ⟨k.toNat + 1,x1,[],by congr 1; omega,by simp; omega,hrows,N2,L2⟩
 case round =>
  obtain ⟨r,x,out,rfl,hlr,hbr,N3,L3⟩ := hrel
  cases r with
  | succ r =>
    obtain ⟨⟨j,x4⟩,hj,hb1⟩ := Option.bind_eq_some_iff.1 hbr
    clear hbr
    split at hb1
    rotate_left
    ·cases hb1
    rename_i hj0
    obtain ⟨⟨x5,row⟩,hrow,hb2⟩ := Option.bind_eq_some_iff.1 hb1
    clear hb1
    simp only at hj0 hrow hb2
    have hj1 : j ≤ 1000 := hj0.2
    have hj2 : 0 ≤ j := hj0.1
    have er : ((r + 1 : Nat) : Int) - 1 = (r : Int) := by omega
    rw [er]
    have hr0 : (0 : Int) ≤ (r : Int) := by omega
    go_wp2_with (fail)
    have N4 : Nst Try.prog φ w.heap.size 31 2 x p out u4 [] (.slice (some ⟨wr.heap.size,0,none⟩) 0 0) (wr.alloc (.cells #[] 2)) := (N3.keep ((Lo.refl _ _).alloc (Nat.le_refl _) _)).row _
    have L4 : Lo w.heap.size w (wr.alloc (.cells #[] 2)) := L3.alloc L3.size _
    refine (pick hj N4).mono ?_
    rintro e w4 ⟨rfl,hz4,L5,N5⟩
    replace L5 := L4.trans L5
    clear N3 N4 L4
    go_wp2_with (fail)
    go_loopw [6,7] (fun ro jv w5 => ∃ (r2 : Nat) (x6 : srcE.ty) (acc : List Int),jv = .int .i64 ((r2 : Int) - 1) ∧ acc.length + r2 ≤ 1001 ∧ bpRow pk r2 x6 acc = some (x5,row) ∧ Nst Try.prog φ w.heap.size 31 2 x6 p out u4 acc ro w5 ∧ Lo w.heap.size w w5)
     (fun _ jv _ => (intOf jv + 1).toNat)
    case atStart =>
     exact ⟨j.toNat + 1,x4,[],by congr 1; omega,by simp; omega,hrow,N5,L5⟩
    case round =>
     obtain ⟨r2,x6,acc,rfl,hlr2,hbr2,N6,L6⟩ := hrel
     cases r2 with
     | succ r2 =>
       obtain ⟨⟨y,x7⟩,hy,hb3⟩ := Option.bind_eq_some_iff.1 hbr2
       clear hbr2
       split at hb3
       rotate_left
       ·cases hb3
       rename_i hy0
       simp only at hy0 hb3
       have hy1 : y ≤ 1000 := hy0.2
       have hy2 : 0 ≤ y := hy0.1
       have er2 : ((r2 + 1 : Nat) : Int) - 1 = (r2 : Int) := by omega
       rw [er2]
       have hr2 : (0 : Int) ≤ (r2 : Int) := by omega
       go_wp2_with (fail)
       refine (pick hy N6).mono ?_
       rintro e w6 ⟨rfl,hz6,L7,N7⟩
       replace L7 := L6.trans L7
       have N8 : Nst Try.prog φ w.heap.size 31 2 x7 p out u4 acc u6 (w6.alloc (.cells #[.int .i64 (10 * y)] 2)) := N7.keep ((Lo.refl _ _).alloc (Nat.le_refl _) _)
       have L8 : Lo w.heap.size w (w6.alloc (.cells #[.int .i64 (10 * y)] 2)) := L7.alloc L7.size _
       obtain ⟨ad,n,cp,w7,hrun,hz7,L9,N9⟩ := N8.rowapp (t := 31) (y := 10 * y) Try.underlying31 hiI sI zI rfl (by rw [bI]; omega) (by omega) (get_new _ _ rfl) rfl 1 31
       replace L9 := L8.trans L9
       go_wp2_with (first | (at_builtin; refine wpList_append_run _ rfl _ _ _ _ rfl _ _ rfl rfl hrun ?_) | fail)
       exact ⟨⟨r2,x7,acc ++ [10 * y],rfl,by simp; omega,hb3,N9,L9⟩,by simp only [intOf]; omega⟩
     | zero =>
       obtain ⟨rfl,rfl⟩ : x6 = x5 ∧ acc = row := by simpa [bpRow] using hbr2
       have er2 : ((0 : Nat) : Int) - 1 = -1 := rfl
       rw [er2]
       obtain ⟨ra,rn,rc,rfl⟩ := N6.rowSlice
       have N7 : Nst Try.prog φ w.heap.size 31 2 x6 p out u4 acc (.slice ra rn rc) (wr.alloc (.cells #[.slice ra rn rc] 31)) := N6.keep ((Lo.refl _ _).alloc (Nat.le_refl _) _)
       have L7 : Lo w.heap.size w (wr.alloc (.cells #[.slice ra rn rc] 31)) := L6.alloc L6.size _
       obtain ⟨ad,n,cp,w7,hrun,hz7,L9,N9⟩ := N7.outapp (t := 27) Try.underlying27 hiR sR zR rfl (by rw [bR]; omega) (by omega) (get_new _ _ rfl) rfl 1 27
       replace L9 := L7.trans L9
       go_wp2_with (first | (at_builtin; refine wpList_append_run _ rfl _ _ _ _ rfl _ _ rfl rfl hrun ?_) | fail)
       exact ⟨⟨r,x6,out ++ [acc],rfl,by simp; omega,hb2,N9,L9⟩,by simp only [intOf]; omega⟩
  | zero =>
    obtain ⟨rfl,rfl⟩ : x = x2 ∧ out = rows := by simpa [bpRows] using hbr
    have er2 : ((0 : Nat) : Int) - 1 = -1 := rfl
    rw [er2]
    go_wp2_with (fail)
    refine (pick hc N3).mono ?_
    rintro e w9 ⟨rfl,hz9,L9,N9⟩
    replace L9 := L3.trans L9
    have fin : ∀ {x : srcE.ty} {vo : Value} {zs : List (List Int)} {u : World},Nst Try.prog φ w.heap.size 31 2 x p zs vo [] (.slice none 0 0) u → Lo w.heap.size w u → zs = ys →
     ∃ ad n cp,(Ending.returned vo) = .returned (.slice ad n cp) ∧ Lo w.heap.size w u ∧ Rep φ u (fun b => w.heap.size ≤ b ∧ b < u.heap.size) (.slice ad n cp) (.sl 1 (ys.map rowE2.enc)) := fun hn hl hz => by
     obtain ⟨ad,cp,rfl⟩ := hn.slice
     subst hz
     exact ⟨ad,_,cp,rfl,hl,hn.fin⟩
    clear N3 hbr er2 hP pick h0
    by_cases c0 : c = 0
    ·subst c0
     simp only [if_true] at hY3
     split at hY3
     rotate_left
     ·cases hY3
     rename_i y ys' rt _ _
     obtain ⟨⟨q,x10⟩,hq,hY4⟩ := Option.bind_eq_some_iff.1 hY3
     have hys := Option.some.inj hY4
     have hcl := (N9.keep (Lo.drew (Lo.refl _ w9))).amongFirst (t := 2) (ns := [-1,0,1000,1001]) (hA _ _ _ _ hq) 4 (Nat.le_refl _)
     rw [ha] at hcl
     obtain ⟨b,cap,b0,o0,c0,rfl,hb,hb0,g2,⟨gS,gN⟩,hcl⟩ := hcl
     have g2' : w9.cell? ⟨b,0,none⟩ = some (.slice (some ⟨b0,o0,none⟩) (ys'.length + 1) c0) := g2
     go_wp2_with (fail)
     go_region_held3 (fun w' => w'.cell? ⟨b,0,none⟩ = some (.slice (some ⟨b0,o0,none⟩) (ys'.length + 1) c0)) (first | go_keep | (refine (World.cell?_setCell_other _ _ _ _ (by simp <;> omega)).trans ?_; assumption))
      (first | (go_at_call 17; refine hcl.mono ?_; rintro e w10 ⟨rfl,L10,k2,⟨u0,k3⟩,k4,N10⟩))
     go_wp2_with (fail)
     go_ret
     exact fin N10 (Lo.setCell ((Lo.drew L9).trans L10) gS) hys
    ·simp only [c0,if_false] at hY3
     by_cases c1 : c = 1
     ·subst c1
      simp only [if_true] at hY3
      have hys := Option.some.inj hY3
      have Na : Nst Try.prog φ w.heap.size 31 2 x3 p out u4 [] (.slice (some ⟨w9.heap.size,0,none⟩) 0 0) (w9.alloc (.cells #[] 2)) := (N9.keep ((Lo.refl _ _).alloc (Nat.le_refl _) _)).row _
      have La : Lo w.heap.size w (w9.alloc (.cells #[] 2)) := L9.alloc L9.size _
      have Nb := Na.keep ((Lo.refl _ _).alloc (Nat.le_refl _) (.cells #[.slice (some ⟨w9.heap.size,0,none⟩) 0 0] 31))
      have Lb : Lo w.heap.size w ((w9.alloc (.cells #[] 2)).alloc (.cells #[.slice (some ⟨w9.heap.size,0,none⟩) 0 0] 31)) := La.alloc La.size _
      obtain ⟨ad,n,cp,wc,hrun,hzc,Lc,Nc⟩ := Nb.outapp (t := 27) Try.underlying27 hiR sR zR rfl (by rw [bR]; omega) (by omega) (get_new _ _ rfl) rfl 1 27
      have hz1 : (w9.alloc (.cells #[] 2)).heap.size = w9.heap.size + 1 := by simp
      rw [hz1] at hrun
      go_wp2_with (first | (at_builtin; refine wpList_append_run _ rfl _ _ _ _ rfl _ _ rfl rfl hrun ?_) | fail)
      go_ret
      exact fin Nc (Lb.trans Lc) hys
     ·simp only [c1,if_false] at hY3
      by_cases c2 : c = 2
      ·subst c2
       simp only [if_true] at hY3
       obtain ⟨⟨q,x10⟩,hq,hY4⟩ := Option.bind_eq_some_iff.1 hY3
       simp only at hY4
       split at hY4
       rotate_left
       ·cases hY4
       rename_i hq0
       have hq1 : q ≤ 1000 := hq0.2
       have hq2 : 0 ≤ q := hq0.1
       have hys := Option.some.inj hY4
       have hcl := N9.among (t := 2) (ns := [0,8,9]) (hA _ _ _ _ hq) 3 (Nat.le_refl _)
       rw [ha] at hcl
       go_wp2_with (fail)
       refine hcl.mono ?_
       rintro e wa ⟨rfl,hza,La,Na,_⟩
       replace La := L9.trans La
       clear hcl N9 hza
       have Nb : Nst Try.prog φ w.heap.size 31 2 x10 p [] (.slice (some ⟨wa.heap.size,0,none⟩) 0 0) [] (.slice none 0 0) (wa.alloc (.cells #[] 31)) := (Na.keep ((Lo.refl _ _).alloc (Nat.le_refl _) _)).out _
       have Lb : Lo w.heap.size w (wa.alloc (.cells #[] 31)) := La.alloc La.size _
       clear Na
       go_wp2_with (fail)
       go_loopw [4] (fun vo wr => ∃ r : Nat,(r : Int) ≤ q ∧ Nst Try.prog φ w.heap.size 31 2 x10 p (List.replicate r [7]) vo [] (.slice none 0 0) wr ∧ Lo w.heap.size w wr)
        (fun vo _ => q.toNat - (match vo with | .slice _ n _ => n | _ => 0))
       case atStart => exact ⟨0,by omega,Nb,Lb⟩
       case round =>
        obtain ⟨r,hrq,Nr,Lr⟩ := hrel
        obtain ⟨ad0,cp0,rfl⟩ := Nr.slice
        rw [List.length_replicate] at Nr ⊢
        by_cases hlt : (r : Int) < q
        ·have N1 := Nr.rowLit [7] (by simp)
         have Lw1 : Lo w.heap.size w (wr.alloc (.cells #[.int .i64 7] 2)) := Lr.alloc Lr.size _
         have N2 := N1.keep ((Lo.refl _ _).alloc (Nat.le_refl _) (.cells #[.slice (some ⟨wr.heap.size,0,none⟩) 1 1] 31))
         have Lw2 : Lo w.heap.size w ((wr.alloc (.cells #[.int .i64 7] 2)).alloc (.cells #[.slice (some ⟨wr.heap.size,0,none⟩) 1 1] 31)) := Lw1.alloc Lw1.size _
         obtain ⟨ad,n,cp,wc,hrun,hzc,Lc,Nc⟩ := N2.outapp (t := 27) Try.underlying27 hiR sR zR rfl (by rw [bR]; omega) (by rw [List.length_replicate]; omega) (get_new _ _ rfl) rfl 1 27
         have hz1 : (wr.alloc (.cells #[.int .i64 7] 2)).heap.size = wr.heap.size + 1 := by simp
         have hz2 : (wr.alloc (.cells ([7].map (Value.int .i64)).toArray 2)).heap.size = wr.heap.size + 1 := by simp
         rw [hz2] at hrun
         have hrun' : (Builtin.append_ #[27,27] 27 #[.slice ad0 r cp0,.slice (some ⟨wr.heap.size + 1,0,none⟩) 1 1]).run Try.prog ((wr.alloc (.cells #[.int .i64 7] 2)).alloc (.cells #[.slice (some ⟨wr.heap.size,0,none⟩) 1 1] 31)) = .ok (.slice ad n cp) wc := hrun
         have hN : Nst Try.prog φ w.heap.size 31 2 x10 p (List.replicate (r + 1) [7]) (.slice ad n cp) [] (.slice none 0 0) wc := by
          rw [List.replicate_succ']; exact Nc
         obtain ⟨ad1,cp1,e1⟩ := hN.slice
         injection e1 with e1 e2 e3
         rw [List.length_replicate] at e2
         subst e1 e2 e3
         go_wp2_with (first | (at_builtin; refine wpList_append_run _ rfl _ _ _ _ rfl _ _ rfl rfl hrun' ?_) | fail)
         exact ⟨⟨r + 1,by omega,hN,Lw2.trans Lc⟩,by simp only; omega⟩
        ·obtain rfl : r = q.toNat := by omega
         go_wp2_with (fail)
         go_ret
         exact fin Nr Lr hys
      ·simp only [c2,if_false] at hY3
       have hys := Option.some.inj hY3
       go_wp2_with (fail)
       go_ret
       exact fin N9 L9 hys⟩
end
theorem ok_spec_DrawBestPost : FOk Try.prog phi 98 spec_DrawBestPost_c := bestPost_ok (g := 98) (gf := 441) (gp := 463) (ga := 445) bp_walk (by kernel_rfl) (fun x y h => callOk_box1 ok_spec_l00From h) (fun x n y x2 h => callOk_boxD ok_spec_l00Src_pick h) (fun x ns y x2 h => callOk_boxD ok_spec_l00Src_among h)
theorem ok_impl_isPart : FOk Try.prog phi 483 impl_isPart_c := fn_ok hm (D := impl_isPart_D) (DOk.cons ok_impl_within DOk.nil) (by kernel_rfl) _ _ _ _
theorem ok_impl_areRings : FOk Try.prog phi 466 impl_areRings_c := fn_ok hm (D := impl_areRings_D) (DOk.cons ok_impl_within (DOk.cons ok_impl_isPart DOk.nil)) (by kernel_rfl) _ _ _ _
theorem ok_impl_places : FOk Try.prog phi 465 impl_places_c := fn_ok hm (D := impl_places_D) DOk.nil (by kernel_rfl) _ _ _ _
theorem ok_impl_place_of : FOk Try.prog phi 464 impl_place_of_c := fn_ok hm (D := impl_place_of_D) DOk.nil (by kernel_rfl) _ _ _ _
theorem ok_impl_BestPost : FOk Try.prog phi 97 impl_BestPost_c := fn_ok hm (D := impl_BestPost_D) (DOk.cons ok_impl_place_of (DOk.cons ok_impl_places (DOk.cons ok_impl_areRings DOk.nil))) (by kernel_rfl) _ _ _ _
theorem ok_spec_DrawPostLength : FOk Try.prog phi 96 spec_DrawPostLength_c := fn_ok hm (D := spec_DrawPostLength_D) (DOk.cons ok_spec_l00From (DOk.cons ok_spec_l00Src_among DOk.nil)) (by kernel_rfl) _ _ _ _
theorem ok_impl_divRound : FOk Try.prog phi 27 impl_divRound_c := fn_ok hm (D := impl_divRound_D) DOk.nil (by kernel_rfl) _ _ _ _
theorem ok_impl_PostLength : FOk Try.prog phi 95 impl_PostLength_c := fn_ok hm (D := impl_PostLength_D) (DOk.cons ok_impl_within (DOk.cons ok_impl_divRound DOk.nil)) (by kernel_rfl) _ _ _ _
theorem ck_laws_b10Div : chkFn Try.prog phi 90 laws_b10Div_ir = true := by kernel_rfl
theorem ok_laws_b10Div_N : ∀ n,FOk Try.prog phi 90 (laws_b10Div_N n)
 | 0 => FOk.none (fn_ok hm (D := []) DOk.nil ck_laws_b10Div [] [] [] []).1
 | n + 1 => by rw [laws_b10Div_N_eq]; exact fn_ok hm (D := laws_b10Div_D n) (DOk.cons (ok_laws_b10Div_N n) DOk.nil) ck_laws_b10Div _ _ _ _
theorem ok_laws_b10Div : FOk Try.prog phi 90 laws_b10Div_c := ok_laws_b10Div_N 1000
theorem ok_spec_DrawAfterLength : FOk Try.prog phi 94 spec_DrawAfterLength_c := fn_ok hm (D := spec_DrawAfterLength_D) (DOk.cons ok_spec_l00From (DOk.cons ok_spec_l00Src_among DOk.nil)) (by kernel_rfl) _ _ _ _
theorem ok_impl_AfterLength : FOk Try.prog phi 93 impl_AfterLength_c := fn_ok hm (D := impl_AfterLength_D) (DOk.cons ok_impl_within (DOk.cons ok_impl_divRound DOk.nil)) (by kernel_rfl) _ _ _ _
theorem ok_spec_l00Src_one : FOk Try.prog phi 642 spec_l00Src_one_c := fn_ok hm (D := spec_l00Src_one_D) (DOk.cons ok_spec_l00Src_pick DOk.nil) (by kernel_rfl) _ _ _ _
theorem ok_spec_l12DrawOne : FOk Try.prog phi 793 spec_l12DrawOne_c := fn_ok hm (D := spec_l12DrawOne_D) (DOk.cons ok_spec_l00Src_pick DOk.nil) (by kernel_rfl) _ _ _ _
theorem ok_spec_l12Bent : FOk Try.prog phi 794 spec_l12Bent_c := fn_ok hm (D := spec_l12Bent_D) (DOk.cons ok_spec_l00Src_among (DOk.cons ok_spec_l00Src_pick DOk.nil)) (by kernel_rfl) _ _ _ _
theorem ok_spec_l01Dec : FOk Try.prog phi 726 spec_l01Dec_c := fn_ok hm (D := spec_l01Dec_D) DOk.nil (by kernel_rfl) _ _ _ _
theorem ok_spec_l12Draw : FOk Try.prog phi 467 spec_l12Draw_c := fn_ok hm (D := spec_l12Draw_D) (DOk.cons ok_spec_l00Src_among (DOk.cons ok_spec_l00Src_pick (DOk.cons ok_spec_l00Src_one (DOk.cons ok_spec_l01Dec (DOk.cons ok_spec_l12DrawOne (DOk.cons ok_spec_l12Bent DOk.nil)))))) (by kernel_rfl) _ _ _ _
theorem ok_spec_DrawWearOfPegs : FOk Try.prog phi 92 spec_DrawWearOfPegs_c := fn_ok hm (D := spec_DrawWearOfPegs_D) (DOk.cons ok_spec_l00From (DOk.cons ok_spec_l00Src_among (DOk.cons ok_spec_l12Draw DOk.nil))) (by kernel_rfl) _ _ _ _
theorem ok_impl_isDigit : FOk Try.prog phi 22 impl_isDigit_c := fn_ok hm (D := impl_isDigit_D) DOk.nil (by kernel_rfl) _ _ _ _
theorem ok_impl_few : FOk Try.prog phi 21 impl_few_c := fn_ok hm (D := impl_few_D) DOk.nil (by kernel_rfl) _ _ _ _
theorem ok_impl_IsName : FOk Try.prog phi 24 impl_IsName_c := fn_ok hm (D := impl_IsName_D) (DOk.cons ok_impl_few (DOk.cons ok_impl_isDigit DOk.nil)) (by kernel_rfl) _ _ _ _
theorem ok_impl_isHole : FOk Try.prog phi 500 impl_isHole_c := fn_ok hm (D := impl_isHole_D) (DOk.cons ok_impl_within DOk.nil) (by kernel_rfl) _ _ _ _
theorem ok_impl_Peg_valid : FOk Try.prog phi 796 impl_Peg_valid_c := fn_ok hm (D := impl_Peg_valid_D) (DOk.cons ok_impl_within (DOk.cons ok_impl_IsName (DOk.cons ok_impl_isHole DOk.nil))) (by kernel_rfl) _ _ _ _
theorem ok_impl_ValidPegs : FOk Try.prog phi 468 impl_ValidPegs_c := fn_ok hm (D := impl_ValidPegs_D) (DOk.cons ok_impl_few (DOk.cons ok_impl_Peg_valid DOk.nil)) (by kernel_rfl) _ _ _ _
theorem ok_impl_WearOfPegs : FOk Try.prog phi 91 impl_WearOfPegs_c := fn_ok hm (D := impl_WearOfPegs_D) (DOk.cons ok_impl_within (DOk.cons ok_impl_divRound (DOk.cons ok_impl_ValidPegs DOk.nil))) (by kernel_rfl) _ _ _ _
theorem ok_laws_FnPosts : FOk Try.prog phi 1263 laws_FnPosts_c := fn_ok hm (D := laws_FnPosts_D) (DOk.cons ok_laws_b10Long (DOk.cons ok_laws_b10Div (DOk.cons ok_impl_WearOfPegs (DOk.cons ok_spec_DrawWearOfPegs (DOk.cons ok_impl_AfterLength (DOk.cons ok_spec_DrawAfterLength (DOk.cons ok_impl_PostLength (DOk.cons ok_spec_DrawPostLength (DOk.cons ok_impl_BestPost (DOk.cons ok_spec_DrawBestPost (DOk.cons ok_impl_PostRing (DOk.cons ok_spec_DrawPostRing DOk.nil)))))))))))) (by kernel_rfl) _ _ _ _
theorem law : ∀ x,wfU laws_FnPosts_c.ps x → ∃ y,laws_FnPosts_c.f x = some y ∧ resA laws_FnPosts_c y = ([A.bool true],[]) := fun x hx => ⟨true,(laws_FnPosts_true x.1 x.2.1 hx.1 hx.2.1),rfl⟩
theorem own : ownKnob Try.prog.godebug = none := by kernel_rfl
theorem laid : laidOutB Try.prog = true := by kernel_rfl
theorem reads : ∀ t ∈ Try.f3.params.toList,Try.prog.readableRec t = true ∧ t < Try.prog.types.size := by
 have h : (Try.f3.params.toList.all fun t => Try.prog.readableRec t && decide (t < Try.prog.types.size)) = true := by kernel_rfl
 intro t ht
 have := List.all_eq_true.1 h t ht
 simpa only [Bool.and_eq_true,decide_eq_true_eq] using this
theorem spec_eq (H : Type) : ∀ (ds : List (DataW H)),ds.length = Try.f3.params.toList.length → Rows.fnPostsSpec.fn H ds = { results := [.lit (.bool true)],args := ds } := by
 intro ds hd
 have hd : ds.length = 2 := hd
 match ds,hd with
 | [d0,d1],_ => rfl
theorem tab (W : World) : ∀ i,Try.prog.globalNamed pow10Name = some i → Lib.TabIs Try.prog W pow10Name .u64 Lib.pow10Tab := by
 intro i hi
 have h : Try.prog.globalNamed pow10Name = none := by kernel_rfl
 rw [h] at hi; cases hi
theorem errs (W : World) : ∀ n,errNames.contains n = true → ∀ i,Try.prog.globalNamed n = some i → ∃ u v,W.var? Try.prog n = some #[.iface u v] := by
 intro n hn i hi
 have hn : n = "strconv.ErrSyntax" ∨ n = "strconv.ErrRange" := by simpa [errNames] using hn
 rcases hn with rfl | rfl
 ·have h : Try.prog.globalNamed "strconv.ErrSyntax" = none := by kernel_rfl
  rw [h] at hi; cases hi
 ·have h : Try.prog.globalNamed "strconv.ErrRange" = none := by kernel_rfl
  rw [h] at hi; cases hi
theorem contract (H : Type) (enc : TypeId × Value → H) (W : World) (base : Nat) (args : Array Value) (ds gs : List (DataW H)) (before : List MemPlace)
 (hval : ∀ (j : Nat) t v,Try.f3.params[j]? = some t → args[j]? = some v → Value.okWide Try.prog W .any base t v)
 (hW : DataW.Whole enc Try.prog Try.f3.params.toList Rows.fnPostsSpec.vars false W args.toList ds gs before) (hsh : W.ShapedOpen Try.prog) :
 Calls Try.prog 3 args W fun e W' => ∃ v,e = .returned v ∧ Rows.fnPostsSpec.post enc Try.prog Try.f3 false true false false W args v W' :=
 row_contract (φ := phi) (g := 1263) (n := 20) ok_laws_FnPosts rfl rfl (tb := 4) Try.underlying4 (by kernel_rfl) rfl law laid reads spec_eq W base args ds gs before hval hW (Glob.start hsh (tab W) (errs W))
theorem lifted (os : Os) (started : os.Started) (H : Type) (enc : TypeId × Value → H) :
 ReturnsInHanded {} Try.checked os 3 .any (Rows.fnPostsSpec.pre6 enc Try.prog Try.f3 Rows.fnPostsRow.domain false) (Rows.fnPostsSpec.post enc Try.prog Try.f3 false true false false) := by
 refine returnsInHanded_of_change_shaped (C := Try.checked) own started (by kernel_rfl) Try.func3
  (ChangeSpec.witness6 (enc := enc) (C := Try.checked) false ⟨#[],#[.slice none 0 0,.slice none 0 0],[]⟩ 12 (by kernel_rfl) (by kernel_rfl) (by kernel_rfl) (by kernel_rfl)) ?_
 intro W base args ds gs before hval hW _ _ hsh _
 exact contract H enc W base args ds gs before hval hW hsh
theorem over : Rows.fnPostsRow.holds Try.pinned (OpenSpec.ofChange Rows.fnPostsSpec) :=
 OpenClaim.holds_of_wide 3 Try.f3 rfl rfl rfl rfl rfl rfl rfl ⟨rfl,rfl,rfl,rfl,rfl⟩ rfl rfl rfl rfl rfl (by kernel_rfl) Try.func3 (by kernel_rfl)
  (of_decide_eq_true (by kernel_rfl)) (by unfold Func.isWrapper; first | (rw [if_pos (by decide +kernel)]; kernel_rfl) | (rw [if_neg (by decide +kernel)]; exact ⟨rfl,rfl⟩))
  (fun os started H enc _ => lifted os started H enc)
theorem proved : Rows.FnPostsSaid := over
end Go.Proofs.Ytmflggnljccofaa.fnPosts
