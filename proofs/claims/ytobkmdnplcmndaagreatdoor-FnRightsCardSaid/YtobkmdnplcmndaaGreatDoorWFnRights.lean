/- The law FnRights answers true for every input, whatever it is, and leaves its arguments as they were. Conditions: none. -/
import Derived.Test.YtobkmdnplcmndaaGreatDoorQFnRights
import Derived.Test.YtobkmdnplcmndaaGreatDoorRows
import Derived.Test.YtobkmdnplcmndaaGreatDoorL5
import Derived.Test.YtobkmdnplcmndaaGreatDoorLH
import Derived.Test.YtobkmdnplcmndaaGreatDoorLI
import Derived.Maps.AppendAt
import Derived.Sort.OwnSorted
import Derived.Sort.KeysCollected
import Derived.Shelf.SlSortCmp.WholeK
import Derived.Sort.LotA
import Derived.Shelf.SlSortFuncK.ComposeK
import Derived.Shelf.Small.Strs
import Derived.Carry
import Derived.DeepKeys4
import Derived.Maps.Own
import Derived.Maps.OwnSet
import Derived.Maps.RangeWalk
import Derived.Deep.RegionHeld3
import Derived.Deep.RegionLaw
import Derived.Shelf.RegionOpenPlain
import Derived.LoopTactic
import Derived.Laws.IdiomStrings
import Derived.Test.YtobkmdnplcmndaaGreatDoorL8
import Derived.Test.YtobkmdnplcmndaaGreatDoorShelf
import Derived.Test.YtobkmdnplcmndaaGreatDoorCards
import Derived.Test.YtobkmdnplcmndaaGreatDoorTie
import Derived.LaidMore
import Derived.Lay
import Derived.SevenTiedAt
import Derived.Stop.Joined
import Derived.WalkKit
import Derived.ProofKit
import Derived.OpenShut
import Derived.JoinedOf
import Derived.Handed
set_option linter.unusedVariables false
set_option maxRecDepth 100000
namespace Go.Proofs.YtobkmdnplcmndaaGreatDoor.fnRights
open Go.Ab Go.Ab.P
open Go.ChangeShapes Go.WideShapes Go.ChangeAt Go.RowKit
def phiL : List (Nat × Nat) := [(76,4),(441,15),(847,54),(463,33),(642,53),(557,37),(445,36),(949,32),(812,17),(729,35),(11,90),(12,91),(13,77),(740,76),(955,89),(954,75),(1,92),(742,78),(952,56),(953,57),(739,55),(948,34),(730,16),(811,18),(407,5),(22,51),(21,38),(24,30),(983,45),(1282,44),(815,23),(634,59),(985,43),(823,60),(861,61),(520,46),(816,25),(817,24),(23,40),(813,20),(735,39),(950,49),(734,28),(736,19),(745,21),(406,6),(405,7),(399,8),(232,9),(404,10),(818,26),(403,11),(402,12),(4,74),(5,52),(820,31),(400,14),(683,50),(458,29),(401,13),(1303,3)]
def phi (n : Nat) : Nat := (phiL.lookup n).getD 1000000
theorem hm : Tryz.prog.follows .mixedOrders = true := by kernel_rfl
theorem Zw7 : FOk Tryz.prog phi 76 Zjo := fn_ok hm (D := Zo8) DOk.nil (by kernel_rfl) _ _ _ _
theorem Zod : FOk Tryz.prog phi 441 Zf1 := fn_ok hm (D := Zpy) DOk.nil (by kernel_rfl) _ _ _ _
theorem Zrv : FOk Tryz.prog phi 847 Zfi := fn_ok hm (D := Zfg) DOk.nil (by kernel_rfl) _ _ _ _
theorem Zbn : FOk Tryz.prog phi 463 Zbi := fn_ok hm (D := Zkt) (DOk.cons Zrv DOk.nil) (by kernel_rfl) _ _ _ _
theorem Zsb : FOk Tryz.prog phi 642 Zmc := fn_ok hm (D := Zli) (DOk.cons Zbn DOk.nil) (by kernel_rfl) _ _ _ _
theorem Zde : FOk Tryz.prog phi 557 Zcd := fn_ok hm (D := Zkp) (DOk.cons Zbn DOk.nil) (by kernel_rfl) _ _ _ _
theorem Zcs : FOk Tryz.prog phi 445 Zb3 := fn_ok hm (D := Zji) (DOk.cons Zbn DOk.nil) (by kernel_rfl) _ _ _ _
section
open Go.Ab Go.Proofs
theorem Z7p {P : Program} {ops : Array Oper} {o : Oper} {a : Act} {K : Act → World → Prop} {Q : Exit → Act → World → Prop} {E : Prop} {w w' : World} {u v r : Value} {t ty : TypeId} (hr : (Builtin.append_ #[t,t] ty #[u,v]).run P w = .ok r w') (hgd : o.guard = none) (x y : Operand) (hty : o.type = ty)
 (ho : o.op = .call { callee := .builtin .append,args := #[x,y],argTypes := #[t,t] }) (hx : a.eval x = u) (hy : a.eval y = v) (h : K (a.put o.dst r) w') : if Region.wanted o (yielded ops a.tmps) = true then Oper.wp P o a w K Q else E := by
 have hw : Region.wanted o (yielded ops a.tmps) = true := by simp [Region.wanted,hgd]
 rw [if_pos hw]
 subst hty
 unfold Oper.wp
 simp only [execOp,ho,resolve,invoke,builtin,Sem.run_bind,Sem.run_pure,Result.andThen_ok,List.map_toArray,List.map_cons,List.map_nil,hx,hy,hr]
 exact h
theorem Zz8 (w : World) (n0 : List UInt8) (e : TypeId) : VOwn (w.alloc (.cells #[encT n0] e)) e (.slice (some ⟨w.heap.size,0,none⟩) 1 1) ([n0].map encT) (some w.heap.size) :=
 .mk w.heap.size 1 #[encT n0] [encT n0] (Zbr _ _ rfl) rfl (Nat.le_refl _) (by decide) (fun j hj => by match j,hj with | 0,_ => rfl)
theorem Z0i (out : List (List UInt8 × List (List UInt8))) (i j : Nat) (p : List UInt8 × List (List UInt8)) : unAt (out.set i p) j = if i = j ∧ i < out.length then p.2 else unAt out j := by
 unfold unAt
 rw [List.getElem?_set]
 by_cases h1 : i = j
 ·subst h1
  by_cases h2 : i < out.length
  ·simp [h2]
  ·simp [h2]
 ·simp [h1]
theorem Z7t {out : List (List UInt8 × List (List UInt8))} (h : ∀ p ∈ out,p.2 = []) (j : Nat) : unAt out j = [] := by
 unfold unAt
 cases hj : out[j]? with
 | none => rfl
 | some p => exact h p (List.mem_of_getElem? hj)
theorem Z7r : (Tryz.prog.info? 35).map (fun i => (i.zero,i.size,i.bytes)) = some (some (.agg #[.string ⟨#[]⟩,.slice none 0 0]),2,40) := by kernel_rfl
theorem Z6n : (Tryz.prog.info? 9).map (fun i => (i.zero,i.size,i.bytes)) = some (some (.string ⟨#[]⟩),1,16) := by kernel_rfl
theorem Z85 (w : World) (k : Nat) (hk : (k : Int) ≤ 100) : (convert 22 9 (.slice (some ⟨w.heap.size,0,none⟩) 1 1)).run Tryz.prog (w.alloc (.cells #[.int .u8 (97 + k)] 5)) = .ok (.string ⟨#[UInt8.ofNat (97 + k)]⟩) (w.alloc (.cells #[.int .u8 (97 + k)] 5)) := by
 refine run_convert_bytes_back _ _ _ _ ⟨w.heap.size,0,none⟩ 1 [UInt8.ofNat (97 + k)] Tryz.underlying22 Tryz.underlying5 Tryz.underlying9 fun j hj => ?_
 obtain rfl : j = 0 := by simp at hj; exact hj
 have h : (UInt8.ofNat (97 + k)).toNat = 97 + k := by rw [UInt8.toNat_ofNat']; omega
 have g := Zbr w (.cells #[.int .u8 (97 + k)] 5) rfl
 simp only [Addr.add,World.cell?,if_true,g]
 show some (Value.int .u8 (97 + (k : Int))) = some (Value.int .u8 ((UInt8.ofNat (97 + k)).toNat : Int))
 rw [h]; rfl
theorem dr_str (k : Nat) : Value.string (⟨#[110]⟩ ++ ⟨#[97 + UInt8.ofNat k]⟩) = encT [110,UInt8.ofNat (97 + k)] := by
 have h : (⟨#[110]⟩ ++ ⟨#[97 + UInt8.ofNat k]⟩ : ByteArray) = ⟨[110,UInt8.ofNat (97 + k)].toArray⟩ := by
  apply ByteArray.ext
  rw [ByteArray.data_append]
  simp
 rw [h]; rfl
set_option maxHeartbeats 6400000 in
theorem Z8e : Zq1 Tryz.prog 32 53 33 37 36 35 9 := ⟨⟨_,Tryz.func32,by decide +kernel,rfl⟩,by
 intro φ go gp gt ga on pk tx am ho hp ht ha hO hP hT hA x0 x1 ys hY S K0 p w N0
 have hS := N0.size
 have one : ∀ {x : srcE.ty} {n : Int} {y : Bool} {x' : srcE.ty} {xs : List (List UInt8 × List (List UInt8))} {vo : Value} {u : World} {K1 : Nat → Prop},on x n = some (y,x') → Rst Tryz.prog φ S 35 9 K1 x p xs vo u →
  Calls Tryz.prog 53 #[p,.int .i64 n] u fun r w' => r = .returned (.bool y) ∧ u.heap.size ≤ w'.heap.size ∧ Fq S p u w' ∧ Rst Tryz.prog φ S 35 9 K1 x' p xs vo w' ∧ ∀ c,K1 c → w'.heap[c]? = u.heap[c]? := fun hq hn => by
  have := hn.one (hO _ _ _ _ hq)
  rw [ho] at this
  exact this
 unfold drF at hY
 obtain ⟨⟨x2,out1⟩,hn1,hY1⟩ := Option.bind_eq_some_iff.1 hY
 obtain ⟨⟨x3,out2⟩,hn2,hY2⟩ := Option.bind_eq_some_iff.1 hY1
 obtain ⟨⟨c,x4⟩,hc,hY3⟩ := Option.bind_eq_some_iff.1 hY2
 clear hY hY1 hY2
 simp only at hn2 hc hY3
 obtain ⟨iO,hiO,heO⟩ := Option.map_eq_some_iff.1 Z7r
 simp only [Prod.mk.injEq] at heO
 obtain ⟨zO,sO,bO⟩ := heO
 obtain ⟨iS,hiS,heS⟩ := Option.map_eq_some_iff.1 Z6n
 simp only [Prod.mk.injEq] at heS
 obtain ⟨zS,sS,bS⟩ := heS
 go_enter Tryz.func32,Tryz.ntmps32
 go_wp2_with (fail)
 have N1 := (N0.lit' (rlNames.map encT).toArray 9)
 have Na := (N1.keep ((Lo.refl _ _).alloc (Nat.le_refl _) (.cells #[] 35))).out (some ⟨(w.alloc (.cells (rlNames.map encT).toArray 9)).heap.size,0,none⟩)
 have hz1 : (w.alloc (.cells (rlNames.map encT).toArray 9)).heap.size = w.heap.size + 1 := by simp
 have hz2 : ((w.alloc (.cells (rlNames.map encT).toArray 9)).alloc (.cells #[] 35)).heap.size = w.heap.size + 2 := by simp
 have hb1 : ((w.alloc (.cells (rlNames.map encT).toArray 9)).alloc (.cells #[] 35)).heap[w.heap.size]? = some (.cells (rlNames.map encT).toArray 9) := (Zaf _ _ (by omega)).trans (Zbr _ _ rfl)
 have L1 : Fq S p w ((w.alloc (.cells (rlNames.map encT).toArray 9)).alloc (.cells #[] 35)) := ((Fq.refl S p w).alloc hS _).alloc (by omega) _
 rw [hz1] at Na
 go_loopw [4,5] (fun vo iv wr => ∃ (i : Nat) (x : srcE.ty) (out : List (List UInt8 × List (List UInt8))),iv = .int .i64 i ∧ i ≤ 5 ∧ drNames on (rlNames.drop i) x out = some (x2,out1) ∧ out.length ≤ i ∧ (∀ p ∈ out,p.2 = []) ∧ Rst Tryz.prog φ S 35 9 (fun b => K0 b ∨ b = w.heap.size) x p out vo wr ∧ wr.heap[w.heap.size]? = some (.cells (rlNames.map encT).toArray 9) ∧ w.heap.size < wr.heap.size ∧ Fq S p w wr)
  (fun _ iv _ => (5 - intOf iv).toNat)
 case atStart =>
  exact ⟨0,x0,[],rfl,by omega,hn1,by simp,by simp,Na,hb1,by simp <;> omega,L1⟩
 case round =>
  clear hn1 N1 Na hb1 L1 hz1 hz2
  obtain ⟨i,x,out,rfl,hi,hn,hol,hnil,N,hbn,hbl,L⟩ := hrel
  have hlen : rlNames.length = 5 := rfl
  have hi9 : (i : Int) ≤ 5 := by omega
  rcases Nat.lt_or_ge i 5 with hlt | hge
  ·have hlt' : (i : Int) < 5 := by omega
   rw [List.drop_eq_getElem_cons (by rw [hlen]; exact hlt)] at hn
   obtain ⟨⟨bq,x'⟩,hq,hn2'⟩ := Option.bind_eq_some_iff.1 hn
   clear hn
   simp only at hn2'
   have hcell : wr.cell? ⟨w.heap.size,i,none⟩ = some (encT (rlNames[i]'(by rw [hlen]; exact hlt))) := by
    simp only [World.cell?,hbn]
    rw [List.getElem?_toArray,List.getElem?_map,List.getElem?_eq_getElem (by rw [hlen]; exact hlt)]; rfl
   generalize rlNames[i]'(by rw [hlen]; exact hlt) = nm at hn2' hcell
   have hcell' : wr.cell? ⟨w.heap.size,i,none⟩ = some (.string ⟨nm.toArray⟩) := hcell
   go_wp2_with (fail)
   go_at_call 53
   refine (one hq N).mono ?_
   rintro e w1 ⟨rfl,hz,L1,N1,hk⟩
   have hb1 : w1.heap[w.heap.size]? = some (.cells (rlNames.map encT).toArray 9) := (hk _ (.inr rfl)).trans hbn
   have hc1 : w1.cell? ⟨w.heap.size,i,none⟩ = some (.string ⟨nm.toArray⟩) := by rw [← hcell']; simp only [World.cell?,hb1,hbn]
   have L1' := L.trans L1
   cases bq with
   | true =>
     go_wp2_with (fail)
     exact ⟨⟨i + 1,x',out,rfl,by omega,hn2',by omega,hnil,N1,hb1,by omega,L1'⟩,by simp only [intOf]; omega⟩
   | false =>
     have N2 := (N1.keep ((Lo.refl _ _).alloc (Nat.le_refl _) (.cells #[] 9))).keep ((Lo.refl _ _).alloc (Nat.le_refl _) (.cells #[encT nm,.slice (some ⟨w1.heap.size,0,none⟩) 0 0] 35))
     have hS1 := N1.size
     have hzA : (w1.alloc (.cells #[] 9)).heap.size = w1.heap.size + 1 := by simp
     have L2 : Fq S p w ((w1.alloc (.cells #[] 9)).alloc (.cells #[encT nm,.slice (some ⟨w1.heap.size,0,none⟩) 0 0] 35)) := (L1'.alloc hS1 _).alloc (by omega) _
     obtain ⟨ad,n',cp,w7,hrun,hz7,L7,N7,hk7⟩ := N2.push0 (t := 24) Tryz.underlying24 hiO sO zO rfl (by rw [bO]; omega) (by omega) (Zbr _ _ rfl) 1 24
     have hb7 : w7.heap[w.heap.size]? = some (.cells (rlNames.map encT).toArray 9) := (hk7 _ (.inr rfl)).trans ((Zaf _ _ (by omega)).trans ((Zaf _ _ (by omega)).trans hb1))
     rw [hzA] at hrun
     have hrun' : (Builtin.append_ #[24,24] 24 #[u4,.slice (some ⟨w1.heap.size + 1,0,none⟩) 1 1]).run Tryz.prog ((w1.alloc (.cells #[] 9)).alloc (.cells #[.string ⟨nm.toArray⟩,.slice (some ⟨w1.heap.size,0,none⟩) 0 0] 35)) = .ok (.slice ad n' cp) w7 := hrun
     clear hrun hcell hcell' hbn hk hk7
     go_wp2_with (first | (at_builtin; refine Zd4 _ rfl _ _ _ _ rfl _ _ rfl rfl hrun' ?_) | fail)
     have hz9 : w1.heap.size ≤ w7.heap.size := by simp at hz7; omega
     exact ⟨⟨i + 1,x',out ++ [(nm,[])],rfl,by omega,hn2',by simp; omega,fun p hp => by rcases List.mem_append.1 hp with h | h; exact hnil p h; rw [List.mem_singleton] at h; rw [h],N7,hb7,by omega,L2.trans (.of_lo L7)⟩,by simp only [intOf]; omega⟩
  ·have hge5 : ¬ (i : Int) < 5 := by omega
   rw [List.drop_eq_nil_of_le (by rw [hlen]; omega)] at hn
   cases hn
   have hl5 : out1.length ≤ 5 := by omega
   have hun := Z7t hnil
   clear hnil
   have hl9 : (out1.length : Int) ≤ 5 := by omega
   have Nb := N.base (K0 := K0) (fun b hb => .inl hb) (fun b hb => hb.elim .inl fun e => .inr ⟨by omega,by omega⟩)
   clear N hbn
   obtain ⟨av,cv,rfl⟩ := Nb.slice
   go_wp2_with (fail)
   go_loopw [6,7] (fun iv _ wr => ∃ (i : Nat) (x : srcE.ty) (out : List (List UInt8 × List (List UInt8))),iv = .int .i64 i ∧ i ≤ out1.length ∧ out.length = out1.length ∧ drOut on (out1.length - i) i x out = some (x3,out2) ∧ (∀ j,i ≤ j → unAt out j = []) ∧ Rst Tryz.prog φ S 35 9 K0 x p out (.slice av out1.length cv) wr ∧ Fq S p w wr)
    (fun iv _ _ => ((out1.length : Int) - intOf iv).toNat)
   case atStart => exact ⟨0,x2,out1,rfl,by omega,rfl,hn2,fun j _ => hun j,Nb,L⟩
   case round =>
    clear Nb hn2 L hun
    obtain ⟨i,x,out,rfl,hi,hol2,hdr,hun,N,L⟩ := hrel
    have hi8 : (i : Int) ≤ 5 := by omega
    rcases Nat.lt_or_ge i out1.length with hlt | hge
    ·have hlt' : (i : Int) < (out1.length : Int) := by omega
     obtain ⟨m,hm⟩ : ∃ m,out1.length - i = m + 1 := ⟨out1.length - i - 1,by omega⟩
     rw [hm] at hdr
     obtain ⟨⟨xq,outq⟩,hin,hdr2⟩ := Option.bind_eq_some_iff.1 hdr
     clear hdr
     simp only at hdr2
     go_wp2_with (fail)
     go_loopw [7] (fun kv wr => ∃ (k : Nat) (x : srcE.ty) (out : List (List UInt8 × List (List UInt8))),kv = .int .i64 k ∧ i + 1 ≤ k ∧ k ≤ out1.length ∧ out.length = out1.length ∧ drIn on i (out1.length - k) k x out = some (xq,outq) ∧ ((∀ j,i < j → unAt out j = []) ∧ (unAt out i).length + i + 1 ≤ k) ∧ Rst Tryz.prog φ S 35 9 K0 x p out (.slice av out1.length cv) wr ∧ Fq S p w wr)
      (fun kv _ => ((out1.length : Int) - intOf kv).toNat)
     case atStart => exact ⟨i + 1,x,out,by congr 1,Nat.le_refl _,by omega,hol2,by rw [← hol2]; exact hin,⟨fun j hj => hun j (by omega),by rw [hun i (Nat.le_refl _)]; simp⟩,N,L⟩
     case round =>
      clear N L hin hol2 hun
      obtain ⟨k,x,out,rfl,hik,hkl,hol2,hin,⟨hun,hul⟩,N,L⟩ := hrel
      have hk8 : (k : Int) ≤ 5 := by omega
      rcases Nat.lt_or_ge k out1.length with hlk | hgk
      ·have hlk' : (k : Int) < (out1.length : Int) := by omega
       obtain ⟨m2,hm2⟩ : ∃ m2,out1.length - k = m2 + 1 := ⟨out1.length - k - 1,by omega⟩
       rw [hm2] at hin
       obtain ⟨⟨bq,x'⟩,hq,hin2⟩ := Option.bind_eq_some_iff.1 hin
       clear hin
       simp only at hin2
       go_wp2_with (fail)
       refine (one hq N).mono ?_
       rintro e w1 ⟨rfl,hz,L1,N1,_⟩
       have L1' := L.trans L1
       cases bq with
       | false =>
         go_wp2_with (fail)
         exact ⟨⟨k + 1,x',out,rfl,by omega,by omega,hol2,by rw [show out1.length - (k + 1) = m2 from by omega]; exact hin2,⟨hun,by omega⟩,N1,L1'⟩,by simp only [intOf]; omega⟩
       | true =>
         obtain ⟨⟨ni,ti⟩,hxi⟩ : ∃ p,out[i]? = some p := ⟨_,List.getElem?_eq_getElem (show i < out.length by omega)⟩
         obtain ⟨⟨nk,tk⟩,hxk⟩ : ∃ p,out[k]? = some p := ⟨_,List.getElem?_eq_getElem (show k < out.length by omega)⟩
         have hni : nmAt out i = ni := by simp [nmAt,hxi]
         have hti : unAt out i = ti := by simp [unAt,hxi]
         have hnk : nmAt out k = nk := by simp [nmAt,hxk]
         rw [hni,hti,hnk,if_pos rfl] at hin2
         rw [hti] at hul
         have hS1 := N1.size
         have hio : i < out.length := by omega
         have hko : k < out.length := by omega
         have N2 := N1.keep (Lo.drew (Lo.refl _ _))
         have N3 := N2.keep ((Lo.refl _ _).alloc (Nat.le_refl _) (.cells #[encT nk] 9))
         obtain ⟨bk,ck,uk,obk,ek,⟨kb1,kb2⟩,ck0,_,_,_,_,_⟩ := N2.at hxk
         obtain ⟨b,cap,u,obr,eb,⟨b1,b2⟩,c0,c1,hfz,hV,hob,hset⟩ := N3.at hxi
         simp only [Value.slice.injEq] at ek eb
         obtain ⟨rfl,-,rfl⟩ := ek
         obtain ⟨eb,-,-⟩ := eb
         simp only [Option.some.injEq,Addr.mk.injEq,and_true] at eb
         subst eb
         obtain ⟨ua,un,uc,rfl⟩ := hV.slice
         obtain ⟨ad,n',cp,w7,ob7,hrun,hV7,hz7,hk7,hob7,hos7,hout7⟩ := hV.app (t := 28) Tryz.underlying28 hiS sS zS rfl (by rw [bS]; omega) (by simp; omega) (Zbr _ _ rfl) rfl rfl 1 28
         have hrun' : (Builtin.append_ #[28,28] 28 #[.slice ua un uc,.slice (some ⟨w1.heap.size,0,none⟩) 1 1]).run Tryz.prog (w1.drew.alloc (.cells #[.string ⟨nk.toArray⟩] 9)) = .ok (.slice ad n' cp) w7 := hrun
         have hb2 : bk < w1.heap.size := kb2
         have g0 : w1.cell? ⟨bk,k * 2,none⟩ = some (.string ⟨nk.toArray⟩) := by rw [show k * 2 = 2 * k from Nat.mul_comm _ _]; exact ck0
         have hcz : ∀ o,(w1.drew.alloc (.cells #[encT nk] 9)).cell? ⟨bk,o,none⟩ = w1.cell? ⟨bk,o,none⟩ := fun o => by
          have := Zaf w1.drew (.cells #[encT nk] 9) (b := bk) hb2
          simp only [World.cell?,this]; rfl
         have g1 : w1.cell? ⟨bk,i * 2 + 1,none⟩ = some (.slice ua un uc) := by
          rw [show i * 2 = 2 * i from Nat.mul_comm _ _,← hcz]; exact c1
         have hzA : (w1.drew.alloc (.cells #[encT nk] 9)).heap.size = w1.heap.size + 1 := by simp
         have hbo : obr ≠ some bk := fun e => (hob bk e).2.2 rfl
         have hblk : w7.heap[bk]? = (w1.drew.alloc (.cells #[encT nk] 9)).heap[bk]? := hk7 bk (by omega) hbo
         have g2 : w7.cell? ⟨bk,i * 2 + 1,none⟩ = some (.slice ua un uc) := by
          rw [← g1,← hcz]; simp only [World.cell?,hblk]
         have g3 : w7.frozen? ⟨bk,i * 2 + 1,none⟩ = false := (frozen?_block hblk _).trans (hfz _)
         have hobc : ∀ c,ob7 = some c → c < w7.heap.size ∧ (obr = some c ∨ (w1.drew.alloc (.cells #[encT nk] 9)).heap.size ≤ c) := fun c hc => by
          subst hc
          refine ⟨hV7.lt,?_⟩
          rcases hob7 with h | ⟨q,h,hq,_⟩
          ·exact .inl h.symm
          ·cases h; exact .inr hq
         have N9 := (hset w7 (.slice ad n' cp) (ti ++ [nk]) ob7 (by simpa using hV7) hz7 hobc hk7).1
         rw [show 2 * i = i * 2 from Nat.mul_comm _ _] at N9
         have L7 : Lo S w1 w7 := ((Lo.drew (Lo.refl S w1)).alloc hS1 _).trans ⟨hz7,fun c hc => hk7 c (by omega) (fun e => by have := (hob c e).1; omega),hos7,hout7⟩
         have L9 : Fq S p w (w7.setCell ⟨bk,i * 2 + 1,none⟩ (.slice ad n' cp)) := L1'.trans (.of_lo (L7.setCell b1))
         have hun9 : (∀ j,i < j → unAt (out.set i (ni,ti ++ [nk])) j = []) ∧ (unAt (out.set i (ni,ti ++ [nk])) i).length + i + 1 ≤ k + 1 := by
          refine ⟨fun j hj => ?_,?_⟩
          ·rw [Z0i,if_neg (fun h => by omega)]; exact hun j hj
          ·rw [Z0i,if_pos ⟨rfl,by omega⟩]; simp; omega
         have hol9 : (out.set i (ni,ti ++ [nk])).length = out1.length := by simpa using hol2
         clear hset hk7 hV7 hob7 hos7 hout7 hV hob hfz hrun hcz c0 c1 ck0 hblk hbo hni hti hnk hxi hxk N1 N2 N3 L1 L1' L7 hun hul hzA hz7 hol2 hobc
         go_wp2_with (fail)
         go_region_law (first | (refine Z7p hrun' rfl _ _ rfl rfl rfl rfl ?_) | fail)
         all_goals go_wp2_with (fail)
         all_goals exact ⟨⟨k + 1,x',out.set i (ni,ti ++ [nk]),rfl,by omega,by omega,hol9,by rw [show out1.length - (k + 1) = m2 from by omega]; exact hin2,hun9,N9,L9⟩,by simp only [intOf]; omega⟩
      ·obtain rfl : k = out1.length := by omega
       rw [Nat.sub_self] at hin
       cases hin
       go_wp2_with (fail)
       exact ⟨⟨i + 1,xq,outq,rfl,by omega,hol2,by rw [show out1.length - (i + 1) = m from by omega]; exact hdr2,fun j hj => hun j (by omega),N,L⟩,by simp only [intOf]; omega⟩
    ·obtain rfl : i = out1.length := by omega
     rw [Nat.sub_self] at hdr
     cases hdr
     clear hun
     have hlo : (out2.length : Int) = out1.length := by omega
     have hl0 : (0 : Int) ≤ out1.length := by omega
     have pick : ∀ {x : srcE.ty} {n y : Int} {x' : srcE.ty} {xs : List (List UInt8 × List (List UInt8))} {vo : Value} {u : World},pk x n = some (y,x') → Rst Tryz.prog φ S 35 9 K0 x p xs vo u →
      Calls Tryz.prog 33 #[p,.int .i64 n] u fun r w' => r = .returned (.int .i64 y) ∧ u.heap.size ≤ w'.heap.size ∧ Fq S p u w' ∧ Rst Tryz.prog φ S 35 9 K0 x' p xs vo w' ∧ ∀ c,K0 c → w'.heap[c]? = u.heap[c]? := fun hq hn => by
      have := hn.pick (hP _ _ _ _ hq)
      rw [hp] at this
      exact this
     go_wp2_with (fail)
     go_at_call 33
     refine (pick hc N).mono ?_
     rintro e w1 ⟨rfl,hz1,L1,N1,_⟩
     replace L1 := L.trans L1
     have hS1 := N1.size
     by_cases c0 : c = 0
     ·subst c0
      rw [if_pos rfl] at hY3
      by_cases h1 : 1 < out2.length
      ·rw [if_pos h1] at hY3
       obtain ⟨m,hm⟩ : ∃ m,out2.length = m + 1 := ⟨out2.length - 1,by omega⟩
       obtain ⟨⟨n0,t0⟩,hx0⟩ : ∃ p,out2[0]? = some p := ⟨_,List.getElem?_eq_getElem (show 0 < out2.length by omega)⟩
       obtain ⟨⟨nm,tm⟩,hxm⟩ : ∃ p,out2[m]? = some p := ⟨_,List.getElem?_eq_getElem (show m < out2.length by omega)⟩
       rw [show out2.length - 1 = m from by omega,show nmAt out2 m = nm from by simp [nmAt,hxm],show nmAt out2 0 = n0 from by simp [nmAt,hx0]] at hY3
       cases hY3
       obtain ⟨bk,ck,uk,obk,ek,⟨kb1,kb2⟩,ck0,_,_,_,_,_⟩ := N1.at hx0
       obtain ⟨b,cap,u,obr,eb,⟨b1,b2⟩,q0,q1,hfz,hV,hob,hset⟩ := N1.at hxm
       simp only [Value.slice.injEq] at ek eb
       obtain ⟨rfl,-,rfl⟩ := ek
       obtain ⟨eb,-,-⟩ := eb
       simp only [Option.some.injEq,Addr.mk.injEq,and_true] at eb
       subst eb
       have N9 := (hset _ _ [n0] _ (Zz8 w1 n0 9) (by simp) (fun c hc => by cases hc; exact ⟨by simp,.inr (Nat.le_refl _)⟩) fun c hc _ => Zaf _ _ hc).1
       have hzA : (w1.alloc (.cells #[encT n0] 9)).heap.size = w1.heap.size + 1 := by simp
       have L9 := (L1.alloc hS1 (.cells #[encT n0] 9)).setCell (b := bk) (j := m * 2 + 1) (u := .slice (some ⟨w1.heap.size,0,none⟩) 1 1) b1
       rw [show 2 * m = m * 2 from Nat.mul_comm _ _] at N9
       have g0 : w1.cell? ⟨bk,0,none⟩ = some (.string ⟨n0.toArray⟩) := ck0
       have g1 : w1.cell? ⟨bk,m * 2 + 1,none⟩ = some u := by rw [show m * 2 = 2 * m from Nat.mul_comm _ _]; exact q1
       have g2 : (w1.alloc (.cells #[encT n0] 9)).cell? ⟨bk,m * 2 + 1,none⟩ = some u := by
        rw [← g1]; simp only [World.cell?,Zaf w1 (.cells #[encT n0] 9) kb2]
       have g3 : (w1.alloc (.cells #[encT n0] 9)).frozen? ⟨bk,m * 2 + 1,none⟩ = false := (frozen?_block (Zaf w1 (.cells #[encT n0] 9) kb2) _).trans (hfz _)
       have hix : (out1.length : Int) - 1 = (m : Int) := by omega
       have hm9 : m < out1.length := by omega
       have h1' : (1 : Int) < out1.length := by omega
       clear hset hV hob hfz q0 q1 ck0 hm hx0 hxm N1 hlo hol2
       rw [World.setCell_alloc_past _ _ _ _ kb2] at L9 N9
       go_wp2_with (fail)
       go_ret
       exact ⟨_,_,_,rfl,L9,N9⟩
      ·rw [if_neg h1] at hY3
       cases hY3
       have h1' : ¬ (1 : Int) < out1.length := by omega
       go_wp2_with (fail)
       go_ret
       exact ⟨_,_,_,rfl,L1,N1⟩
     ·rw [if_neg c0] at hY3
      by_cases c1 : c = 1
      ·subst c1
       rw [if_pos rfl] at hY3
       by_cases h1 : 0 < out2.length
       ·rw [if_pos h1] at hY3
        obtain ⟨⟨j,x5⟩,hj,hY4⟩ := Option.bind_eq_some_iff.1 hY3
        clear hY3
        simp only at hj hY4
        split at hY4
        rotate_left
        ·cases hY4
        rename_i hjr
        obtain ⟨⟨t,x6⟩,htx,hY5⟩ := Option.bind_eq_some_iff.1 hY4
        clear hY4
        simp only at htx hY5
        rw [hlo] at hj
        obtain ⟨m,rfl⟩ : ∃ m : Nat,j = m := ⟨j.toNat,by omega⟩
        obtain ⟨⟨nm,tm⟩,hxm⟩ : ∃ p,out2[m]? = some p := ⟨_,List.getElem?_eq_getElem (show m < out2.length by omega)⟩
        rw [Int.toNat_natCast,show nmAt out2 m = nm from by simp [nmAt,hxm]] at hY5
        cases hY5
        have h1' : (0 : Int) < out1.length := by omega
        have hm9 : m < out1.length := by omega
        have hm8 : (m : Int) ≤ 5 := by omega
        clear hjr hm8
        go_wp2_with (fail)
        go_at_call 33
        refine (pick hj N1).mono ?_
        rintro e w2 ⟨rfl,hz2,L2,N2,_⟩
        replace L2 := L1.trans L2
        have text : Calls Tryz.prog 37 #[p,.slice (some ⟨w2.heap.size,0,none⟩) 3 3] (w2.alloc (.cells #[.string ⟨#[122,122]⟩,.string ⟨#[97,103,101,110,116]⟩,.string ⟨#[118,97,114,110,105,115,104,101,114]⟩] 9)) fun r w' => r = .returned (.string ⟨t.toArray⟩) ∧ w2.heap.size ≤ w'.heap.size ∧ Fq S p w2 w' ∧ Rst Tryz.prog φ S 35 9 K0 x1 p out2 (.slice av out1.length cv) w' ∧ ∀ c,K0 c → w'.heap[c]? = w2.heap[c]? := by
         have := N2.text (t := 9) (hT _ _ _ _ htx) 3 (by decide)
         rw [ht] at this
         exact this
        clear L1 N1
        go_wp2_with (fail)
        go_at_call 37
        refine text.mono ?_
        rintro e w3 ⟨rfl,hz3,L3,N3,_⟩
        clear text N2
        replace L3 := L2.trans L3
        have hS3 := N3.size
        obtain ⟨b,cap,u,obr,eb,⟨b1,b2⟩,q0,q1,hfz,hV,hob,hset⟩ := N3.at hxm
        simp only [Value.slice.injEq] at eb
        obtain ⟨rfl,-,rfl⟩ := eb
        have N9 := (hset _ _ [t] _ (Zz8 w3 t 9) (by simp) (fun c hc => by cases hc; exact ⟨by simp,.inr (Nat.le_refl _)⟩) fun c hc _ => Zaf _ _ hc).1
        have hzA : (w3.alloc (.cells #[encT t] 9)).heap.size = w3.heap.size + 1 := by simp
        have L9 := (L3.alloc hS3 (.cells #[encT t] 9)).setCell (b := b) (j := m * 2 + 1) (u := .slice (some ⟨w3.heap.size,0,none⟩) 1 1) b1
        rw [show 2 * m = m * 2 from Nat.mul_comm _ _] at N9
        have g1 : w3.cell? ⟨b,m * 2 + 1,none⟩ = some u := by rw [show m * 2 = 2 * m from Nat.mul_comm _ _]; exact q1
        have g2 : (w3.alloc (.cells #[encT t] 9)).cell? ⟨b,m * 2 + 1,none⟩ = some u := by
         rw [← g1]; simp only [World.cell?,Zaf w3 (.cells #[encT t] 9) b2]
        have g3 : (w3.alloc (.cells #[encT t] 9)).frozen? ⟨b,m * 2 + 1,none⟩ = false := (frozen?_block (Zaf w3 (.cells #[encT t] 9) b2) _).trans (hfz _)
        have g4 : w3.frozen? ⟨b,m * 2 + 1,none⟩ = false := hfz _
        clear hset hV hob hfz q0 q1 hxm N3 hlo hol2 L2 L3
        rw [World.setCell_alloc_past _ _ _ _ b2] at L9 N9
        go_wp2_with (fail)
        go_ret
        exact ⟨_,_,_,rfl,L9,N9⟩
       ·rw [if_neg h1] at hY3
        cases hY3
        have h1' : ¬ (0 : Int) < out1.length := by omega
        go_wp2_with (fail)
        go_ret
        exact ⟨_,_,_,rfl,L1,N1⟩
      ·rw [if_neg c1] at hY3
       by_cases c2 : c = 2
       ·subst c2
        rw [if_pos rfl] at hY3
        obtain ⟨⟨q,x5⟩,hq,hY4⟩ := Option.bind_eq_some_iff.1 hY3
        clear hY3
        simp only at hq hY4
        split at hY4
        rotate_left
        ·cases hY4
        rename_i hqr
        obtain ⟨m,rfl⟩ : ∃ m : Nat,q = m := ⟨q.toNat,by omega⟩
        rw [Int.toNat_natCast] at hY4
        cases hY4
        have hm8 : (m : Int) ≤ 100 := by omega
        clear hqr
        have among : Calls Tryz.prog 36 #[p,.slice (some ⟨w1.heap.size,0,none⟩) 2 2] (w1.alloc (.cells #[.int .i64 12,.int .i64 13] 2)) fun r w' => r = .returned (.int .i64 m) ∧ w1.heap.size ≤ w'.heap.size ∧ Fq S p w1 w' ∧ Rst Tryz.prog φ S 35 9 K0 x1 p out2 (.slice av out1.length cv) w' ∧ ∀ c,K0 c → w'.heap[c]? = w1.heap[c]? := by
         have := N1.among (t := 2) (hA _ _ _ _ hq) 2 (by decide)
         rw [ha] at this
         exact this
        go_wp2_with (fail)
        go_at_call 36
        refine among.mono ?_
        rintro e w2 ⟨rfl,hz2,L2,N2,_⟩
        clear among
        replace L2 := L1.trans L2
        have hS2 := N2.size
        have N3 := (N2.keep ((Lo.refl _ _).alloc (Nat.le_refl _) (.cells #[] 35))).out (some ⟨w2.heap.size,0,none⟩)
        have L3 := L2.alloc hS2 (.cells #[] 35)
        clear N1 N2 L1 L2 hol2 hlo
        go_wp2_with (fail)
        go_loopw [4,10] (fun vo kv wr => ∃ k : Nat,kv = .int .i64 k ∧ k ≤ m ∧ Rst Tryz.prog φ S 35 9 K0 x1 p ((List.range k).map fun k => ([110,UInt8.ofNat (97 + k)],[])) vo wr ∧ Fq S p w wr)
         (fun _ kv _ => ((m : Int) - intOf kv).toNat)
        case atStart => exact ⟨0,rfl,by omega,N3,L3⟩
        case round =>
         clear N3 L3
         obtain ⟨k,rfl,hkm,N3,L3⟩ := hrel
         have hk8 : (k : Int) ≤ 100 := by omega
         rcases Nat.lt_or_ge k m with hlk | hgk
         ·have hlk' : (k : Int) < (m : Int) := by omega
          have hconv := Z85 wr k hk8
          have hS3 := N3.size
          have N4 := (N3.keep ((Lo.refl _ _).alloc (Nat.le_refl _) (.cells #[.int .u8 (97 + k)] 5))).keep ((Lo.refl _ _).alloc (Nat.le_refl _) (.cells #[encT [110,UInt8.ofNat (97 + k)],.slice none 0 0] 35))
          have hzA : (wr.alloc (.cells #[.int .u8 (97 + k)] 5)).heap.size = wr.heap.size + 1 := by simp
          have L4 : Fq S p w ((wr.alloc (.cells #[.int .u8 (97 + k)] 5)).alloc (.cells #[encT [110,UInt8.ofNat (97 + k)],.slice none 0 0] 35)) := (L3.alloc hS3 _).alloc (by omega) _
          obtain ⟨ad,n',cp,w7,hrun,hz7,L7,N7,hk7⟩ := N4.push0 (t := 24) Tryz.underlying24 hiO sO zO rfl (by rw [bO]; omega) (by simp; omega) (Zbr _ _ rfl) 1 24
          rw [hzA,← dr_str] at hrun
          have L9 := L4.trans (.of_lo L7)
          have N9 : Rst Tryz.prog φ S 35 9 K0 x1 p ((List.range (k + 1)).map fun k => ([110,UInt8.ofNat (97 + k)],[])) (.slice ad n' cp) w7 := by
           rw [List.range_succ,List.map_append]; exact N7
          clear N4 N3 L3 L4 L7 N7 hk7 hzA hz7
          go_wp2_with (first | (at_builtin; refine Zd4 _ rfl _ _ _ _ rfl _ _ rfl rfl hrun ?_) | fail)
          exact ⟨⟨k + 1,rfl,by omega,N9,L9⟩,by simp only [intOf]; omega⟩
         ·obtain rfl : k = m := by omega
          obtain ⟨av2,cv2,rfl⟩ := N3.slice
          go_wp2_with (fail)
          go_ret
          exact ⟨_,_,_,rfl,L3,N3⟩
       ·rw [if_neg c2] at hY3
        cases hY3
        go_wp2_with (fail)
        go_ret
        exact ⟨_,_,_,rfl,L1,N1⟩⟩
end
theorem Zqh : FOk Tryz.prog phi 949 Ze4 := Z1f (g := 949) (go := 642) (gp := 463) (gt := 557) (ga := 445) Z8e (by kernel_rfl) (fun x n y x2 h => Zj4 Zsb h) (fun x n y x2 h => Zj4 Zbn h) (fun x ns y x2 h => Zj4 Zde h) (fun x ns y x2 h => Zj4 Zcs h)
theorem Zhu : FOk Tryz.prog phi 812 Zcr := fn_ok hm (D := Zh1) (DOk.cons Zde DOk.nil) (by kernel_rfl) _ _ _ _
theorem Zsk : FOk Tryz.prog phi 729 Zgg := fn_ok hm (D := Zgu) (DOk.cons Zcs (DOk.cons Zbn (DOk.cons Zde (DOk.cons Zhu DOk.nil)))) (by kernel_rfl) _ _ _ _
theorem Zuy : FOk Tryz.prog phi 11 Zic := fn_ok hm (D := Zoo) DOk.nil (by kernel_rfl) _ _ _ _
theorem Zv1 : FOk Tryz.prog phi 12 Zit := fn_ok hm (D := Zn8) DOk.nil (by kernel_rfl) _ _ _ _
theorem Zoi : FOk Tryz.prog phi 13 Zf4 := fn_ok hm (D := Zf2) (DOk.cons Zuy (DOk.cons Zv1 DOk.nil)) (by kernel_rfl) _ _ _ _
theorem Zie : FOk Tryz.prog phi 740 Zd7 := fn_ok hm (D := Zjn) DOk.nil (by kernel_rfl) _ _ _ _
theorem Zvk : FOk Tryz.prog phi 955 Zh2 := fn_ok hm (D := Zcj) (DOk.cons Zie DOk.nil) (by kernel_rfl) _ _ _ _
theorem Zvf : FOk Tryz.prog phi 954 Zim := fn_ok hm (D := Zck) (DOk.cons Zoi (DOk.cons Zie (DOk.cons Zvk DOk.nil))) (by kernel_rfl) _ _ _ _
theorem Zz5 : FOk Tryz.prog phi 1 Zne := fn_ok hm (D := Zsw) DOk.nil (by kernel_rfl) _ _ _ _
theorem Zud : FOk Tryz.prog phi 742 Zhj := fn_ok hm (D := Zmr) (DOk.cons Zz5 DOk.nil) (by kernel_rfl) _ _ _ _
theorem Zpk : FOk Tryz.prog phi 952 Zg3 := fn_ok hm (D := Zrh) (DOk.cons Zoi (DOk.cons Zie (DOk.cons Zud DOk.nil))) (by kernel_rfl) _ _ _ _
theorem Zlz : FOk Tryz.prog phi 953 Zek := fn_ok hm (D := Zna) DOk.nil (by kernel_rfl) _ _ _ _
theorem Zzz : FOk Tryz.prog phi 739 Znq := fn_ok hm (D := Zil) (DOk.cons Zpk (DOk.cons Zlz (DOk.cons Zvf DOk.nil))) (by kernel_rfl) _ _ _ _
theorem Zvl : FOk Tryz.prog phi 948 Ziw := fn_ok hm (D := Zdz) (DOk.cons Zzz (DOk.cons Zpk (DOk.cons Zlz DOk.nil))) (by kernel_rfl) _ _ _ _
theorem Zn6 : FOk Tryz.prog phi 730 Zfy := fn_ok hm (D := Zd8) (DOk.cons Zcs (DOk.cons Zbn (DOk.cons Zsk (DOk.cons Zvl (DOk.cons Zqh DOk.nil))))) (by kernel_rfl) _ _ _ _
theorem Zpd : FOk Tryz.prog phi 811 Zey := fn_ok hm (D := Zh9) (DOk.cons Zcs DOk.nil) (by kernel_rfl) _ _ _ _
theorem Zsf : FOk Tryz.prog phi 407 Zgk := fn_ok hm (D := Zlp) (DOk.cons Zod (DOk.cons Zn6 (DOk.cons Zpd (DOk.cons Zhu DOk.nil)))) (by kernel_rfl) _ _ _ _
theorem Zwd : FOk Tryz.prog phi 22 Zj0 := fn_ok hm (D := Zpg) DOk.nil (by kernel_rfl) _ _ _ _
theorem Zo5 : FOk Tryz.prog phi 21 Zis := fn_ok hm (D := Zwb) DOk.nil (by kernel_rfl) _ _ _ _
theorem Zjm : FOk Tryz.prog phi 24 Ze0 := fn_ok hm (D := Zg0) (DOk.cons Zo5 (DOk.cons Zwd DOk.nil)) (by kernel_rfl) _ _ _ _
theorem Zv2 : FOk Tryz.prog phi 983 Zib := fn_ok hm (D := Zn4) DOk.nil (by kernel_rfl) _ _ _ _
theorem Zb4 : FOk Tryz.prog phi 1282 Zal := fn_ok hm (D := Zam) (DOk.cons Zv2 DOk.nil) (by kernel_rfl) _ _ _ _
theorem Zcv : FOk Tryz.prog phi 815 Zdl := fn_ok hm (D := Zq4) (DOk.cons Zb4 DOk.nil) (by kernel_rfl) _ _ _ _
theorem Zhl : FOk Tryz.prog phi 634 Zbt := fn_ok hm (D := Zbs) DOk.nil (by kernel_rfl) _ _ _ _
theorem Zai : FOk Tryz.prog phi 985 Zaw := fn_ok hm (D := Zco) (DOk.cons Zhl DOk.nil) (by kernel_rfl) _ _ _ _
theorem Zhz : FOk Tryz.prog phi 823 Zbw := Z7m Tryz.lays190 (by kernel_rfl)
theorem Zgn : FOk Tryz.prog phi 861 Zbp := Z2e Tryz.lays194 (by kernel_rfl)
theorem Ztw : FOk Tryz.prog phi 520 Zg8 := fn_ok hm (D := Zmu) (DOk.cons Zhz (DOk.cons Zgn DOk.nil)) (by kernel_rfl) _ _ _ _
theorem Zdi : FOk Tryz.prog phi 816 Zh8 := fn_ok hm (D := Zh6) (DOk.cons Ztw (DOk.cons Zcv (DOk.cons Zai DOk.nil))) (by kernel_rfl) _ _ _ _
theorem Zkh : FOk Tryz.prog phi 817 Zd3 := fn_ok hm (D := Zbx) (DOk.cons Zo5 (DOk.cons Zjm (DOk.cons Zcv (DOk.cons Zdi (DOk.cons Zai DOk.nil))))) (by kernel_rfl) _ _ _ _
theorem Zx7 : FOk Tryz.prog phi 23 Zk8 := fn_ok hm (D := Zra) DOk.nil (by kernel_rfl) _ _ _ _
theorem Zhi : FOk Tryz.prog phi 813 Zdq := fn_ok hm (D := Zn9) (DOk.cons Zx7 DOk.nil) (by kernel_rfl) _ _ _ _
theorem Zwx : FOk Tryz.prog phi 735 Zjy := fn_ok hm (D := Zpj) (DOk.cons Zjm (DOk.cons Zhi (DOk.cons Zcv DOk.nil))) (by kernel_rfl) _ _ _ _
theorem Zso : FOk Tryz.prog phi 950 Zgt := Zqz Tryz.lays106 (by kernel_rfl)
theorem Zpo : FOk Tryz.prog phi 734 Zes := fn_ok hm (D := Zio) (DOk.cons Zso DOk.nil) (by kernel_rfl) _ _ _ _
theorem Ze3 : FOk Tryz.prog phi 736 Zfv := fn_ok hm (D := Zdt) (DOk.cons Zo5 (DOk.cons Zpo (DOk.cons Zwx (DOk.cons Zkh DOk.nil)))) (by kernel_rfl) _ _ _ _
section
open Go.Ab Go.Proofs
open Go.Maps
theorem rg_row : (58 : TypeId) < Tryz.prog.types.size := of_decide_eq_true (by kernel_rfl)
theorem Z89 : laidOutB Tryz.prog = true := by kernel_rfl
theorem rg_law : Keyed Tryz.prog 58 := Keyed.of_law (deep_law_laid Z89 (m := 2) (by omega) rg_row (by kernel_rfl) (by rw [Tryz.underlying58]))
theorem Zz7 : Tryz.prog.cellsOf 58 = 2 := by kernel_rfl
theorem Z6c : Tryz.prog.cellsOf 9 = 1 := by kernel_rfl
theorem Z5m : Tryz.prog.cellsOf 2 = 1 := by kernel_rfl
theorem rg_kt : Tryz.prog.keyType 58 = true := by kernel_rfl
theorem Z25 (w : World) : (zeroValue 4).run Tryz.prog w = .ok (.bool false) w := by kernel_rfl
theorem Z8s (d : Nat) (o : List UInt8) (ho : o.length ≤ 1048576) : Tryz.prog.keyLits (d + 1) 9 [.string ⟨o.toArray⟩] = some [.string o] := by
 have h1 : (ByteArray.mk o.toArray).size ≤ maxLen := Nat.le_trans (show (ByteArray.mk o.toArray).size ≤ 1048576 from ho) (by decide)
 unfold Program.keyLits
 rw [Tryz.underlying9]
 show (if (ByteArray.mk o.toArray).size ≤ maxLen then _ else _) = _
 rw [if_pos h1]
theorem Z8b (d : Nat) (a : Int) (ha : -1000000 ≤ a ∧ a ≤ 1000000) : Tryz.prog.keyLits (d + 1) 2 [.int .i64 a] = some [.int .i64 a] := by
 have h2 : (Lit.int .i64 a).wf = true := by simp [Lit.wf,IntKind.min,IntKind.max,IntKind.signed,IntKind.bits]; omega
 unfold Program.keyLits
 rw [Tryz.underlying2]
 show (if IntKind.i64 = IntKind.i64 ∧ (Lit.int .i64 a).wf = true then _ else _) = _
 rw [if_pos ⟨rfl,h2⟩]
theorem Z8v (d : Nat) (o : List UInt8) (a : Int) (ho : o.length ≤ 1048576) (ha : -1000000 ≤ a ∧ a ≤ 1000000) : Tryz.prog.keyLits (d + 2) 58 [.string ⟨o.toArray⟩,.int .i64 a] = some [.string o,.int .i64 a] := by
 have e1 := Z8s d o ho
 have e2 := Z8b d a ha
 unfold Program.keyLits
 rw [Tryz.underlying58]
 simp only [Zz7,List.length_cons,List.length_nil]
 rw [if_pos ⟨trivial,by kernel_rfl⟩]
 simp only [List.mapM_cons,List.mapM_nil,Z6c,Z5m,List.drop_zero,List.drop_succ_cons,List.take_succ_cons,List.take_zero,e1,e2]
 rfl
theorem rg_key (o : List UInt8) (a : Int) (ho : o.length ≤ 1048576) (ha : -1000000 ≤ a ∧ a ≤ 1000000) : keyOf Tryz.prog 58 (.agg #[.string ⟨o.toArray⟩,.int .i64 a]) = some (.string (keyBytes [.string o,.int .i64 a])) := by
 obtain ⟨d,hd⟩ : ∃ d,Tryz.prog.types.size + 1 = d + 2 := ⟨Tryz.prog.types.size - 1,by have : (58 : Nat) < Tryz.prog.types.size := rg_row; omega⟩
 have hf : (Value.agg #[.string ⟨o.toArray⟩,.int .i64 a]).formed Tryz.prog 58 = true := by simp [Value.formed,Tryz.underlying58,Zz7]
 unfold keyOf
 rw [Tryz.underlying58,rg_kt,hf,hd]
 simp only [Bool.and_self,if_true]
 show Option.map _ (Tryz.prog.keyLits (d + 2) 58 [.string ⟨o.toArray⟩,.int .i64 a]) = _
 rw [Z8v d o a ho ha]
 rfl
theorem Z0b : (Tryz.prog.info? 9).map (fun i => (i.zero,i.size,i.bytes)) = some (some (.string ⟨#[]⟩),1,16) := by kernel_rfl
set_option maxHeartbeats 3200000 in
theorem Zts : Z3w Tryz.prog 22 25 43 58 4 := ⟨⟨rg_law,fun p hp => rg_key p.1 p.2 hp.1 hp.2⟩,by
 intro φ gu gc un ct hu hc hU hC roles grants nm S hY w K vr vg hr hg hK hG
 show Calls Tryz.prog 22 #[vr,vg,.string ⟨nm.toArray⟩] w _
 have hkeys : RKeys Tryz.prog 58 := ⟨rg_law,fun p hp => rg_key p.1 p.2 hp.1 hp.2⟩
 unfold rtF at hY
 split at hY
 rotate_left
 ·cases hY
 rename_i hgl
 obtain ⟨ns,hun,hY1⟩ := Option.bind_eq_some_iff.1 hY
 clear hY
 split at hY1
 rotate_left
 ·cases hY1
 rename_i hnl
 obtain ⟨⟨ag,cg,rfl⟩,hgr⟩ := Z7b hg
 obtain ⟨iS,hiS,heS⟩ := Option.map_eq_some_iff.1 Z0b
 simp only [Prod.mk.injEq] at heS
 obtain ⟨zS,sS,bS⟩ := heS
 have hmm := @run_makeMap Tryz.prog
 have h0 := (hU roles nm ns hun).own (.cons _ _ _ _ hr (.cons _ _ _ _ (.str nm) .nil)) hK hG
 rw [hu] at h0
 go_enter Tryz.func22,Tryz.ntmps22
 go_wp2_with (fail)
 refine h0.mono ?_
 rintro e w1 ⟨a1,n1,c1,rfl,L1,⟨hz1,hpl,ob,hrep,hrange⟩⟩
 clear h0
 have hzA : (w1.alloc (.cells #[.string ⟨nm.toArray⟩] 9)).heap.size = w1.heap.size + 1 := by simp
 obtain ⟨ad,n2,c2,w2,bq,hrun,hz2,hos,hout,hfr,hbq,hbq2,hnames⟩ := Z82 (hrep.keepF (w' := w1.alloc (.cells #[.string ⟨nm.toArray⟩] 9)) fun b hb => Zaf _ _ (hrange b hb).2) (t := 28) Tryz.underlying28 hiS sS zS rfl (by rw [bS]; omega) (by omega) (x := nm) (Zbr _ _ rfl) rfl 1 28
 have hLa := L1.size
 have L2 : Lo w.heap.size w w2 := (L1.alloc L1.size _).trans ⟨hz2,fun b hb => hfr b (by omega) fun e => by have := (hrange b e).1; omega,hos,hout⟩
 have hbqS : w.heap.size ≤ bq := by
  rcases hbq with h | h
  ·exact (hrange bq h).1
  ·omega
 go_wp2_with (first | (at_builtin; refine Zd4 _ rfl _ _ _ _ rfl _ _ rfl rfl hrun ?_) | fail)
 have M0 := RMap.made w2 Tryz.prog 58 4
 have L3 : Lo w.heap.size w (w2.alloc (.map #[] 0)) := L2.alloc L2.size _
 have hL2s := L2.size
 have hz3 : (w2.alloc (.map #[] 0)).heap.size = w2.heap.size + 1 := by simp
 have hbk0 : (w2.alloc (.map #[] 0)).heap[bq]? = w2.heap[bq]? := Zaf _ _ hbq2
 clear hrun hrep hfr hbq hmm
 generalize hB : w2.heap.size = B at *
 go_loopw [10,11,21] (fun _ _ iv wr => ∃ (i n : Nat) (S' : List (List UInt8 × Int)),iv = .int .i64 i ∧ i ≤ grants.length ∧ rtG ct (ns ++ [nm]) (grants.drop i) S' = some S ∧ RMap Tryz.prog 58 4 wr B n S' ∧ n ≤ 1000 * i ∧ B < wr.heap.size ∧ wr.heap[bq]? = w2.heap[bq]? ∧ Lo w.heap.size w wr)
  (fun _ _ iv _ => ((grants.length : Int) - intOf iv).toNat)
 case atStart =>
  exact ⟨0,0,[],rfl,by omega,hY1,M0,by omega,by omega,hbk0,L3⟩
 case round =>
  clear hY1 M0 L3 hbk0 hz3
  obtain ⟨i,n,S',rfl,hi,hS',M,hn,hBl,hbk,L⟩ := hrel
  have hi9 : (i : Int) ≤ 1000 := by omega
  have hgl9 : (grants.length : Int) ≤ 1000 := by omega
  rcases Nat.lt_or_ge i grants.length with hlt | hge
  ·have hlt' : (i : Int) < (grants.length : Int) := by omega
   rw [List.drop_eq_getElem_cons hlt] at hS'
   obtain ⟨b,o,cap,e1,hKb,q1,q2,q3⟩ := hgr i grants[i] (List.getElem?_eq_getElem hlt)
   generalize grants[i] = g at hS' q1 q2 q3
   obtain ⟨g1,g2,g3,rfl⟩ : ∃ (g1 g2 : List UInt8) (g3 : Int),g = (g1,g2,g3,()) := ⟨g.1,g.2.1,g.2.2.1,rfl⟩
   injection e1 with e1 _ e2
   subst e1 e2
   have hbS := hK b hKb
   have q1' : wr.cell? ⟨b,o + i * 3,none⟩ = some (.string ⟨g1.toArray⟩) := by rw [show Value.string ⟨g1.toArray⟩ = encT g1 from rfl,← q1]; simp only [World.cell?,L.block b hbS]
   have q2' : wr.cell? ⟨b,o + i * 3 + 1,none⟩ = some (.string ⟨g2.toArray⟩) := by rw [show Value.string ⟨g2.toArray⟩ = encT g2 from rfl,← q2]; simp only [World.cell?,L.block b hbS]
   have q3' : wr.cell? ⟨b,o + i * 3 + 2,none⟩ = some (.int .i64 g3) := by rw [← q3]; simp only [World.cell?,L.block b hbS]
   clear q1 q2 q3
   unfold rtG at hS'
   split at hS'
   rotate_left
   ·cases hS'
   rename_i hsz
   have hg3 : g3 ≤ 1000 := hsz.2
   have hg2 : g2.length ≤ 1048576 := hsz.1
   obtain ⟨cb,hct,hS2⟩ := Option.bind_eq_some_iff.1 hS'
   clear hS'
   go_wp2_with (fail)
   have hx1 : (wr.alloc (.cells #[.string ⟨g1.toArray⟩,.string ⟨g2.toArray⟩,.int .i64 g3] 43)).heap[bq]? = w2.heap[bq]? := (Zaf _ _ (by omega)).trans hbk
   have hzx : (wr.alloc (.cells #[.string ⟨g1.toArray⟩,.string ⟨g2.toArray⟩,.int .i64 g3] 43)).heap.size = wr.heap.size + 1 := by simp
   have hLr := L.size
   have hold : ∀ c,c < wr.heap.size → (wr.alloc (.cells #[.string ⟨g1.toArray⟩,.string ⟨g2.toArray⟩,.int .i64 g3] 43)).heap[c]? = wr.heap[c]? := fun c hc => Zaf _ _ hc
   have hnew : (wr.alloc (.cells #[.string ⟨g1.toArray⟩,.string ⟨g2.toArray⟩,.int .i64 g3] 43)).heap[wr.heap.size]? = some (.cells #[.string ⟨g1.toArray⟩,.string ⟨g2.toArray⟩,.int .i64 g3] 43) := Zbr _ _ rfl
   have Lx : Lo w.heap.size w (wr.alloc (.cells #[.string ⟨g1.toArray⟩,.string ⟨g2.toArray⟩,.int .i64 g3] 43)) := L.alloc L.size _
   have hcall := (hC _ _ _ hct).truth (w := wr.alloc (.cells #[.string ⟨g1.toArray⟩,.string ⟨g2.toArray⟩,.int .i64 g3] 43)) (K := fun c => K c ∨ c = bq)
    (.cons _ _ _ _ (hnames.mono (fun c hc => by subst hc; exact hx1) fun c hc => .inr hc) (.cons _ _ _ _ (.str g1) .nil)) (fun c hc => by
      rcases hc with hc | hc
      ·have := hK c hc; omega
      ·omega) (hG.on (fun c hc => .inl hc) fun c hc => Lx.block c (hK c hc))
   rw [hc] at hcall
   refine hcall.mono ?_
   rintro e wy ⟨rfl,Ly⟩
   have hyb := Ly.block
   have hyz := Ly.size
   have Lw : Lo w.heap.size w wy := Lx.trans (Ly.mono (by omega))
   have My : RMap Tryz.prog 58 4 wy B n S' := M.keep ((hyb B (by omega)).trans (hold B hBl))
   have hxy : wy.heap[wr.heap.size]? = some (.cells #[.string ⟨g1.toArray⟩,.string ⟨g2.toArray⟩,.int .i64 g3] 43) := (hyb _ (by omega)).trans hnew
   have hby : wy.heap[bq]? = w2.heap[bq]? := (hyb bq (by omega)).trans hx1
   have hBx : B ≠ wr.heap.size := by omega
   generalize hBX : wr.heap.size = Bx at *
   clear hcall hnew hold hx1 Lx M L hbk hyb Ly
   cases cb with
   | false =>
     go_wp2_with (fail)
     exact ⟨⟨i + 1,n,S',rfl,by omega,hS2,My,by omega,by omega,hby,Lw⟩,by simp only [intOf]; omega⟩
   | true =>
     simp only [if_true] at hS2
     generalize hT : actsR g2 g3.toNat 1 S' = T at hS2
     go_wp2_with (fail)
     go_loopw [11] (fun av wz => ∃ (a : Int) (r n2 : Nat) (S2 : List (List UInt8 × Int)),av = .int .i64 a ∧ 1 ≤ a ∧ a + r = (g3.toNat : Int) + 1 ∧ actsR g2 r a S2 = T ∧ RMap Tryz.prog 58 4 wz B n2 S2 ∧ n2 + r ≤ n + 1000 ∧ (∀ c,c < wy.heap.size → c ≠ B → wz.heap[c]? = wy.heap[c]?) ∧ wy.heap.size ≤ wz.heap.size ∧ Lo w.heap.size w wz)
      (fun av _ => (g3 + 1 - intOf av).toNat)
     case atStart => exact ⟨1,g3.toNat,n,S',rfl,by omega,by omega,hT,My,by omega,fun c _ _ => rfl,Nat.le_refl _,Lw⟩
     case round =>
      obtain ⟨a,r,n2,S2,rfl,ha1,har,hact,M2,hn2,hfz,hzz,Lz⟩ := hrel
      have hxz : wr.heap[Bx]? = some (.cells #[.string ⟨g1.toArray⟩,.string ⟨g2.toArray⟩,.int .i64 g3] 43) := (hfz Bx (by omega) (Ne.symm hBx)).trans hxy
      have x1 : wr.cell? ⟨Bx,1,none⟩ = some (.string ⟨g2.toArray⟩) := by simp [World.cell?,hxz]
      have x2 : wr.cell? ⟨Bx,2,none⟩ = some (.int .i64 g3) := by simp [World.cell?,hxz]
      cases r with
      | succ r =>
        have hle : a ≤ g3 := by omega
        have ha9 : a ≤ 1000 := by omega
        have hp : rsm (g2,a) := ⟨hsz.1,by omega,by omega⟩
        have hmax : n2 < maxLen := Nat.lt_of_le_of_lt (show n2 ≤ 10000000 by omega) (by decide)
        go_wp2_with (first | (at_mapUpdate; refine Z2w rfl _ _ _ 59 rfl hkeys Tryz.underlying59 Tryz.underlying4 rfl M2 hmax hp rfl rfl ?_; intro wn hM3 hgr) | fail)
        have hgo : ∀ c,c < wr.heap.size → c ≠ B → wn.heap[c]? = wr.heap[c]? := fun c h1 h2 => hgr.block c h1 fun e => h2 (by cases e; rfl)
        have hgz : wr.heap.size ≤ wn.heap.size := hgr.size
        have Ln : Lo w.heap.size w wn := Lz.trans ⟨hgz,fun c hc => hgo c (by omega) (by omega),hgr.os,hgr.output⟩
        exact ⟨⟨a + 1,r,n2 + 1,insR S2 (g2,a),rfl,by omega,by omega,hact,hM3,by omega,fun c h1 h2 => (hgo c (by omega) h2).trans (hfz c h1 h2),by omega,Ln⟩,by simp only [intOf]; omega⟩
      | zero =>
        have hgt : ¬ a ≤ g3 := by omega
        have hact2 : S2 = T := hact
        subst hact2
        go_wp2_with (fail)
        exact ⟨⟨i + 1,n2,S2,rfl,by omega,hS2,M2,by omega,by omega,(hfz bq (by omega) (by omega)).trans hby,Lz⟩,by simp only [intOf]; omega⟩
  ·obtain rfl : i = grants.length := by omega
   rw [List.drop_length] at hS'
   cases hS'
   go_wp2_with (fail)
   go_ret
   exact ⟨_,_,rfl,L,hL2s,M⟩⟩
end
section
open Go.Ab Go.Proofs
set_option linter.unusedSimpArgs false
theorem Zw1 (S : List (List UInt8 × Int)) : ∀ rs : List rightE.ty,(rs.any fun x => !decide (rightP x ∈ S)) = !((rs.map rightP).all fun p => decide (p ∈ S))
 | [] => rfl
 | x :: t => by simp only [List.any_cons,List.map_cons,List.all_cons,Zw1 S t,Bool.not_and]
set_option maxHeartbeats 1600000 in
theorem rw_clo {W : World} {Bm b n : Nat} {S : List (List UInt8 × Int)} {o : List UInt8} {a : Int} (hm : W.cell? ⟨Bm,0,none⟩ = some (.map (some b))) (hBm : Bm < W.heap.size) (M : RMap Tryz.prog 58 4 W b n S) (hp : rsm (o,a)) :
 Calls Tryz.prog 42 #[.agg #[.string ⟨o.toArray⟩,.int .i64 a],.pointer (some ⟨Bm,0,none⟩)] W fun e W' => e = .returned (.bool (!decide ((o,a) ∈ S))) ∧ Lo W.heap.size W W' := by
 have hkeys : RKeys Tryz.prog 58 := ⟨rg_law,fun p hp => rg_key p.1 p.2 hp.1 hp.2⟩
 have M1 := M.keep (w' := W.alloc (.cells #[.string ⟨o.toArray⟩,.int .i64 a] 58)) (Zaf _ _ M.lt)
 have hlk : (Instr.lookup 59 (.map (some b)) (.agg #[.string ⟨o.toArray⟩,.int .i64 a]) false).run Tryz.prog (W.alloc (.cells #[.string ⟨o.toArray⟩,.int .i64 a] 58)) = .ok (.bool (decide ((o,a) ∈ S))) (W.alloc (.cells #[.string ⟨o.toArray⟩,.int .i64 a] 58)) :=
  M1.look hkeys (t := 59) Tryz.underlying59 Tryz.underlying4 (Z25 _) hp
 have hm' : (W.alloc (.cells #[.string ⟨o.toArray⟩,.int .i64 a] 58)).cell? ⟨Bm,0,none⟩ = some (.map (some b)) := by rw [← hm]; simp only [World.cell?,Zaf W (.cells #[.string ⟨o.toArray⟩,.int .i64 a] 58) hBm]
 have L : Lo W.heap.size W (W.alloc (.cells #[.string ⟨o.toArray⟩,.int .i64 a] 58)) := (Lo.refl _ _).alloc (Nat.le_refl _) _
 generalize decide ((o,a) ∈ S) = q at hlk ⊢
 clear M M1 hkeys hp
 go_enter Tryz.func42,Tryz.ntmps42
 go_wp2_with (fail)
 go_ret
 exact ⟨rfl,L⟩
set_option maxHeartbeats 1600000 in
theorem rw_idx {φ : Nat → Nat} {K : Nat → Prop} {w : World} {Bm b n : Nat} {S : List (List UInt8 × Int)} {xs : List rightE.ty} {v : Value} (hr : Rep φ w K v (.sl 2 (xs.map rightE.enc))) (hK : ∀ c,K c → c < w.heap.size) (hm : w.cell? ⟨Bm,0,none⟩ = some (.map (some b))) (hBm : Bm < w.heap.size)
 (M : RMap Tryz.prog 58 4 w b n S) (hl : xs.length ≤ 1000) (hsm : ∀ x,x ∈ xs → rsm (rightP x)) :
 Calls Tryz.prog 58 #[v,.func (.func 42) #[] #[.pointer (some ⟨Bm,0,none⟩)]] w fun e w' => ∃ k : Int,e = .returned (.int .i64 k) ∧ decide (k ≥ 0) = xs.any (fun x => !decide (rightP x ∈ S)) ∧ Lo w.heap.size w w' := by
 have eg : ∀ args w,(callFunc 42 args).run Tryz.prog w = .ok (.enter 42 args) w := enters_of Tryz.func42 (by kernel_rfl) rfl
 obtain ⟨⟨av,cv,rfl⟩,hat⟩ := Z62 hr
 have hMl := M.lt
 go_enter Tryz.func58,Tryz.ntmps58
 go_wp2_with (fail)
 go_loopw [5,8] (fun _ s8 wr => ∃ kk : Nat,kk ≤ xs.length ∧ s8 = .int .i64 kk ∧ Lo w.heap.size w wr ∧ Hid (∀ j (hj : j < xs.length),j < kk → rightP xs[j] ∈ S))
  (fun _ s8 _ => xs.length - (intOf s8).toNat)
 case atStart => exact ⟨0,Nat.zero_le _,rfl,Lo.refl _ _,fun j hj h => by omega⟩
 case round =>
  obtain ⟨kk,hkk,rfl,L1,A⟩ := hrel
  have hk9 : (kk : Int) ≤ 1000 := by omega
  by_cases hlt : kk < xs.length
  ·have hltz : (kk : Int) < (xs.length : Int) := by omega
   obtain ⟨b0,o0,cap,e1,hKb,q1,q2⟩ := hat kk xs[kk] (List.getElem?_eq_getElem hlt)
   injection e1 with e1 _ e2
   subst e1 e2
   have hsmk := hsm xs[kk] (List.getElem_mem hlt)
   have hA2 : Hid (rightP xs[kk] ∈ S → ∀ j (hj : j < xs.length),j < kk + 1 → rightP xs[j] ∈ S) := fun h j hj hj2 => by
    by_cases e : j = kk
    ·subst e; exact h
    ·exact A.out j hj (by omega)
   have hout : Hid (rightP xs[kk] ∉ S → xs.any (fun x => !decide (rightP x ∈ S)) = true) := fun h => List.any_eq_true.2 ⟨xs[kk],List.getElem_mem hlt,by simp [h]⟩
   have q1' : wr.cell? ⟨b0,o0 + kk * 2,none⟩ = some (.string ⟨xs[kk].1.toArray⟩) := by rw [show Value.string ⟨xs[kk].1.toArray⟩ = encT xs[kk].1 from rfl,← q1]; simp only [World.cell?,L1.block b0 (hK b0 hKb)]
   have q2' : wr.cell? ⟨b0,o0 + kk * 2 + 1,none⟩ = some (.int .i64 xs[kk].2.1) := by rw [← q2]; simp only [World.cell?,L1.block b0 (hK b0 hKb)]
   clear q1 q2 hat hsm A
   generalize xs[kk] = y at q1' q2' hA2 hout hsmk
   obtain ⟨o,a,rfl⟩ : ∃ (o : List UInt8) (a : Int),y = (o,a,()) := ⟨y.1,y.2.1,rfl⟩
   have hBr : wr.cell? ⟨Bm,0,none⟩ = some (.map (some b)) := by rw [← hm]; simp only [World.cell?,L1.block Bm hBm]
   have hcall := rw_clo (o := o) (a := a) hBr (Nat.lt_of_lt_of_le hBm L1.size) (M.keep (w' := wr) (L1.block b hMl)) hsmk
   clear hBr
   by_cases hq : (o,a) ∈ S
   ·rw [show (!decide ((o,a) ∈ S)) = false from by simp [hq]] at hcall
    go_wp2_with (go_at_fn 42; refine hcall.mono ?_; rintro e w' ⟨rfl,L2⟩)
    exact ⟨⟨kk + 1,hlt,rfl,L1.trans (L2.mono L1.size),hA2.out hq⟩,by simp only [intOf]; omega⟩
   ·rw [show (!decide ((o,a) ∈ S)) = true from by simp [hq]] at hcall
    go_wp2_with (go_at_fn 42; refine hcall.mono ?_; rintro e w' ⟨rfl,L2⟩)
    go_ret
    exact ⟨kk,rfl,by rw [hout.out hq]; simp,L1.trans (L2.mono L1.size)⟩
  ·obtain rfl : kk = xs.length := by omega
   have hltz : ¬ (xs.length : Int) < (xs.length : Int) := by omega
   have hd : Hid (xs.any (fun x => !decide (rightP x ∈ S)) = false) := by
    show _ = _
    rw [List.any_eq_false]
    intro x hx
    obtain ⟨j,hj,rfl⟩ := List.getElem_of_mem hx
    simp [A.out j hj hj]
   clear hat A hsm
   go_wp2_with (fail)
   go_ret
   exact ⟨-1,rfl,by rw [hd.out]; decide,L1⟩
theorem rw_con {φ : Nat → Nat} {K : Nat → Prop} {w : World} {Bm b n : Nat} {S : List (List UInt8 × Int)} {xs : List rightE.ty} {v : Value} (hr : Rep φ w K v (.sl 2 (xs.map rightE.enc))) (hK : ∀ c,K c → c < w.heap.size) (hm : w.cell? ⟨Bm,0,none⟩ = some (.map (some b))) (hBm : Bm < w.heap.size)
 (M : RMap Tryz.prog 58 4 w b n S) (hl : xs.length ≤ 1000) (hsm : ∀ x,x ∈ xs → rsm (rightP x)) :
 Calls Tryz.prog 41 #[v,.func (.func 42) #[] #[.pointer (some ⟨Bm,0,none⟩)]] w fun e w' => e = .returned (.bool (xs.any (fun x => !decide (rightP x ∈ S)))) ∧ Lo w.heap.size w w' := by
 have h := rw_idx hr hK hm hBm M hl hsm
 go_enter Tryz.func41,Tryz.ntmps41
 go_wp2_with (fail)
 go_at_call 58
 refine h.mono ?_
 rintro e w' ⟨k,rfl,hk,L⟩
 by_cases hk0 : k ≥ 0
 ·go_wp2_with (fail)
  go_ret
  exact ⟨by rw [← hk]; simp [hk0],L⟩
 ·go_wp2_with (fail)
  go_ret
  exact ⟨by rw [← hk]; simp [hk0],L⟩
set_option maxHeartbeats 3200000 in
theorem Z70 : Zrb Tryz.prog 21 25 43 := ⟨⟨_,Tryz.func21,by decide +kernel,rfl⟩,by
 intro φ gu gc un ct hu hc hU hC roles grants rs ys hY w K vr vg vs hr hg hs hK hG
 unfold rwF at hY
 split at hY
 rotate_left
 ·cases hY
 rename_i hcond
 obtain ⟨hrl,hsl,hsm0⟩ := hcond
 have hsm : ∀ x,x ∈ rs → rsm (rightP x) := fun x hx => by
  have := List.all_eq_true.1 hsm0 x hx
  simpa [rsm,rightP] using this
 clear hsm0
 have rt : ∀ (r : roleE.ty) (S : List (List UInt8 × Int)),rtF un ct roles grants r.1 = some S → ∀ W,Lo w.heap.size w W →
  Calls Tryz.prog 22 #[vr,vg,.string ⟨r.1.toArray⟩] W fun e W' => ∃ b n,e = .returned (.map (some b)) ∧ Lo w.heap.size w W' ∧ Lo W.heap.size W W' ∧ W.heap.size ≤ b ∧ RMap Tryz.prog 58 4 W' b n S := fun r S hS W hL => by
  have hz := hL.size
  refine (Zts.run φ gu gc un ct hu hc hU hC roles grants r.1 S hS W K vr vg (hr.mono (fun c hc => hL.block c (hK c hc)) fun _ h => h) (hg.mono (fun c hc => hL.block c (hK c hc)) fun _ h => h) (fun c hc => Nat.lt_of_lt_of_le (hK c hc) hz) (hG.on (fun _ h => h) fun c hc => hL.block c (hK c hc))).mono ?_
  rintro e W' ⟨b,n,h1,h2,h3,h4⟩
  exact ⟨b,n,h1,hL.trans (h2.mono hz),h2,h3,h4⟩
 clear hU hC hG
 obtain ⟨⟨av,cv,rfl⟩,hrow⟩ := Z8c hr
 obtain ⟨iS,hiS,heS⟩ := Option.map_eq_some_iff.1 Z0b
 simp only [Prod.mk.injEq] at heS
 obtain ⟨zS,sS,bS⟩ := heS
 go_enter Tryz.func21,Tryz.ntmps21
 go_wp2_with (fail)
 have L0 : Lo w.heap.size w (w.alloc (.cells #[] 9)) := (Lo.refl _ _).alloc (Nat.le_refl _) _
 have hrl9 : (roles.length : Int) ≤ 1000 := by omega
 go_loopw [7,9,10,14] (fun vo _ _ iv wr => ∃ (i : Nat) (out : List (List UInt8)) (ob : Option Nat),iv = .int .i64 i ∧ i ≤ roles.length ∧ rwG un ct roles grants (rs.map rightP) (roles.drop i) out = some ys ∧ VOwn wr 9 vo (out.map encT) ob ∧ out.length ≤ i ∧ (∀ c,ob = some c → w.heap.size ≤ c ∧ c < wr.heap.size) ∧ Lo w.heap.size w wr)
  (fun _ _ _ iv _ => ((roles.length : Int) - intOf iv).toNat)
 case atStart =>
  exact ⟨0,[],none,rfl,by omega,hY,.empty _,by simp,fun c hc => (by cases hc),L0⟩
 case round =>
  clear hY L0
  obtain ⟨i,out,ob,rfl,hi,hG2,V,hol,hob,L⟩ := hrel
  have hi9 : (i : Int) ≤ 1000 := by omega
  rcases Nat.lt_or_ge i roles.length with hlt | hge
  ·have hlt' : (i : Int) < (roles.length : Int) := by omega
   obtain ⟨b,o,cap,ur,e1,hKb,q1,q2,q3⟩ := hrow i roles[i] (List.getElem?_eq_getElem hlt)
   injection e1 with e1 _ e2
   subst e1 e2
   obtain ⟨ua,ul,uc,rfl⟩ : ∃ a n c,ur = Value.slice a n c := by
    generalize hz : (roles[i]).2.1.map strE.enc = zs at q3
    cases q3 with
    | slE => exact ⟨_,_,_,rfl⟩
    | sl => exact ⟨_,_,_,rfl⟩
   clear q3
   rw [List.drop_eq_getElem_cons hlt] at hG2
   have hbS := hK b hKb
   obtain ⟨S,hS,hG3⟩ := Option.bind_eq_some_iff.1 hG2
   clear hG2
   have rtS := rt roles[i] S hS
   have q1' : wr.cell? ⟨b,o + i * 2,none⟩ = some (.string ⟨roles[i].1.toArray⟩) := by rw [show Value.string ⟨roles[i].1.toArray⟩ = encT roles[i].1 from rfl,← q1]; simp only [World.cell?,L.block b hbS]
   have q2' : wr.cell? ⟨b,o + i * 2 + 1,none⟩ = some (.slice ua ul uc) := by rw [← q2]; simp only [World.cell?,L.block b hbS]
   clear q1 q2
   generalize roles[i] = r at hG3 rtS q1' q2'
   obtain ⟨r1,r2,rfl⟩ : ∃ (r1 : List UInt8) (r2 : List (List UInt8)),r = (r1,r2,()) := ⟨r.1,r.2.1,rfl⟩
   have hLr := L.size
   have Lx : Lo w.heap.size w (wr.alloc (.cells #[.string ⟨r1.toArray⟩,.slice ua ul uc] 35)) := L.alloc L.size _
   have hnew : (wr.alloc (.cells #[.string ⟨r1.toArray⟩,.slice ua ul uc] 35)).heap[wr.heap.size]? = some (.cells #[.string ⟨r1.toArray⟩,.slice ua ul uc] 35) := Zbr _ _ rfl
   have hzx : (wr.alloc (.cells #[.string ⟨r1.toArray⟩,.slice ua ul uc] 35)).heap.size = wr.heap.size + 1 := by simp
   have h0 := rtS _ Lx
   have Vx := V.keep (w' := wr.alloc (.cells #[.string ⟨r1.toArray⟩,.slice ua ul uc] 35)) fun c hc => Zaf _ _ (hob c hc).2
   go_wp2_with (fail)
   refine h0.mono ?_
   rintro e wy ⟨bm,n,rfl,L1,L1',hbm,M⟩
   have hyz := L1'.size
   have hyb := L1'.block
   have M2 := M.keep (w' := wy.alloc (.cells #[.map (some bm)] 59)) (Zaf _ _ M.lt)
   have Lz : Lo w.heap.size w (wy.alloc (.cells #[.map (some bm)] 59)) := L1.alloc (by omega) _
   have hnz : (wy.alloc (.cells #[.map (some bm)] 59)).heap[wy.heap.size]? = some (.cells #[.map (some bm)] 59) := Zbr _ _ rfl
   have hzz : (wy.alloc (.cells #[.map (some bm)] 59)).heap.size = wy.heap.size + 1 := by simp
   have hxz : (wy.alloc (.cells #[.map (some bm)] 59)).heap[wr.heap.size]? = some (.cells #[.string ⟨r1.toArray⟩,.slice ua ul uc] 35) := (Zaf _ _ (by omega)).trans ((hyb _ (by omega)).trans hnew)
   have Vz := (Vx.keep (w' := wy) fun c hc => hyb c (by have := (hob c hc).2; omega)).keep (w' := wy.alloc (.cells #[.map (some bm)] 59)) fun c hc => Zaf _ _ (by have := (hob c hc).2; omega)
   have hcon := rw_con (hs.mono (w' := wy.alloc (.cells #[.map (some bm)] 59)) (fun c hc => Lz.block c (hK c hc)) fun _ h => h) (fun c hc => by have := hK c hc; omega) (Bm := wy.heap.size) (by simp only [World.cell?,hnz]; rfl) (by omega) M2 hsl hsm
   go_wp2_with (fail)
   refine hcon.mono ?_
   rintro e wc ⟨rfl,Lc⟩
   have hcz := Lc.size
   have Lw : Lo w.heap.size w wc := Lz.trans (Lc.mono (by omega))
   have hxc : wc.heap[wr.heap.size]? = some (.cells #[.string ⟨r1.toArray⟩,.slice ua ul uc] 35) := (Lc.block _ (by omega)).trans hxz
   have Vc := Vz.keep (w' := wc) fun c hc => Lc.block c (by have := (hob c hc).2; omega)
   have hob2 : ∀ c,ob = some c → w.heap.size ≤ c ∧ c < wc.heap.size := fun c hc => by have := hob c hc; omega
   have hx0 : wc.cell? ⟨wr.heap.size,0,none⟩ = some (.string ⟨r1.toArray⟩) := by simp [World.cell?,hxc]
   have hany := Zw1 S rs
   rw [hany]
   clear hany hcon hnew hxz hnz M M2 Vz Vx L1 L1' Lz Lx rtS rt h0 hyb
   cases hall : (rs.map rightP).all fun p => decide (p ∈ S) with
   | false =>
     rw [hall] at hG3
     go_wp2_with (fail)
     exact ⟨⟨i + 1,out,ob,rfl,by omega,hG3,Vc,by omega,hob2,Lw⟩,by simp only [intOf]; omega⟩
   | true =>
     rw [hall] at hG3
     have Va := Vc.keep (w' := wc.alloc (.cells #[.string ⟨r1.toArray⟩] 9)) fun c hc => Zaf _ _ (hob2 c hc).2
     have hza : (wc.alloc (.cells #[.string ⟨r1.toArray⟩] 9)).heap.size = wc.heap.size + 1 := by simp
     have La : Lo w.heap.size w (wc.alloc (.cells #[.string ⟨r1.toArray⟩] 9)) := Lw.alloc Lw.size _
     obtain ⟨ad,n2,cp2,w7,ob',hrun,V7,hz7,hfr7,hob7,hos7,hout7⟩ := Va.app (t := 28) Tryz.underlying28 hiS sS zS rfl (by rw [bS]; omega) (by rw [List.length_map]; omega) (x := .string ⟨r1.toArray⟩) (Zbr _ _ rfl) rfl rfl 1 28
     have L7 : Lo w.heap.size w w7 := La.trans ⟨hz7,fun c hc => hfr7 c (by omega) fun e => by have := (hob2 c e).1; omega,hos7,hout7⟩
     go_wp2_with (first | (at_builtin; refine Zd4 _ rfl _ _ _ _ rfl _ _ rfl rfl hrun ?_) | fail)
     refine ⟨⟨i + 1,out ++ [r1],ob',rfl,by omega,hG3,by rw [List.map_append]; exact V7,by simp; omega,fun c hc => ?_,L7⟩,by simp only [intOf]; omega⟩
     rcases hob7 with h | ⟨q,h,h1,h2⟩
     ·have := hob2 c (h ▸ hc); omega
     ·rw [h] at hc; cases hc; omega
  ·obtain rfl : i = roles.length := by omega
   rw [List.drop_length] at hG2
   cases hG2
   obtain ⟨ad,n,cp,rfl⟩ := V.slice
   clear rt
   go_wp2_with (fail)
   go_ret
   exact ⟨_,_,_,rfl,L,V.textsD hob⟩⟩
end
theorem Zt5 : FOk Tryz.prog phi 745 Zhe := Z0d (g := 745) (gu := 816) (gc := 985) Z70 (by kernel_rfl) (fun r n y h => Zka Zdi h) (fun l x y h => Zdo Zai h)
theorem Zpr : FOk Tryz.prog phi 406 Zk5 := fn_ok hm (D := Zrg) (DOk.cons Ze3 (DOk.cons Zt5 (DOk.cons Zhi DOk.nil))) (by kernel_rfl) _ _ _ _
section
open Go.Shelf Go.Lib Go.Sort Go.Maps Go.Ab Go.Proofs
set_option maxHeartbeats 3200000 in
theorem Z7w : LrWalk Tryz.prog 7 6 25 43 := ⟨⟨_,Tryz.func7,by decide +kernel,rfl⟩,by
 intro φ gw gu gc wm un ct hw hu hc hW hU hC roles grants obj act best cd hY w K v1 v2 r1 r2 hK hG
 show Calls Tryz.prog 7 #[v1,v2,.string ⟨obj.toArray⟩,.int .i64 act] w _
 have up : ∀ {W : World} {v : Value} {x : A},Lo w.heap.size w W → Rep φ w K v x → Rep φ W K v x := fun hL h => h.mono (fun b hb => hL.block b (hK b hb)) fun b hb => hb
 have kb : ∀ {W : World},Lo w.heap.size w W → ∀ b,K b → b < W.heap.size := fun hL b hb => Nat.lt_of_lt_of_le (hK b hb) hL.size
 have gl : ∀ {W : World},Lo w.heap.size w W → Glob Tryz.prog K W := fun hL => hG.on (fun b hb => hb) fun b hb => hL.block b (hK b hb)
 unfold lrF at hY
 obtain ⟨⟨ns,c⟩,hwm,hY1⟩ := Option.bind_eq_some_iff.1 hY
 clear hY
 simp only at hwm hY1
 have cw : Calls Tryz.prog 6 #[v1,v2,.string ⟨obj.toArray⟩,.int .i64 act] w fun e w' => ∃ ad n cp,e = .returned (.tuple #[.slice ad n cp,.int .i64 c]) ∧ Lo w.heap.size w w' ∧ Rep φ w' (fun b => b < w'.heap.size) (.slice ad n cp) (.sl 1 (ns.map strE.enc)) := by
  have := (hW _ _ _ _ _ _ hwm).dataInt (w := w) (K := K) (vs := [v1,v2,.string ⟨obj.toArray⟩,.int .i64 act]) (.cons _ _ _ _ r1 (.cons _ _ _ _ r2 (.cons _ _ _ _ (.str obj) (.cons _ _ _ _ (.int _ _) .nil)))) hK hG
  rw [hw] at this; exact this
 by_cases hc0 : c ≠ 0
 ·rw [if_pos hc0] at hY1
  cases hY1
  clear up kb gl hU hC hW
  go_enter Tryz.func7,Tryz.ntmps7
  go_wp2_with (go_at_call 6; refine cw.mono ?_; rintro e w1 ⟨ad,n,cp,rfl,L1,_⟩)
  go_ret2
  exact ⟨rfl,L1⟩
 rw [if_neg hc0] at hY1
 obtain rfl : c = 0 := Decidable.not_not.1 hc0
 clear hc0
 split at hY1
 rotate_left
 ·cases hY1
 rename_i hnl
 obtain ⟨b0,hlr,hY2⟩ := Option.bind_eq_some_iff.1 hY1
 clear hY1
 have rt : ∀ {nm : List UInt8} {S : List (List UInt8 × Int)},rtF un ct roles grants nm = some S → ∀ W,Lo w.heap.size w W → Calls Tryz.prog 22 #[v1,v2,.string ⟨nm.toArray⟩] W fun r W' => ∃ b n,r = .returned (.map (some b)) ∧ Lo W.heap.size W W' ∧ RMap Tryz.prog 58 4 W' b n S := fun {nm S} hS W hL => by
  refine (Zts.run φ gu gc un ct hu hc hU hC roles grants nm S hS W K v1 v2 (up hL r1) (up hL r2) (kb hL) (gl hL)).mono ?_
  rintro e W' ⟨b,n,h1,h2,h3,h4⟩
  exact ⟨b,n,h1,h2,h4⟩
 clear up kb gl hU hC hW
 go_enter Tryz.func7,Tryz.ntmps7
 go_wp2_with (fail)
 refine cw.mono ?_
 rintro e w1 ⟨ad,nn,cp,rfl,L1,hns⟩
 clear cw
 obtain ⟨rfl,hat⟩ : nn = ns.length ∧ ∀ (i : Nat) (hi : i < ns.length),∃ b o,ad = some ⟨b,o,none⟩ ∧ b < w1.heap.size ∧ w1.cell? ⟨b,o + i,none⟩ = some (encT ns[i]) := by
  generalize hys : ns.map strE.enc = ys at hns
  cases hns with
  | slE ad c z =>
    have : ns = [] := by cases ns with | nil => rfl | cons => simp at hys
    subst this
    exact ⟨rfl,fun i hi => absurd hi (Nat.not_lt_zero _)⟩
  | sl b o c z ys us hb hzz hcc hrr hcells =>
    subst hys
    obtain rfl := Zxc hrr
    rw [List.length_map]
    refine ⟨rfl,fun i hi => ⟨b,o,rfl,hb,hcells i _ ?_⟩⟩
    rw [List.getElem?_map,List.getElem?_eq_getElem hi]; rfl
 clear hns
 have hnl9 : (ns.length : Int) ≤ 1000 := by omega
 go_wp2_with (fail)
 go_loopw [12,14,28] (fun bv _ iv wr => ∃ (i : Nat) (b1 : List UInt8),bv = .string ⟨b1.toArray⟩ ∧ iv = .int .i64 i ∧ i ≤ ns.length ∧ lrG un ct roles grants (ns.drop i) b1 = some b0 ∧ Lo w.heap.size w wr ∧ Lo w1.heap.size w1 wr)
  (fun _ _ iv _ => ((ns.length : Int) - intOf iv).toNat)
 case atStart => exact ⟨0,[],rfl,rfl,by omega,hlr,L1,Lo.refl _ _⟩
 case round =>
  obtain ⟨i,b1,rfl,rfl,hi,hg,L,L'⟩ := hrel
  have hi9 : (i : Int) ≤ 1000 := by omega
  rcases Nat.lt_or_ge i ns.length with hlt | hge
  ·have hlt' : (i : Int) < (ns.length : Int) := by omega
   rw [List.drop_eq_getElem_cons hlt] at hg
   obtain ⟨b,o,rfl,hb,hcell⟩ := hat i hlt
   have hc9 : wr.cell? ⟨b,o + i,none⟩ = some (.string ⟨(ns[i]).toArray⟩) := by
    rw [show Value.string ⟨(ns[i]).toArray⟩ = encT ns[i] from rfl,← hcell]; simp only [World.cell?,L'.block b hb]
   clear hat hcell
   generalize ns[i] = nm at hg hc9
   by_cases hb1 : b1 = []
   ·subst hb1
    rw [lrG,if_pos rfl] at hg
    go_wp2_with (fail)
    exact ⟨⟨i + 1,nm,rfl,rfl,by omega,hg,L,L'⟩,by simp only [intOf]; omega⟩
   ·rw [lrG,if_neg hb1] at hg
    have hbe : b1.isEmpty = false := by cases b1 with | nil => exact absurd rfl hb1 | cons => rfl
    obtain ⟨S,hS,hg1⟩ := Option.bind_eq_some_iff.1 hg
    obtain ⟨T,hT,hg2⟩ := Option.bind_eq_some_iff.1 hg1
    clear hg hg1
    have cA := rt hS wr L
    have hLs := L.size
    have hLs' := L'.size
    go_wp2_with (fail)
    refine cA.mono ?_
    rintro e wA ⟨ba,na,rfl,LA,MA⟩
    clear cA
    have LA1 := L.trans (LA.mono hLs)
    have LA2 := L'.trans (LA.mono hLs')
    have cB := rt hT wA LA1
    have hLa := LA.size
    have hlA := MA.len (t := 59) Tryz.underlying59 3
    clear MA rt hS hT
    go_wp2_with (fail)
    refine cB.mono ?_
    rintro e wB ⟨bb,nb,rfl,LB,MB⟩
    clear cB
    have LB1 := LA1.trans (LB.mono (by omega))
    have LB2 := LA2.trans (LB.mono (by omega))
    have hlB := MB.len (t := 59) Tryz.underlying59 3
    clear MB
    by_cases hST : S.length < T.length
    ·rw [if_pos hST] at hg2
     have h9 : (S.length : Int) < (T.length : Int) := by omega
     go_wp2_with (fail)
     exact ⟨⟨i + 1,nm,rfl,rfl,by omega,hg2,LB1,LB2⟩,by simp only [intOf]; omega⟩
    ·rw [if_neg hST] at hg2
     have h9 : ¬ (S.length : Int) < (T.length : Int) := by omega
     go_wp2_with (fail)
     exact ⟨⟨i + 1,b1,rfl,rfl,by omega,hg2,LB1,LB2⟩,by simp only [intOf]; omega⟩
  ·have hge' : ¬ (i : Int) < (ns.length : Int) := by omega
   rw [List.drop_eq_nil_of_le (by omega)] at hg
   cases hg
   by_cases hb0 : b0 = []
   ·subst hb0
    rw [if_pos rfl] at hY2
    cases hY2
    go_wp2_with (fail)
    go_ret2
    exact ⟨rfl,L⟩
   ·rw [if_neg hb0] at hY2
    cases hY2
    have hbe : best.isEmpty = false := by cases best with | nil => exact absurd rfl hb0 | cons => rfl
    go_wp2_with (fail)
    go_ret2
    exact ⟨rfl,L⟩⟩
end
theorem Zuf : FOk Tryz.prog phi 405 Zhp := lr_ok (g := 405) (gw := 406) (gu := 816) (gc := 985) Z7w (by kernel_rfl) (fun r g o a y c h => Z4x Zpr h) (fun r n y h => Zka Zdi h) (fun l x y h => Zdo Zai h)
section
open Go.Shelf Go.Lib Go.Sort Go.Maps Go.Ab Go.Proofs
set_option maxHeartbeats 1600000 in
theorem Z8d : IaWalk Tryz.prog 8 19 23 25 43 := ⟨⟨_,Tryz.func8,by decide +kernel,rfl⟩,by
 intro φ gv gr gu gc vg ro un ct hv hr hu hc hV hR hU hC roles grants nm obj act y hY w K v1 v2 r1 r2 hK hG
 show Calls Tryz.prog 8 #[v1,v2,.string ⟨nm.toArray⟩,.string ⟨obj.toArray⟩,.int .i64 act] w _
 have hkeys : RKeys Tryz.prog 58 := ⟨rg_law,fun p hp => rg_key p.1 p.2 hp.1 hp.2⟩
 have up : ∀ {W : World} {v : Value} {x : A},Lo w.heap.size w W → Rep φ w K v x → Rep φ W K v x := fun hL h => h.mono (fun b hb => hL.block b (hK b hb)) fun b hb => hb
 have kb : ∀ {W : World},Lo w.heap.size w W → ∀ b,K b → b < W.heap.size := fun hL b hb => Nat.lt_of_lt_of_le (hK b hb) hL.size
 have gl : ∀ {W : World},Lo w.heap.size w W → Glob Tryz.prog K W := fun hL => hG.on (fun b hb => hb) fun b hb => hL.block b (hK b hb)
 unfold iaF at hY
 obtain ⟨bv,hbv,hY1⟩ := Option.bind_eq_some_iff.1 hY
 clear hY
 have cv : Calls Tryz.prog 19 #[v1,v2] w fun e w' => e = .returned (.bool bv) ∧ Lo w.heap.size w w' := by
  have := (hV _ _ _ hbv).bool (.cons _ _ _ _ r1 (.cons _ _ _ _ r2 .nil)) hK hG
  rw [hv] at this; exact this
 cases bv with
 | false =>
   cases hY1
   clear up kb gl hU hC hV hR
   go_enter Tryz.func8,Tryz.ntmps8
   go_wp2_with (go_at_call 19; refine cv.mono ?_; rintro e w1 ⟨rfl,L1⟩)
   go_ret
   exact ⟨rfl,L1⟩
 | true =>
   simp only [if_true] at hY1
   obtain ⟨r,hr0,hY2⟩ := Option.bind_eq_some_iff.1 hY1
   clear hY1
   have cr : ∀ W,Lo w.heap.size w W → Calls Tryz.prog 23 #[v1,.string ⟨nm.toArray⟩] W fun e w' => e = .returned (.int .i64 r) ∧ Lo W.heap.size W w' := fun W hL => by
    have := (hR _ _ _ hr0).num (w := W) (K := K) (vs := [v1,.string ⟨nm.toArray⟩]) (.cons _ _ _ _ (up hL r1) (.cons _ _ _ _ (.str nm) .nil)) (kb hL) (gl hL)
    rw [hr] at this; exact this
   by_cases h0 : 0 ≤ r
   ·rw [if_pos h0] at hY2
    obtain ⟨S,hS,hY3⟩ := Option.bind_eq_some_iff.1 hY2
    clear hY2
    split at hY3
    rotate_left
    ·cases hY3
    rename_i hsm
    cases hY3
    have rt : ∀ W,Lo w.heap.size w W → Calls Tryz.prog 22 #[v1,v2,.string ⟨nm.toArray⟩] W fun r W' => ∃ b n,r = .returned (.map (some b)) ∧ Lo W.heap.size W W' ∧ RMap Tryz.prog 58 4 W' b n S := fun W hL => by
     refine (Zts.run φ gu gc un ct hu hc hU hC roles grants nm S hS W K v1 v2 (up hL r1) (up hL r2) (kb hL) (gl hL)).mono ?_
     rintro e W' ⟨b,n,h1,h2,h3,h4⟩
     exact ⟨b,n,h1,h2,h4⟩
    clear up kb gl hU hC hV hR
    go_enter Tryz.func8,Tryz.ntmps8
    go_wp2_with (go_at_call 19; refine cv.mono ?_; rintro e w1 ⟨rfl,L1⟩)
    go_at_call 23
    refine (cr _ L1).mono ?_
    rintro e w2 ⟨rfl,L2⟩
    replace L2 := L1.trans (L2.mono L1.size)
    have hr9 : r ≥ 0 := h0
    go_wp2_with (fail)
    go_at_call 22
    refine (rt _ L2).mono ?_
    rintro e w3 ⟨b,n,rfl,L3,M⟩
    replace L3 := L2.trans (L3.mono L2.size)
    have hlk : (Instr.lookup 59 (.map (some b)) (.agg #[.string ⟨obj.toArray⟩,.int .i64 act]) false).run Tryz.prog w3 = .ok (.bool (decide ((obj,act) ∈ S))) w3 :=
     M.look hkeys (t := 59) Tryz.underlying59 Tryz.underlying4 (Z25 _) (p := (obj,act)) hsm
    generalize hq : decide ((obj,act) ∈ S) = q at hlk
    clear M hkeys rt cr cv hsm
    go_wp2_with (fail)
    go_ret
    exact ⟨by rw [hq]; rfl,L3⟩
   ·rw [if_neg h0] at hY2
    cases hY2
    clear up kb gl hU hC hV hR
    go_enter Tryz.func8,Tryz.ntmps8
    go_wp2_with (go_at_call 19; refine cv.mono ?_; rintro e w1 ⟨rfl,L1⟩)
    go_at_call 23
    refine (cr _ L1).mono ?_
    rintro e w2 ⟨rfl,L2⟩
    replace L2 := L1.trans (L2.mono L1.size)
    have hr9 : r < 0 := by omega
    go_wp2_with (fail)
    go_ret
    exact ⟨rfl,L2⟩⟩
end
theorem Zru : FOk Tryz.prog phi 399 Zfe := ia_ok (g := 399) (gv := 736) (gr := 815) (gu := 816) (gc := 985) Z8d (by kernel_rfl) (fun r g y h => Zdo Ze3 h) (fun r n y h => Zdo Zcv h) (fun r n y h => Zka Zdi h) (fun l x y h => Zdo Zai h)
theorem Zt4 : FOk Tryz.prog phi 232 Zg5 := fn_ok hm (D := Zg9) DOk.nil (by kernel_rfl) _ _ _ _
theorem Zsr : FOk Tryz.prog phi 404 Zgi := fn_ok hm (D := Zlo) (DOk.cons Zcv (DOk.cons Zdi (DOk.cons Zkh DOk.nil))) (by kernel_rfl) _ _ _ _
theorem Zrm : FOk Tryz.prog phi 818 Zfm := fn_ok hm (D := Zkc) (DOk.cons Zde DOk.nil) (by kernel_rfl) _ _ _ _
theorem Zp8 : FOk Tryz.prog phi 403 Ze5 := fn_ok hm (D := Zjg) (DOk.cons Zod (DOk.cons Zn6 (DOk.cons Zrm DOk.nil))) (by kernel_rfl) _ _ _ _
section
open Go.Shelf Go.Lib Go.Sort Go.Maps Go.Ab Go.Proofs
instance : Inhabited RtA := ⟨⟨([],0),by unfold rsm; decide⟩⟩
def encA (nm : List UInt8) (p : RtA) : List Value := [encT nm,encT p.1.1,.int .i64 p.1.2]
def cfA (x y : RtA) : Int := cmpP x.1 y.1
theorem Z3r : ∀ x : List UInt8,Lib.compareBytes x x = 0
 | [] => rfl
 | a :: x => by rw [Lib.compareBytes]; simp [Z3r x]
set_option maxHeartbeats 1600000 in
theorem ro_cmp (hsc : ∀ (a b : ByteArray) (W : World),Calls Tryz.prog 49 #[.string a,.string b] W fun e w' => e = .returned (.int .i64 (Lib.compareBytes a.data.toList b.data.toList)) ∧ w' = W) (nm : List UInt8) (x y : RtA) (W : World) :
 Calls Tryz.prog 28 #[.agg (encA nm x).toArray,.agg (encA nm y).toArray] W fun e w' => e = .returned (.int .i64 (cfA x y)) ∧ ∃ q os',w' = grow (W.drewN q) os' := by
 obtain ⟨⟨o,a⟩,hx⟩ := x
 obtain ⟨⟨o',a'⟩,hy⟩ := y
 show Calls Tryz.prog 28 #[.agg #[.string ⟨nm.toArray⟩,.string ⟨o.toArray⟩,.int .i64 a],.agg #[.string ⟨nm.toArray⟩,.string ⟨o'.toArray⟩,.int .i64 a']] W fun e w' => e = .returned (.int .i64 (if Lib.compareBytes o o' ≠ 0 then Lib.compareBytes o o' else a - a')) ∧ ∃ q os',w' = grow (W.drewN q) os'
 have h1 : ∀ W,Calls Tryz.prog 49 #[.string ⟨nm.toArray⟩,.string ⟨nm.toArray⟩] W fun e w' => e = .returned (.int .i64 0) ∧ w' = W := fun W => by
  have := hsc ⟨nm.toArray⟩ ⟨nm.toArray⟩ W
  rw [Z3r] at this; exact this
 have h2 : ∀ W,Calls Tryz.prog 49 #[.string ⟨o.toArray⟩,.string ⟨o'.toArray⟩] W fun e w' => e = .returned (.int .i64 (Lib.compareBytes o o')) ∧ w' = W := fun W => by
  have := hsc ⟨o.toArray⟩ ⟨o'.toArray⟩ W
  simpa using this
 obtain ⟨_,b1,b2⟩ := hx
 obtain ⟨_,b3,b4⟩ := hy
 have b1 : -1000000 ≤ a := b1
 have b2 : a ≤ 1000000 := b2
 have b3 : -1000000 ≤ a' := b3
 have b4 : a' ≤ 1000000 := b4
 generalize Lib.compareBytes o o' = c at h2 ⊢
 clear hsc
 go_enter Tryz.func28,Tryz.ntmps28
 go_wp2_with (fail)
 go_at_call 49
 refine (h1 _).mono ?_
 rintro e w1 ⟨rfl,hq⟩
 subst hq
 clear h1
 go_wp2_with (fail)
 go_at_call 49
 refine (h2 _).mono ?_
 rintro e w2 ⟨rfl,hq⟩
 subst hq
 clear h2
 by_cases hc : c = 0
 ·subst hc
  go_wp2_with (fail)
  go_ret
  exact ⟨by simp,0,_,by rw [alloc_eq_grow,alloc_eq_grow,grow_grow]; rfl⟩
 ·go_wp2_with (fail)
  go_ret
  exact ⟨by simp,0,_,by rw [alloc_eq_grow,alloc_eq_grow,grow_grow]; rfl⟩
theorem ro_lt (x y : RtA) : ltOf cfA x y = decide (cmpP x.1 y.1 < 0) := rfl
theorem ro_swo : SWO (ltOf cfA) where
 irrefl x := by rw [ro_lt,decide_eq_false_iff_not]; exact Zo4 _
 trans x y z h1 h2 := by rw [ro_lt,decide_eq_true_eq] at *; exact Zf8 h1 h2
 ntrans x y z h1 h2 := by
  rw [ro_lt,decide_eq_false_iff_not] at *
  intro h3
  rcases Zjk y.1 z.1 with k | k | k
  ·exact h2 k
  ·rw [← k] at h3; exact h1 h3
  ·exact h1 (Zf8 h3 k)
theorem Z8h (x y : RtA) (h1 : ltOf cfA x y = false) (h2 : ltOf cfA y x = false) : x = y := by
 rw [ro_lt,decide_eq_false_iff_not] at *
 rcases Zjk x.1 y.1 with k | k | k
 ·exact absurd k h1
 ·exact Subtype.ext k
 ·exact absurd k h2
theorem Zyd (nm : List UInt8) : ∀ (ps : List RtA) (t : Nat),t < ps.length * 3 → (ps.flatMap (encA nm))[t]? = some ((encA nm ps.toArray[t / 3]!)[t % 3]!)
 | [],t,h => by simp at h
 | p :: ps,t,h => by
   rw [List.flatMap_cons]
   rcases Nat.lt_or_ge t 3 with hlt | hge
   ·have hl : (encA nm p).length = 3 := rfl
    rw [List.getElem?_append_left (by omega)]
    have e0 : t / 3 = 0 := by omega
    have e1 : t % 3 = t := by omega
    rw [e0,e1]
    match t,hlt with
    | 0,_ => rfl
    | 1,_ => rfl
    | 2,_ => rfl
   ·have hl : (encA nm p).length = 3 := rfl
    rw [List.length_cons] at h
    rw [List.getElem?_append_right (by omega),hl,Zyd nm ps (t - 3) (by omega)]
    obtain ⟨u,rfl⟩ : ∃ u,t = u + 3 := ⟨t - 3,by omega⟩
    have e0 : (u + 3) / 3 = u / 3 + 1 := by omega
    have e1 : (u + 3) % 3 = u % 3 := by omega
    rw [Nat.add_sub_cancel,e0,e1]
    have e2 : (p :: ps).toArray[u / 3 + 1]! = ps.toArray[u / 3]! := by
     rw [List.getElem!_toArray,List.getElem!_toArray]
     rfl
    rw [e2]
theorem Z3a (nm : List UInt8) : ∀ ps : List RtA,(ps.flatMap (encA nm)).length = ps.length * 3
 | [] => rfl
 | p :: ps => by rw [List.flatMap_cons,List.length_append,Z3a nm ps,List.length_cons]; show 3 + _ = _; omega
theorem Z0m {nm : List UInt8} {w : World} {g : Nat} {cur : Array Value} {e : TypeId} {ps : List RtA} (hb : w.heap[g]? = some (.cells cur e (0,0))) (h : cur.toList.take (ps.length * 3) = ps.flatMap (encA nm)) : HoldsK (encA nm) 3 w g 0 ps.toArray := by
 intro j hj
 have hj' : j < ps.length * 3 := by rw [size_flatK,List.size_toArray] at hj; exact hj
 refine ⟨?_,by simp [World.frozen?,hb]⟩
 rw [get_flatK _ _ _ _ (by rw [List.size_toArray]; exact hj')]
 have h1 := Zyd nm ps j hj'
 rw [← h,List.getElem?_take_of_lt hj'] at h1
 simp only [World.cell?,hb,Nat.zero_add,id]
 rw [← h1]; simp
theorem Z7d {nm : List UInt8} {w : World} {g : Nat} {ps : List RtA} (h : HoldsK (encA nm) 3 w g 0 ps.toArray) : Cells w g 0 (ps.flatMap (encA nm)) := by
 intro j u hj
 have hl : j < ps.length * 3 := by
  rw [← Z3a nm ps]
  rcases Nat.lt_or_ge j (ps.flatMap (encA nm)).length with h | h
  ·exact h
  ·rw [List.getElem?_eq_none h] at hj; cases hj
 rw [Zyd nm ps j hl] at hj
 cases hj
 have h1 := (h j (by rw [size_flatK,List.size_toArray]; exact hl)).1
 rw [get_flatK _ _ _ _ (by rw [List.size_toArray]; exact hl)] at h1
 exact h1
theorem Z23 {φ : Nat → Nat} {w : World} {K : Nat → Prop} (nm : List UInt8) : ∀ ps : List RtA,Reps φ w K (ps.flatMap (encA nm)) (((ps.map fun p => ((nm,p.1.1,p.1.2,()) : grantE.ty)).map grantE.enc).flatMap A.cells)
 | [] => .nil
 | p :: ps => .cons _ _ _ _ (.str nm) (.cons _ _ _ _ (.str p.1.1) (.cons _ _ _ _ (.int _ _) (Z23 nm ps)))
theorem Z80 : (Tryz.prog.info? 43).map (fun i => (i.zero,i.size,i.bytes)) = some (some (.agg #[.string ⟨#[]⟩,.string ⟨#[]⟩,.int .i64 0]),3,40) := by kernel_rfl
theorem Z71 (w : World) (C : List Value) (t : TypeId) : ∀ j u,C[j]? = some u → (w.alloc (.cells C.toArray t)).cell? ((⟨w.heap.size,0,none⟩ : Addr).add j) = some u := fun j u hj => by
 have h := Zbr w (.cells C.toArray t) rfl
 rw [World.cell?_add]
 simp only [World.cell?,h,Nat.zero_add]
 rw [List.getElem?_toArray]; exact hj
theorem Z0a {w : World} {enc : RtA → List Value} {g n : Nat} {os : Array Obj} (d : Array RtA) : w.grownBy (sortWorldK enc 3 w g 0 n d os) (some g) := by
 refine ⟨rfl,rfl,rfl,by simp [sortWorldK,grow,putRowK,putRow,mapBlock,Sort.ahead],fun k hk hne => ?_⟩
 unfold sortWorldK
 rw [heap_grow_old _ _ (by simpa [putRowK,putRow,mapBlock,Sort.ahead] using hk)]
 have : g ≠ k := fun e => hne (by rw [e])
 simp [putRowK,putRow,mapBlock,Sort.ahead,Array.getElem?_modify,this]
theorem Z40 {w : World} {b n : Nat} {D : DataW Unit} {R : Value → Option (DataW Unit × List MemPlace)} {base : Nat} {v : Value} {m : Nat} {xs : List Value}
 (hr : w.ownsRow base 43 3 v m xs) (ho : w.ownsMap Tryz.prog 58 R b n D) : some b ≠ v.ownBlock := by
 intro h
 rcases hr.2 with ⟨rfl,_⟩ | ⟨g,cap,cur,rfl,_,hb,_⟩
 ·simp [Value.ownBlock] at h
 ·simp [Value.ownBlock] at h
  subst h
  obtain ⟨es,clock,hm,_⟩ := ho
  rw [hb] at hm
  cases hm
set_option maxHeartbeats 6400000 in
theorem Z8u (hsc : ∀ (a b : ByteArray) (W : World),Calls Tryz.prog 49 #[.string a,.string b] W fun e w' => e = .returned (.int .i64 (Lib.compareBytes a.data.toList b.data.toList)) ∧ w' = W)
 (hsort : ∀ (nm : List UInt8) (g cap : Nat) (d : Array RtA) (W : World),HoldsK (encA nm) 3 W g 0 d → g < W.heap.size → d.size < 4611686018427387904 → CmpLays Tryz.prog 28 #[] (encA nm) 3 cfA g 0 d.size W →
   Calls Tryz.prog 27 #[.slice (some ⟨g,0,none⟩) d.size cap,.func (.func 28) #[] #[]] W fun e w' => e = .returned (.tuple #[]) ∧ ∃ d' n os,PermIn 0 d.size d d' ∧ SortedIn (ltOf cfA) 0 d.size d' ∧ w' = sortWorldK (encA nm) 3 W g 0 n d' os) :
 RoWalk Tryz.prog 12 19 23 25 43 := ⟨⟨_,Tryz.func12,by decide +kernel,rfl⟩,by
 intro φ gv gr gu gc vg ro un ct hv hr hu hc hV hR hU hC roles grants nm ys cd hY w K v1 v2 r1 r2 hK hG
 show Calls Tryz.prog 12 #[v1,v2,.string ⟨nm.toArray⟩] w _
 have hkeys : RKeys Tryz.prog 58 := ⟨rg_law,fun p hp => rg_key p.1 p.2 hp.1 hp.2⟩
 have up : ∀ {W : World} {v : Value} {x : A},Lo w.heap.size w W → Rep φ w K v x → Rep φ W K v x := fun hL h => h.mono (fun b hb => hL.block b (hK b hb)) fun b hb => hb
 have kb : ∀ {W : World},Lo w.heap.size w W → ∀ b,K b → b < W.heap.size := fun hL b hb => Nat.lt_of_lt_of_le (hK b hb) hL.size
 have gl : ∀ {W : World},Lo w.heap.size w W → Glob Tryz.prog K W := fun hL => hG.on (fun b hb => hb) fun b hb => hL.block b (hK b hb)
 unfold roF at hY
 obtain ⟨bv,hbv,hY1⟩ := Option.bind_eq_some_iff.1 hY
 clear hY
 have cv : Calls Tryz.prog 19 #[v1,v2] w fun e w' => e = .returned (.bool bv) ∧ Lo w.heap.size w w' := by
  have := (hV _ _ _ hbv).bool (.cons _ _ _ _ r1 (.cons _ _ _ _ r2 .nil)) hK hG
  rw [hv] at this; exact this
 cases bv with
 | false =>
   cases hY1
   clear up kb gl hU hC hV hR hsort hsc
   go_enter Tryz.func12,Tryz.ntmps12
   go_wp2_with (go_at_call 19; refine cv.mono ?_; rintro e w1 ⟨rfl,L1⟩)
   go_ret2
   exact ⟨none,0,0,rfl,L1,.slE none 0 3⟩
 | true =>
   simp only [if_true] at hY1
   obtain ⟨r,hr0,hY2⟩ := Option.bind_eq_some_iff.1 hY1
   clear hY1
   have cr : ∀ W,Lo w.heap.size w W → Calls Tryz.prog 23 #[v1,.string ⟨nm.toArray⟩] W fun e w' => e = .returned (.int .i64 r) ∧ Lo W.heap.size W w' := fun W hL => by
    have := (hR _ _ _ hr0).num (w := W) (K := K) (vs := [v1,.string ⟨nm.toArray⟩]) (.cons _ _ _ _ (up hL r1) (.cons _ _ _ _ (.str nm) .nil)) (kb hL) (gl hL)
    rw [hr] at this; exact this
   by_cases h0 : 0 ≤ r
   ·rw [if_pos h0] at hY2
    obtain ⟨S,hS,hY3⟩ := Option.bind_eq_some_iff.1 hY2
    clear hY2
    split at hY3
    rotate_left
    ·cases hY3
    rename_i hSl
    cases hY3
    have rt : ∀ W,Lo w.heap.size w W → Calls Tryz.prog 22 #[v1,v2,.string ⟨nm.toArray⟩] W fun r W' => ∃ b n,r = .returned (.map (some b)) ∧ Lo W.heap.size W W' ∧ RMap Tryz.prog 58 4 W' b n S := fun W hL => by
     refine (Zts.run φ gu gc un ct hu hc hU hC roles grants nm S hS W K v1 v2 (up hL r1) (up hL r2) (kb hL) (gl hL)).mono ?_
     rintro e W' ⟨b,n,h1,h2,h3,h4⟩
     exact ⟨b,n,h1,h2,h4⟩
    clear up kb gl hU hC hV hR r1 r2
    obtain ⟨i0,hi,he⟩ := Option.map_eq_some_iff.1 Z80
    simp only [Prod.mk.injEq] at he
    obtain ⟨hz0,hz1,hz2⟩ := he
    go_enter Tryz.func12,Tryz.ntmps12
    go_wp2_with (go_at_call 19; refine cv.mono ?_; rintro e w1 ⟨rfl,L1⟩)
    go_at_call 23
    refine (cr _ L1).mono ?_
    rintro e w2 ⟨rfl,L2⟩
    replace L2 := L1.trans (L2.mono L1.size)
    have hr9 : ¬ r < 0 := by omega
    go_wp2_with (fail)
    have L2a : Lo w.heap.size w (w2.alloc (.cells #[] 43)) := L2.alloc L2.size _
    have hL2s := L2.size
    go_at_call 22
    refine (rt _ L2a).mono ?_
    rintro e w3 ⟨bM,nM,rfl,L3,M⟩
    have hzA : (w2.alloc (.cells #[] 43)).heap.size = w2.heap.size + 1 := by simp
    have hL3s := L3.size
    have hc1 : w3.heap[w2.heap.size]? = some (.cells #[] 43) := (L3.block w2.heap.size (by omega)).trans (Zbr _ _ rfl)
    have Lb := L2a.trans (L3.mono (by omega))
    obtain ⟨D,hown,htd,hnd,hsm,hsz,hch⟩ := M
    have hr0' : w3.ownsRow w.heap.size 43 3 (.slice (some ⟨w2.heap.size,0,none⟩) 0 0) 0 [] := ⟨rfl,.inr ⟨w2.heap.size,0,#[],rfl,hL2s,hc1,Nat.le_refl _,Nat.zero_le _,rfl,rfl⟩⟩
    have hLbs := Lb.size
    clear cr cv rt L1 L2 L2a L3 hzA hc1 hS
    go_wp2_with (first
     | (at_range; refine wpList_range_own _ rfl _ 59 rfl 58 4 rg_law Tryz.underlying59 _ bM nM _ rfl hown ?_; intro w4 hrg0 hg0 hs0)
     | go_in)
    go_frame
    go_loopw [8] (fun v wr => ∃ (left : Lit → Bool) (cnt : Nat) (ps : List RtA),wr.ranges Tryz.prog 58 (plainElem Tryz.prog 4) bM w3.heap.size nM D left cnt ∧ ps.length + cnt ≤ Maps.size D ∧
     wr.ownsRow w.heap.size 43 3 v ps.length (ps.flatMap (encA nm)) ∧ v ≠ .slice none 0 0 ∧ CollR D left ps ∧ Lo w.heap.size w wr)
     (fun _ wr => wr.rangeLeft bM w3.heap.size)
    case atStart =>
     exact ⟨_,_,[],hrg0,by simp,hr0'.kept hg0 (Or.inr (by simp [Value.ownBlock])),by simp,CollR.start D,Lb.grown hg0 hLbs (fun j hj => by cases hj)⟩
    case round =>
     obtain ⟨left,cnt,ps,hrg,hcs,hrow,hnn,hC,L⟩ := hrel
     have hLs := L.size
     go_wp2_with (first
      | (at_next; refine wpList_next_ranges _ rfl _ rfl 58 rg_law (plainElem Tryz.prog 4) (id : Value → Value) (id : Value → Value) (fun key kl hk => ⟨key,rfl⟩) (fun v y hv => ⟨v,rfl⟩) bM w3.heap.size nM _ _ _ rfl hrg ?_ ?_)
      | go_in)
     ·intro hc0 hl0
      have hperm := hC.perm hl0 hnd hsm hch
      have hlen : Hid (ps.length = S.length) := by have := hperm.length_eq; rwa [List.length_map] at this
      rcases hrow.2 with ⟨hnil,_⟩ | ⟨g,cap,cur,rfl,hbase,hb,h1,h2,h3,h4⟩
      ·exact absurd hnil hnn
      have hgl : g < wr.heap.size := (Array.getElem?_eq_some_iff.1 hb).1
      have hH := Z0m hb h4
      have hcl : ∀ W : World,W.heap.size = wr.heap.size → W.heap[g]? = wr.heap[g]? → HoldsK (encA nm) 3 W g 0 ps.toArray := fun W _ e => Z0m (e.trans hb) h4
      have hcmp : ∀ W : World,CmpLays Tryz.prog 28 #[] (encA nm) 3 cfA g 0 ps.toArray.size W := fun W m os dk _ x y => by
       have := ro_cmp hsc nm x y (sortWorldK (encA nm) 3 W g 0 m dk os)
       rw [Array.append_empty]; exact this
      have hc9 := hsort nm g cap ps.toArray wr hH hgl (by have := hlen.out; rw [List.size_toArray]; omega) (hcmp wr)
      rw [List.size_toArray] at hc9
      have hHA : Hid (HoldsK (encA nm) 3 wr g 0 ps.toArray) := hH
      clear hcl hcmp hsc hsort hrg hrow hnn hC hcs hl0 hown htd hch hkeys hrg0 hg0 hs0 hr0' h3 h4 hb hH hsz hsm hnd hi hz0 hz1 hz2
      go_wp2_with (first
       | (go_at_call 27; refine hc9.mono ?_; rintro e w' ⟨rfl,hw⟩)
       | go_in)
      go_ret2
      obtain ⟨d',n9,os,hp,hs,rfl⟩ := hw
      have e1 := sorted_unique_holds ro_swo Z8h ps.toArray d' (by rw [List.size_toArray]; exact hp) (by rw [List.size_toArray]; exact hs)
      have e2 : d'.toList.map (·.1) = S.mergeSort fun p q => !decide (cmpP q p < 0) := by rw [e1]; exact Z44 hperm
      have hsz' : d'.size = ps.toArray.size := hp.1
      have hHn : HoldsK (encA nm) 3 (sortWorldK (encA nm) 3 wr g 0 n9 d' os) g 0 d' := holdsK_sortWorldK (encA nm) 3 wr g 0 n9 ps.toArray d' os hgl hHA.out hsz'
      rw [show HoldsK (encA nm) 3 (sortWorldK (encA nm) 3 wr g 0 n9 d' os) g 0 d' = HoldsK (encA nm) 3 (sortWorldK (encA nm) 3 wr g 0 n9 d' os) g 0 d'.toList.toArray by rw [Array.toArray_toList]] at hHn
      have hcells := Z7d hHn
      have L9 := L.grown (Z0a (enc := encA nm) (n := n9) (os := os) d') hLs (fun j hj => by cases hj; exact hbase)
      refine ⟨some ⟨g,0,none⟩,ps.length,cap,rfl,L9,?_⟩
      have hys : ((S.mergeSort fun p q => !decide (cmpP q p < 0)).map fun p => ((nm,p.1,p.2,()) : grantE.ty)) = d'.toList.map fun p => ((nm,p.1.1,p.1.2,()) : grantE.ty) := by
       rw [← e2,List.map_map]; rfl
      rw [hys]
      have hl : d'.toList.length = ps.length := by rw [Array.length_toList,hsz',List.size_toArray]
      have hgs : g < (sortWorldK (encA nm) 3 wr g 0 n9 d' os).heap.size := Nat.lt_of_lt_of_le hgl (by have := (Z0a (w := wr) (enc := encA nm) (g := g) (n := n9) (os := os) d').size; exact this)
      have hR := Rep.sl (φ := φ) (w := sortWorldK (encA nm) 3 wr g 0 n9 d' os) (ok := fun b => w.heap.size ≤ b ∧ b < (sortWorldK (encA nm) 3 wr g 0 n9 d' os).heap.size) g 0 cap 3 ((d'.toList.map fun p => ((nm,p.1.1,p.1.2,()) : grantE.ty)).map grantE.enc) (d'.toList.flatMap (encA nm)) ⟨hbase,hgs⟩
       (fun x hx => by obtain ⟨y,_,rfl⟩ := List.mem_map.1 hx; rfl) (by rw [List.length_map,List.length_map,hl]; exact h1) (Z23 nm _) hcells
      rw [List.length_map,List.length_map,hl] at hR
      exact hR
     ·intro key c kl yd yp w5 cnt2 hkey hlk hv' hat hrg5 hlt hg5 hs5 hen
      have hhas := has_true_of_atKey hat
      obtain ⟨p,hp,rfl⟩ := Z42 hkeys hown hnd hsm hsz hch kl hhas
      have hps := hsm p hp
      obtain rfl : key = rval p := hkeys.1.inj hkey (hkeys.2 p hps)
      obtain ⟨o,a⟩ := p
      have hrow5 := hrow.kept hg5 (Or.inr (row_ne_iter hrow hrg).symm)
      have L5 := L.grown hg5 hLs (fun j hj => by cases hj; exact hLbs)
      have hL5s := L5.size
      have hMS : Maps.size D ≤ 1000000 := by omega
      have hzB : (w5.alloc (.cells #[.string ⟨o.toArray⟩,.int .i64 a] 58)).heap.size = w5.heap.size + 1 := by simp
      have hnews := Z71 (w5.alloc (.cells #[.string ⟨o.toArray⟩,.int .i64 a] 58)) [.string ⟨nm.toArray⟩,.string ⟨o.toArray⟩,.int .i64 a] 43
      rw [hzB] at hnews
      have hrow6 := (hrow5.alloc (.cells #[.string ⟨o.toArray⟩,.int .i64 a] 58)).alloc (.cells #[.string ⟨nm.toArray⟩,.string ⟨o.toArray⟩,.int .i64 a] 43)
      have L6 := (L5.alloc hL5s (.cells #[.string ⟨o.toArray⟩,.int .i64 a] 58)).alloc (by omega) (.cells #[.string ⟨nm.toArray⟩,.string ⟨o.toArray⟩,.int .i64 a] 43)
      have hL6s := L6.size
      have hen' : (Instr.entry (.pointer (some ⟨w3.heap.size,0,none⟩))).run Tryz.prog w5 = .ok (.tuple #[.agg #[.string ⟨o.toArray⟩,.int .i64 a],c]) w5 := hen
      clear hs5 hen
      go_wp2_with (first
       | (at_builtin; refine wpList_append_own _ rfl _ _ 25 rfl w.heap.size 43 i0 (.agg #[.string ⟨#[]⟩,.string ⟨#[]⟩,.int .i64 0]) 3 40 Tryz.underlying25 hi hz0 hz1 hz2 rfl (by decide) _ _ _ rfl hrow6 ⟨w5.heap.size + 1,0,none⟩ 1 1 [.string ⟨nm.toArray⟩,.string ⟨o.toArray⟩,.int .i64 a] rfl rfl hnews (by simp [Value.oneCell']) (by unfold maxLen; omega) (by omega) hL6s ?_; intro v7 w7 hown7 hg7 hnil7; go_frame)
       | go_in)
      have hrg6 := ((hrg5.alloc (.cells #[.string ⟨o.toArray⟩,.int .i64 a] 58)).alloc (.cells #[.string ⟨nm.toArray⟩,.string ⟨o.toArray⟩,.int .i64 a] 43)).kept hg7 (Z40 hrow5 hrg5.owns) (row_ne_iter hrow5 hrg5)
      have hown8 : w7.ownsRow w.heap.size 43 3 v7 (ps ++ [(⟨(o,a),hps⟩ : RtA)]).length ((ps ++ [(⟨(o,a),hps⟩ : RtA)]).flatMap (encA nm)) := by
       rw [List.flatMap_append,List.length_append]
       exact hown7
      have hC6 : CollR D (fun z => left z && !z.sameKey (rlit (o,a))) (ps ++ [⟨(o,a),hps⟩]) := CollR.step hkeys (p := ⟨(o,a),hps⟩) hC hlk hhas
      go_roundw
      case rel =>
       refine ⟨fun z => left z && !z.sameKey (rlit (o,a)),cnt2,ps ++ [⟨(o,a),hps⟩],hrg6,?_,hown8,?_,hC6,L6.grown hg7 hL6s (fun j hj => (hrow6.lt j hj).1)⟩
       ·rw [List.length_append,List.length_singleton]; omega
       ·intro hv'; have := (hnil7.1 hv').2; omega
      case measure => rw [hrg6.left_eq,hrg.left_eq]; exact hlt
   ·rw [if_neg h0] at hY2
    cases hY2
    clear up kb gl hU hC hV hR hsort hsc
    go_enter Tryz.func12,Tryz.ntmps12
    go_wp2_with (go_at_call 19; refine cv.mono ?_; rintro e w1 ⟨rfl,L1⟩)
    go_at_call 23
    refine (cr _ L1).mono ?_
    rintro e w2 ⟨rfl,L2⟩
    replace L2 := L1.trans (L2.mono L1.size)
    have hr9 : r < 0 := by omega
    go_wp2_with (fail)
    go_ret2
    exact ⟨none,0,0,rfl,L2,.slE none 0 3⟩⟩
end
open Go.Shelf Go.Lib Go.Sort Go.Maps Go.Ab Go.Proofs in
theorem Z8n (nm : List UInt8) (g cap : Nat) (d : Array RtA) (W : World) (hH : HoldsK (encA nm) 3 W g 0 d) (hg : g < W.heap.size) (hd : d.size < 4611686018427387904) (hc : CmpLays Tryz.prog 28 #[] (encA nm) 3 cfA g 0 d.size W) :
 Calls Tryz.prog 27 #[.slice (some ⟨g,0,none⟩) d.size cap,.func (.func 28) #[] #[]] W fun e w' => e = .returned (.tuple #[]) ∧ ∃ d' n os,Go.Sort.PermIn 0 d.size d d' ∧ Go.Sort.SortedIn (ltOf cfA) 0 d.size d' ∧ w' = sortWorldK (encA nm) 3 W g 0 n d' os :=
 AnyQ.slices_SortFunc Tryz.sortG 3 Tryz.isAgg43 Tryz.sizeOf43 (encA nm) (fun _ => rfl) (fun x v hv => by simp [encA] at hv; rcases hv with rfl | rfl | rfl <;> rfl) cfA ro_swo 28 #[] g 0 cap d W (enters_of Tryz.func28 (by kernel_rfl) rfl) hc hH hg hd
theorem Zvy : FOk Tryz.prog phi 402 Zij := ro_ok (g := 402) (gv := 736) (gr := 815) (gu := 816) (gc := 985) (Z8u (fun a b W => Any.strings_Compare Tryz.lays106 a b W) Z8n) (by kernel_rfl) (fun r g y h => Zdo Ze3 h) (fun r n y h => Zdo Zcv h) (fun r n y h => Zka Zdi h) (fun l x y h => Zdo Zai h)
theorem Z32 : FOk Tryz.prog phi 4 Zti := fn_ok hm (D := Zyq) DOk.nil (by kernel_rfl) _ _ _ _
theorem Z0j : FOk Tryz.prog phi 5 Zo1 := fn_ok hm (D := Zuq) (DOk.cons Z32 DOk.nil) (by kernel_rfl) _ _ _ _
theorem Zsz : FOk Tryz.prog phi 820 Zgo := fn_ok hm (D := Zlq) (DOk.cons Z0j DOk.nil) (by kernel_rfl) _ _ _ _
theorem Zlh : FOk Tryz.prog phi 400 Zep := fn_ok hm (D := Zg7) (DOk.cons Zjm (DOk.cons Zhi (DOk.cons Zsz DOk.nil))) (by kernel_rfl) _ _ _ _
theorem Zvz : FOk Tryz.prog phi 683 Zh3 := Z6v Tryz.laysM146 (of_decide_eq_true (by kernel_rfl)) (by kernel_rfl)
theorem Ztd : FOk Tryz.prog phi 458 Zgs := fn_ok hm (D := Zgj) (DOk.cons Zvz DOk.nil) (by kernel_rfl) _ _ _ _
theorem Zue : FOk Tryz.prog phi 401 Zhg := fn_ok hm (D := Zha) (DOk.cons Zlh (DOk.cons Ztd DOk.nil)) (by kernel_rfl) _ _ _ _
theorem Zvu : FOk Tryz.prog phi 1303 Zdv := fn_ok hm (D := Zas) (DOk.cons Zw7 (DOk.cons Zt4 (DOk.cons Zru (DOk.cons Zlh (DOk.cons Zue (DOk.cons Zvy (DOk.cons Zp8 (DOk.cons Zsr (DOk.cons Zuf (DOk.cons Zpr (DOk.cons Zsf DOk.nil))))))))))) (by kernel_rfl) _ _ _ _
theorem law : ∀ x,wfU Zdv.ps x → ∃ y,Zdv.f x = some y ∧ resA Zdv y = ([A.bool true],[]) := fun x hx => ⟨true,(laws_FnRights_true x.1 x.2.1 hx.1 hx.2.1),rfl⟩
theorem own : ownKnob Tryz.prog.godebug = none := by kernel_rfl
theorem laid : laidOutB Tryz.prog = true := by kernel_rfl
theorem reads : ∀ t ∈ Tryz.f3.params.toList,Tryz.prog.readableRec t = true ∧ t < Tryz.prog.types.size := by
 have h : (Tryz.f3.params.toList.all fun t => Tryz.prog.readableRec t && decide (t < Tryz.prog.types.size)) = true := by kernel_rfl
 intro t ht
 have := List.all_eq_true.1 h t ht
 simpa only [Bool.and_eq_true,decide_eq_true_eq] using this
theorem Z87 (H : Type) : ∀ (ds : List (DataW H)),ds.length = Tryz.f3.params.toList.length → Rows.fnRightsSpec.fn H ds = { results := [.lit (.bool true)],args := ds } := by
 intro ds hd
 have hd : ds.length = 2 := hd
 match ds,hd with
 | [d0,d1],_ => rfl
theorem tab (W : World) (hL : laidMetH Tryz.prog Rows.fnRightsRow.laid W) : ∀ i,Tryz.prog.globalNamed Zfn = some i → Lib.TabIs Tryz.prog W Zfn .u64 Lib.pow10Tab := by
 intro i hi
 have h : Tryz.prog.globalNamed Zfn = none := by kernel_rfl
 rw [h] at hi; cases hi
theorem errs (W : World) (hL : laidMetH Tryz.prog Rows.fnRightsRow.laid W) : ∀ n,Zqd.contains n = true → ∀ i,Tryz.prog.globalNamed n = some i → ∃ u v,W.var? Tryz.prog n = some #[.iface u v] := by
 intro n hn i hi
 have hn : n = "strconv.ErrSyntax" ∨ n = "strconv.ErrRange" := by simpa [Zqd] using hn
 rcases hn with rfl | rfl
 ·have h : Tryz.prog.globalNamed "strconv.ErrSyntax" = none := by kernel_rfl
  rw [h] at hi; cases hi
 ·have h : Tryz.prog.globalNamed "strconv.ErrRange" = none := by kernel_rfl
  rw [h] at hi; cases hi
theorem Zvm (H : Type) (enc : TypeId × Value → H) (W : World) (base : Nat) (args : Array Value) (ds gs : List (DataW H)) (before : List MemPlace)
 (hval : ∀ (j : Nat) t v,Tryz.f3.params[j]? = some t → args[j]? = some v → Value.okWide Tryz.prog W .any base t v)
 (hW : DataW.Whole enc Tryz.prog Tryz.f3.params.toList Rows.fnRightsSpec.vars false W args.toList ds gs before) (hL : laidMetH Tryz.prog Rows.fnRightsRow.laid W) (hsh : W.ShapedOpen Tryz.prog) :
 Calls Tryz.prog 3 args W fun e W' => ∃ v,e = .returned v ∧ Rows.fnRightsSpec.post enc Tryz.prog Tryz.f3 false true false false W args v W' :=
 Z0c (φ := phi) (g := 1303) (n := 20) Zvu rfl rfl (tb := 4) Tryz.underlying4 (by kernel_rfl) rfl law laid reads Z87 W base args ds gs before hval hW (Glob.start hsh (tab W hL) (errs W hL))
theorem lifted (os : Os) (started : os.Started) (H : Type) (enc : TypeId × Value → H) :
 ReturnsInHanded {} Tryz.checked os 3 .any (fun w args => (Rows.fnRightsSpec.pre enc Tryz.prog Tryz.f3 Rows.fnRightsRow.domain false w args ∧ laidMetH Tryz.prog Rows.fnRightsRow.laid w) ∧ sizedMet enc Tryz.prog Tryz.f3 (OpenSpec.ofChange Rows.fnRightsSpec) false w args) (Rows.fnRightsSpec.post enc Tryz.prog Tryz.f3 false true false false) := by
 refine Zqg (C := Tryz.checked) (laid := Rows.fnRightsRow.laid) own started (by kernel_rfl) Tryz.func3
  (ChangeSpec.witness_shaped (enc := enc) (C := Tryz.checked) (os := os) (X := fun w _ => laidMetH Tryz.prog Rows.fnRightsRow.laid w) false (World.laidAll Tryz.prog os Rows.fnRightsRow.laid) #[.slice none 0 0,.slice none 0 0] 12 (World.laidAll_os _ _ _)
    (World.shaped_of_ZipB (by kernel_rfl) (by kernel_rfl)) (by kernel_rfl) (by kernel_rfl) (by kernel_rfl)
    (by rw [MakeChecks.laidMetH_plain _ _ _ (by kernel_rfl)]; exact laidMet_laidAll _ (by kernel_rfl) (by kernel_rfl))) ?_
 intro W base args ds gs before hval hW hL hsh
 exact Zvm H enc W base args ds gs before hval hW hL hsh
theorem over : Rows.fnRightsRow.holds Tryz.pinned (OpenSpec.ofChange Rows.fnRightsSpec) :=
 OpenClaim.holds_of_wide 3 Tryz.f3 rfl rfl rfl rfl rfl rfl rfl ⟨rfl,rfl,rfl,rfl,rfl⟩ rfl rfl rfl rfl rfl (by kernel_rfl) Tryz.func3 (by kernel_rfl)
  (of_decide_eq_true (by kernel_rfl)) (by unfold Func.isWrapper; first | (rw [if_pos (by decide +kernel)]; kernel_rfl) | (rw [if_neg (by decide +kernel)]; exact ⟨rfl,rfl⟩))
  (fun os started H enc _ => lifted os started H enc)
theorem card : Rows.FnRightsCardSaid :=
 Claim7.holds_tied_plain_at .later [] [.data,.pinned] true (true,"c9194d3cb83db038d930b9d991ee6ef1601acb160888db8bbb3a1bcfe7769b37") false over (fun _ h => by cases h) (by kernel_rfl) (fun _ h => by cases h) fnRights_row_tie rfl ⟨rfl,rfl⟩ (by kernel_rfl) rfl
  (fun f fn hf hfn => by
    obtain rfl : f = 3 := Option.some.inj ((show Tryz.prog.funcNamed "loop.example/g01061/laws.FnRights" = some 3 by kernel_rfl).symm.trans hf) |>.symm
    obtain rfl : fn = Tryz.f3 := (Option.some.inj (Tryz.func3.symm.trans hfn)).symm
    exact ⟨by kernel_rfl,fun j t ht => by
     have hm : t ∈ Tryz.f3.params.toList := by simpa using Array.mem_of_getElem? ht
     have hall : (Tryz.f3.params.toList.all fun u => !Tryz.prog.wantsStandIn u) = true := by kernel_rfl
     exact (show Tryz.prog.wantsStandIn t = false by simpa using List.all_eq_true.1 hall t hm)⟩)
  (by kernel_rfl)
theorem proved : Rows.FnRightsCardSaid := card
end Go.Proofs.YtobkmdnplcmndaaGreatDoor.fnRights
