/- The law FnDuties answers true for every input, whatever it is, and leaves its arguments as they were. Conditions: none. -/
import Derived.Test.YtobkmdnplcmndaaQFnDuties
import Derived.Test.YtobkmdnplcmndaaRows
import Derived.Test.YtobkmdnplcmndaaL5
import Derived.Test.YtobkmdnplcmndaaLD
import Derived.Carry
import Derived.Deep.RegionHeld3
import Derived.Deep.RegionLaw
import Derived.Shelf.RegionOpenPlain
import Derived.Shelf.Spec.SlicesInsert
import Derived.Test.YtobkmdnplcmndaaLH
import Derived.Carry
import Derived.DeepKeys4
import Derived.Maps.Own
import Derived.Maps.OwnSet
import Derived.Maps.RangeWalk
import Derived.Deep.RegionHeld3
import Derived.Deep.RegionLaw
import Derived.Shelf.RegionOpenPlain
import Derived.LoopTactic
import Derived.Laws.IdiomStrings
import Derived.Test.YtobkmdnplcmndaaL8
import Derived.Test.YtobkmdnplcmndaaShelf
import Derived.WalkKit
import Derived.ProofKit
import Derived.OpenShut
import Derived.JoinedOf
import Derived.Handed
set_option linter.unusedVariables false
set_option maxRecDepth 100000
namespace Go.Proofs.Ytobkmdnplcmndaa.fnDuties
open Go.Ab Go.Ab.P
open Go.ChangeShapes Go.WideShapes Go.ChangeAt Go.RowKit
def phiL : List (Nat × Nat) := [(76,4),(441,16),(847,59),(463,36),(642,18),(557,40),(445,38),(949,35),(812,39),(729,19),(11,74),(12,75),(13,68),(740,29),(955,53),(954,49),(1,52),(742,30),(952,50),(953,51),(739,28),(948,37),(730,17),(309,5),(22,64),(21,42),(24,44),(983,63),(1282,62),(815,43),(634,70),(985,60),(823,76),(861,77),(520,71),(816,61),(817,41),(23,65),(813,45),(735,21),(950,46),(734,23),(736,20),(1299,22),(731,25),(732,24),(308,6),(738,26),(737,27),(307,7),(306,8),(741,31),(301,9),(956,55),(1300,62),(1301,54),(743,32),(305,10),(71,11),(744,33),(304,12),(303,13),(745,34),(302,14),(232,15),(1302,3)]
def phi (n : Nat) : Nat := (phiL.lookup n).getD 1000000
theorem hm : Try.prog.follows .mixedOrders = true := by kernel_rfl
theorem Zyc : FOk Try.prog phi 76 Zlo := fn_ok hm (D := Zr9) DOk.nil (by kernel_rfl) _ _ _ _
theorem Zq0 : FOk Try.prog phi 441 Zhx := fn_ok hm (D := Zrw) DOk.nil (by kernel_rfl) _ _ _ _
theorem Zul : FOk Try.prog phi 847 Zhg := fn_ok hm (D := Zho) DOk.nil (by kernel_rfl) _ _ _ _
theorem Zcn : FOk Try.prog phi 463 Zcj := fn_ok hm (D := Zmp) (DOk.cons Zul DOk.nil) (by kernel_rfl) _ _ _ _
theorem Zm2 : FOk Try.prog phi 642 Zh9 := fn_ok hm (D := Zns) (DOk.cons Zcn DOk.nil) (by kernel_rfl) _ _ _ _
theorem Zgp : FOk Try.prog phi 557 Ze7 := fn_ok hm (D := Zmk) (DOk.cons Zcn DOk.nil) (by kernel_rfl) _ _ _ _
theorem Zgj : FOk Try.prog phi 445 Zeq := fn_ok hm (D := Zlc) (DOk.cons Zcn DOk.nil) (by kernel_rfl) _ _ _ _
section
open Go.Ab Go.Proofs
theorem Z9c {P : Program} {ops : Array Oper} {o : Oper} {a : Act} {K : Act → World → Prop} {Q : Exit → Act → World → Prop} {E : Prop} {w w' : World} {u v r : Value} {t ty : TypeId} (hr : (Builtin.append_ #[t,t] ty #[u,v]).run P w = .ok r w') (hgd : o.guard = none) (x y : Operand) (hty : o.type = ty)
 (ho : o.op = .call { callee := .builtin .append,args := #[x,y],argTypes := #[t,t] }) (hx : a.eval x = u) (hy : a.eval y = v) (h : K (a.put o.dst r) w') : if Region.wanted o (yielded ops a.tmps) = true then Oper.wp P o a w K Q else E := by
 have hw : Region.wanted o (yielded ops a.tmps) = true := by simp [Region.wanted,hgd]
 rw [if_pos hw]
 subst hty
 unfold Oper.wp
 simp only [execOp,ho,resolve,invoke,builtin,Sem.run_bind,Sem.run_pure,Result.andThen_ok,List.map_toArray,List.map_cons,List.map_nil,hx,hy,hr]
 exact h
theorem Z27 (w : World) (n0 : List UInt8) (e : TypeId) : VOwn (w.alloc (.cells #[encT n0] e)) e (.slice (some ⟨w.heap.size,0,none⟩) 1 1) ([n0].map encT) (some w.heap.size) :=
 .mk w.heap.size 1 #[encT n0] [encT n0] (Zdd _ _ rfl) rfl (Nat.le_refl _) (by decide) (fun j hj => by match j,hj with | 0,_ => rfl)
theorem Z3k (out : List (List UInt8 × List (List UInt8))) (i j : Nat) (p : List UInt8 × List (List UInt8)) : unAt (out.set i p) j = if i = j ∧ i < out.length then p.2 else unAt out j := by
 unfold unAt
 rw [List.getElem?_set]
 by_cases h1 : i = j
 ·subst h1
  by_cases h2 : i < out.length
  ·simp [h2]
  ·simp [h2]
 ·simp [h1]
theorem Z83 {out : List (List UInt8 × List (List UInt8))} (h : ∀ p ∈ out,p.2 = []) (j : Nat) : unAt out j = [] := by
 unfold unAt
 cases hj : out[j]? with
 | none => rfl
 | some p => exact h p (List.mem_of_getElem? hj)
theorem Z71 : (Try.prog.info? 40).map (fun i => (i.zero,i.size,i.bytes)) = some (some (.agg #[.string ⟨#[]⟩,.slice none 0 0]),2,40) := by kernel_rfl
theorem Z9a : (Try.prog.info? 9).map (fun i => (i.zero,i.size,i.bytes)) = some (some (.string ⟨#[]⟩),1,16) := by kernel_rfl
theorem Zaal (w : World) (k : Nat) (hk : (k : Int) ≤ 100) : (convert 22 9 (.slice (some ⟨w.heap.size,0,none⟩) 1 1)).run Try.prog (w.alloc (.cells #[.int .u8 (97 + k)] 5)) = .ok (.string ⟨#[UInt8.ofNat (97 + k)]⟩) (w.alloc (.cells #[.int .u8 (97 + k)] 5)) := by
 refine run_convert_bytes_back _ _ _ _ ⟨w.heap.size,0,none⟩ 1 [UInt8.ofNat (97 + k)] Try.underlying22 Try.underlying5 Try.underlying9 fun j hj => ?_
 obtain rfl : j = 0 := by simp at hj; exact hj
 have h : (UInt8.ofNat (97 + k)).toNat = 97 + k := by rw [UInt8.toNat_ofNat']; omega
 have g := Zdd w (.cells #[.int .u8 (97 + k)] 5) rfl
 simp only [Addr.add,World.cell?,if_true,g]
 show some (Value.int .u8 (97 + (k : Int))) = some (Value.int .u8 ((UInt8.ofNat (97 + k)).toNat : Int))
 rw [h]; rfl
theorem dr_str (k : Nat) : Value.string (⟨#[110]⟩ ++ ⟨#[97 + UInt8.ofNat k]⟩) = encT [110,UInt8.ofNat (97 + k)] := by
 have h : (⟨#[110]⟩ ++ ⟨#[97 + UInt8.ofNat k]⟩ : ByteArray) = ⟨[110,UInt8.ofNat (97 + k)].toArray⟩ := by
  apply ByteArray.ext
  rw [ByteArray.data_append]
  simp
 rw [h]; rfl
set_option maxHeartbeats 6400000 in
theorem Zaac : Zth Try.prog 35 18 36 40 38 40 9 := ⟨⟨_,Try.func35,by decide +kernel,rfl⟩,by
 intro φ go gp gt ga on pk tx am ho hp ht ha hO hP hT hA x0 x1 ys hY S K0 p w N0
 have hS := N0.size
 have one : ∀ {x : srcE.ty} {n : Int} {y : Bool} {x' : srcE.ty} {xs : List (List UInt8 × List (List UInt8))} {vo : Value} {u : World} {K1 : Nat → Prop},on x n = some (y,x') → Rst Try.prog φ S 40 9 K1 x p xs vo u →
  Calls Try.prog 18 #[p,.int .i64 n] u fun r w' => r = .returned (.bool y) ∧ u.heap.size ≤ w'.heap.size ∧ Fq S p u w' ∧ Rst Try.prog φ S 40 9 K1 x' p xs vo w' ∧ ∀ c,K1 c → w'.heap[c]? = u.heap[c]? := fun hq hn => by
  have := hn.one (hO _ _ _ _ hq)
  rw [ho] at this
  exact this
 unfold drF at hY
 obtain ⟨⟨x2,out1⟩,hn1,hY1⟩ := Option.bind_eq_some_iff.1 hY
 obtain ⟨⟨x3,out2⟩,hn2,hY2⟩ := Option.bind_eq_some_iff.1 hY1
 obtain ⟨⟨c,x4⟩,hc,hY3⟩ := Option.bind_eq_some_iff.1 hY2
 clear hY hY1 hY2
 simp only at hn2 hc hY3
 obtain ⟨iO,hiO,heO⟩ := Option.map_eq_some_iff.1 Z71
 simp only [Prod.mk.injEq] at heO
 obtain ⟨zO,sO,bO⟩ := heO
 obtain ⟨iS,hiS,heS⟩ := Option.map_eq_some_iff.1 Z9a
 simp only [Prod.mk.injEq] at heS
 obtain ⟨zS,sS,bS⟩ := heS
 go_enter Try.func35,Try.ntmps35
 go_wp2_with (fail)
 have N1 := (N0.lit' (rlNames.map encT).toArray 9)
 have Na := (N1.keep ((Lo.refl _ _).alloc (Nat.le_refl _) (.cells #[] 40))).out (some ⟨(w.alloc (.cells (rlNames.map encT).toArray 9)).heap.size,0,none⟩)
 have hz1 : (w.alloc (.cells (rlNames.map encT).toArray 9)).heap.size = w.heap.size + 1 := by simp
 have hz2 : ((w.alloc (.cells (rlNames.map encT).toArray 9)).alloc (.cells #[] 40)).heap.size = w.heap.size + 2 := by simp
 have hb1 : ((w.alloc (.cells (rlNames.map encT).toArray 9)).alloc (.cells #[] 40)).heap[w.heap.size]? = some (.cells (rlNames.map encT).toArray 9) := (Zai _ _ (by omega)).trans (Zdd _ _ rfl)
 have L1 : Fq S p w ((w.alloc (.cells (rlNames.map encT).toArray 9)).alloc (.cells #[] 40)) := ((Fq.refl S p w).alloc hS _).alloc (by omega) _
 rw [hz1] at Na
 go_loopw [4,5] (fun vo iv wr => ∃ (i : Nat) (x : srcE.ty) (out : List (List UInt8 × List (List UInt8))),iv = .int .i64 i ∧ i ≤ 5 ∧ drNames on (rlNames.drop i) x out = some (x2,out1) ∧ out.length ≤ i ∧ (∀ p ∈ out,p.2 = []) ∧ Rst Try.prog φ S 40 9 (fun b => K0 b ∨ b = w.heap.size) x p out vo wr ∧ wr.heap[w.heap.size]? = some (.cells (rlNames.map encT).toArray 9) ∧ w.heap.size < wr.heap.size ∧ Fq S p w wr)
  (fun _ iv _ => (5 - intOf iv).toNat)
 case atStart =>
  exact ⟨0,x0,[],rfl,by omega,hn1,by simp,by simp,Na,hb1,by simp <;> omega,L1⟩
 case round =>
  clear hn1 N1 Na hb1 L1 hz1 hz2
  obtain ⟨i,x,out,rfl,hi,hn,hol,hnil,N,hbn,hbl,L⟩ := hrel
  have hlen : rlNames.length = 5 := rfl
  have hi9 : (i : Int) ≤ 5 := by omega
  rcases Nat.lt_or_ge i 5 with hlt | hge
  ·have hlt' : (i : Int) < 5 := by omega
   rw [List.drop_eq_getElem_cons (by rw [hlen]; exact hlt)] at hn
   obtain ⟨⟨bq,x'⟩,hq,hn2'⟩ := Option.bind_eq_some_iff.1 hn
   clear hn
   simp only at hn2'
   have hcell : wr.cell? ⟨w.heap.size,i,none⟩ = some (encT (rlNames[i]'(by rw [hlen]; exact hlt))) := by
    simp only [World.cell?,hbn]
    rw [List.getElem?_toArray,List.getElem?_map,List.getElem?_eq_getElem (by rw [hlen]; exact hlt)]; rfl
   generalize rlNames[i]'(by rw [hlen]; exact hlt) = nm at hn2' hcell
   have hcell' : wr.cell? ⟨w.heap.size,i,none⟩ = some (.string ⟨nm.toArray⟩) := hcell
   go_wp2_with (fail)
   go_at_call 18
   refine (one hq N).mono ?_
   rintro e w1 ⟨rfl,hz,L1,N1,hk⟩
   have hb1 : w1.heap[w.heap.size]? = some (.cells (rlNames.map encT).toArray 9) := (hk _ (.inr rfl)).trans hbn
   have hc1 : w1.cell? ⟨w.heap.size,i,none⟩ = some (.string ⟨nm.toArray⟩) := by rw [← hcell']; simp only [World.cell?,hb1,hbn]
   have L1' := L.trans L1
   cases bq with
   | true =>
     go_wp2_with (fail)
     exact ⟨⟨i + 1,x',out,rfl,by omega,hn2',by omega,hnil,N1,hb1,by omega,L1'⟩,by simp only [intOf]; omega⟩
   | false =>
     have N2 := (N1.keep ((Lo.refl _ _).alloc (Nat.le_refl _) (.cells #[] 9))).keep ((Lo.refl _ _).alloc (Nat.le_refl _) (.cells #[encT nm,.slice (some ⟨w1.heap.size,0,none⟩) 0 0] 40))
     have hS1 := N1.size
     have hzA : (w1.alloc (.cells #[] 9)).heap.size = w1.heap.size + 1 := by simp
     have L2 : Fq S p w ((w1.alloc (.cells #[] 9)).alloc (.cells #[encT nm,.slice (some ⟨w1.heap.size,0,none⟩) 0 0] 40)) := (L1'.alloc hS1 _).alloc (by omega) _
     obtain ⟨ad,n',cp,w7,hrun,hz7,L7,N7,hk7⟩ := N2.push0 (t := 24) Try.underlying24 hiO sO zO rfl (by rw [bO]; omega) (by omega) (Zdd _ _ rfl) 1 24
     have hb7 : w7.heap[w.heap.size]? = some (.cells (rlNames.map encT).toArray 9) := (hk7 _ (.inr rfl)).trans ((Zai _ _ (by omega)).trans ((Zai _ _ (by omega)).trans hb1))
     rw [hzA] at hrun
     have hrun' : (Builtin.append_ #[24,24] 24 #[u4,.slice (some ⟨w1.heap.size + 1,0,none⟩) 1 1]).run Try.prog ((w1.alloc (.cells #[] 9)).alloc (.cells #[.string ⟨nm.toArray⟩,.slice (some ⟨w1.heap.size,0,none⟩) 0 0] 40)) = .ok (.slice ad n' cp) w7 := hrun
     clear hrun hcell hcell' hbn hk hk7
     go_wp2_with (first | (at_builtin; refine wpList_append_run _ rfl _ _ _ _ rfl _ _ rfl rfl hrun' ?_) | fail)
     have hz9 : w1.heap.size ≤ w7.heap.size := by simp at hz7; omega
     exact ⟨⟨i + 1,x',out ++ [(nm,[])],rfl,by omega,hn2',by simp; omega,fun p hp => by rcases List.mem_append.1 hp with h | h; exact hnil p h; rw [List.mem_singleton] at h; rw [h],N7,hb7,by omega,L2.trans (.of_lo L7)⟩,by simp only [intOf]; omega⟩
  ·have hge5 : ¬ (i : Int) < 5 := by omega
   rw [List.drop_eq_nil_of_le (by rw [hlen]; omega)] at hn
   cases hn
   have hl5 : out1.length ≤ 5 := by omega
   have hun := Z83 hnil
   clear hnil
   have hl9 : (out1.length : Int) ≤ 5 := by omega
   have Nb := N.base (K0 := K0) (fun b hb => .inl hb) (fun b hb => hb.elim .inl fun e => .inr ⟨by omega,by omega⟩)
   clear N hbn
   obtain ⟨av,cv,rfl⟩ := Nb.slice
   go_wp2_with (fail)
   go_loopw [6,7] (fun iv _ wr => ∃ (i : Nat) (x : srcE.ty) (out : List (List UInt8 × List (List UInt8))),iv = .int .i64 i ∧ i ≤ out1.length ∧ out.length = out1.length ∧ drOut on (out1.length - i) i x out = some (x3,out2) ∧ (∀ j,i ≤ j → unAt out j = []) ∧ Rst Try.prog φ S 40 9 K0 x p out (.slice av out1.length cv) wr ∧ Fq S p w wr)
    (fun iv _ _ => ((out1.length : Int) - intOf iv).toNat)
   case atStart => exact ⟨0,x2,out1,rfl,by omega,rfl,hn2,fun j _ => hun j,Nb,L⟩
   case round =>
    clear Nb hn2 L hun
    obtain ⟨i,x,out,rfl,hi,hol2,hdr,hun,N,L⟩ := hrel
    have hi8 : (i : Int) ≤ 5 := by omega
    rcases Nat.lt_or_ge i out1.length with hlt | hge
    ·have hlt' : (i : Int) < (out1.length : Int) := by omega
     obtain ⟨m,hm⟩ : ∃ m,out1.length - i = m + 1 := ⟨out1.length - i - 1,by omega⟩
     rw [hm] at hdr
     obtain ⟨⟨xq,outq⟩,hin,hdr2⟩ := Option.bind_eq_some_iff.1 hdr
     clear hdr
     simp only at hdr2
     go_wp2_with (fail)
     go_loopw [7] (fun kv wr => ∃ (k : Nat) (x : srcE.ty) (out : List (List UInt8 × List (List UInt8))),kv = .int .i64 k ∧ i + 1 ≤ k ∧ k ≤ out1.length ∧ out.length = out1.length ∧ drIn on i (out1.length - k) k x out = some (xq,outq) ∧ ((∀ j,i < j → unAt out j = []) ∧ (unAt out i).length + i + 1 ≤ k) ∧ Rst Try.prog φ S 40 9 K0 x p out (.slice av out1.length cv) wr ∧ Fq S p w wr)
      (fun kv _ => ((out1.length : Int) - intOf kv).toNat)
     case atStart => exact ⟨i + 1,x,out,by congr 1,Nat.le_refl _,by omega,hol2,by rw [← hol2]; exact hin,⟨fun j hj => hun j (by omega),by rw [hun i (Nat.le_refl _)]; simp⟩,N,L⟩
     case round =>
      clear N L hin hol2 hun
      obtain ⟨k,x,out,rfl,hik,hkl,hol2,hin,⟨hun,hul⟩,N,L⟩ := hrel
      have hk8 : (k : Int) ≤ 5 := by omega
      rcases Nat.lt_or_ge k out1.length with hlk | hgk
      ·have hlk' : (k : Int) < (out1.length : Int) := by omega
       obtain ⟨m2,hm2⟩ : ∃ m2,out1.length - k = m2 + 1 := ⟨out1.length - k - 1,by omega⟩
       rw [hm2] at hin
       obtain ⟨⟨bq,x'⟩,hq,hin2⟩ := Option.bind_eq_some_iff.1 hin
       clear hin
       simp only at hin2
       go_wp2_with (fail)
       refine (one hq N).mono ?_
       rintro e w1 ⟨rfl,hz,L1,N1,_⟩
       have L1' := L.trans L1
       cases bq with
       | false =>
         go_wp2_with (fail)
         exact ⟨⟨k + 1,x',out,rfl,by omega,by omega,hol2,by rw [show out1.length - (k + 1) = m2 from by omega]; exact hin2,⟨hun,by omega⟩,N1,L1'⟩,by simp only [intOf]; omega⟩
       | true =>
         obtain ⟨⟨ni,ti⟩,hxi⟩ : ∃ p,out[i]? = some p := ⟨_,List.getElem?_eq_getElem (show i < out.length by omega)⟩
         obtain ⟨⟨nk,tk⟩,hxk⟩ : ∃ p,out[k]? = some p := ⟨_,List.getElem?_eq_getElem (show k < out.length by omega)⟩
         have hni : nmAt out i = ni := by simp [nmAt,hxi]
         have hti : unAt out i = ti := by simp [unAt,hxi]
         have hnk : nmAt out k = nk := by simp [nmAt,hxk]
         rw [hni,hti,hnk,if_pos rfl] at hin2
         rw [hti] at hul
         have hS1 := N1.size
         have hio : i < out.length := by omega
         have hko : k < out.length := by omega
         have N2 := N1.keep (Lo.drew (Lo.refl _ _))
         have N3 := N2.keep ((Lo.refl _ _).alloc (Nat.le_refl _) (.cells #[encT nk] 9))
         obtain ⟨bk,ck,uk,obk,ek,⟨kb1,kb2⟩,ck0,_,_,_,_,_⟩ := N2.at hxk
         obtain ⟨b,cap,u,obr,eb,⟨b1,b2⟩,c0,c1,hfz,hV,hob,hset⟩ := N3.at hxi
         simp only [Value.slice.injEq] at ek eb
         obtain ⟨rfl,-,rfl⟩ := ek
         obtain ⟨eb,-,-⟩ := eb
         simp only [Option.some.injEq,Addr.mk.injEq,and_true] at eb
         subst eb
         obtain ⟨ua,un,uc,rfl⟩ := hV.slice
         obtain ⟨ad,n',cp,w7,ob7,hrun,hV7,hz7,hk7,hob7,hos7,hout7⟩ := hV.app (t := 38) Try.underlying38 hiS sS zS rfl (by rw [bS]; omega) (by simp; omega) (Zdd _ _ rfl) rfl rfl 1 38
         have hrun' : (Builtin.append_ #[38,38] 38 #[.slice ua un uc,.slice (some ⟨w1.heap.size,0,none⟩) 1 1]).run Try.prog (w1.drew.alloc (.cells #[.string ⟨nk.toArray⟩] 9)) = .ok (.slice ad n' cp) w7 := hrun
         have hb2 : bk < w1.heap.size := kb2
         have g0 : w1.cell? ⟨bk,k * 2,none⟩ = some (.string ⟨nk.toArray⟩) := by rw [show k * 2 = 2 * k from Nat.mul_comm _ _]; exact ck0
         have hcz : ∀ o,(w1.drew.alloc (.cells #[encT nk] 9)).cell? ⟨bk,o,none⟩ = w1.cell? ⟨bk,o,none⟩ := fun o => by
          have := Zai w1.drew (.cells #[encT nk] 9) (b := bk) hb2
          simp only [World.cell?,this]; rfl
         have g1 : w1.cell? ⟨bk,i * 2 + 1,none⟩ = some (.slice ua un uc) := by
          rw [show i * 2 = 2 * i from Nat.mul_comm _ _,← hcz]; exact c1
         have hzA : (w1.drew.alloc (.cells #[encT nk] 9)).heap.size = w1.heap.size + 1 := by simp
         have hbo : obr ≠ some bk := fun e => (hob bk e).2.2 rfl
         have hblk : w7.heap[bk]? = (w1.drew.alloc (.cells #[encT nk] 9)).heap[bk]? := hk7 bk (by omega) hbo
         have g2 : w7.cell? ⟨bk,i * 2 + 1,none⟩ = some (.slice ua un uc) := by
          rw [← g1,← hcz]; simp only [World.cell?,hblk]
         have g3 : w7.frozen? ⟨bk,i * 2 + 1,none⟩ = false := (frozen?_block hblk _).trans (hfz _)
         have hobc : ∀ c,ob7 = some c → c < w7.heap.size ∧ (obr = some c ∨ (w1.drew.alloc (.cells #[encT nk] 9)).heap.size ≤ c) := fun c hc => by
          subst hc
          refine ⟨hV7.lt,?_⟩
          rcases hob7 with h | ⟨q,h,hq,_⟩
          ·exact .inl h.symm
          ·cases h; exact .inr hq
         have N9 := (hset w7 (.slice ad n' cp) (ti ++ [nk]) ob7 (by simpa using hV7) hz7 hobc hk7).1
         rw [show 2 * i = i * 2 from Nat.mul_comm _ _] at N9
         have L7 : Lo S w1 w7 := ((Lo.drew (Lo.refl S w1)).alloc hS1 _).trans ⟨hz7,fun c hc => hk7 c (by omega) (fun e => by have := (hob c e).1; omega),hos7,hout7⟩
         have L9 : Fq S p w (w7.setCell ⟨bk,i * 2 + 1,none⟩ (.slice ad n' cp)) := L1'.trans (.of_lo (L7.setCell b1))
         have hun9 : (∀ j,i < j → unAt (out.set i (ni,ti ++ [nk])) j = []) ∧ (unAt (out.set i (ni,ti ++ [nk])) i).length + i + 1 ≤ k + 1 := by
          refine ⟨fun j hj => ?_,?_⟩
          ·rw [Z3k,if_neg (fun h => by omega)]; exact hun j hj
          ·rw [Z3k,if_pos ⟨rfl,by omega⟩]; simp; omega
         have hol9 : (out.set i (ni,ti ++ [nk])).length = out1.length := by simpa using hol2
         clear hset hk7 hV7 hob7 hos7 hout7 hV hob hfz hrun hcz c0 c1 ck0 hblk hbo hni hti hnk hxi hxk N1 N2 N3 L1 L1' L7 hun hul hzA hz7 hol2 hobc
         go_wp2_with (fail)
         go_region_law (first | (refine Z9c hrun' rfl _ _ rfl rfl rfl rfl ?_) | fail)
         all_goals go_wp2_with (fail)
         all_goals exact ⟨⟨k + 1,x',out.set i (ni,ti ++ [nk]),rfl,by omega,by omega,hol9,by rw [show out1.length - (k + 1) = m2 from by omega]; exact hin2,hun9,N9,L9⟩,by simp only [intOf]; omega⟩
      ·obtain rfl : k = out1.length := by omega
       rw [Nat.sub_self] at hin
       cases hin
       go_wp2_with (fail)
       exact ⟨⟨i + 1,xq,outq,rfl,by omega,hol2,by rw [show out1.length - (i + 1) = m from by omega]; exact hdr2,fun j hj => hun j (by omega),N,L⟩,by simp only [intOf]; omega⟩
    ·obtain rfl : i = out1.length := by omega
     rw [Nat.sub_self] at hdr
     cases hdr
     clear hun
     have hlo : (out2.length : Int) = out1.length := by omega
     have hl0 : (0 : Int) ≤ out1.length := by omega
     have pick : ∀ {x : srcE.ty} {n y : Int} {x' : srcE.ty} {xs : List (List UInt8 × List (List UInt8))} {vo : Value} {u : World},pk x n = some (y,x') → Rst Try.prog φ S 40 9 K0 x p xs vo u →
      Calls Try.prog 36 #[p,.int .i64 n] u fun r w' => r = .returned (.int .i64 y) ∧ u.heap.size ≤ w'.heap.size ∧ Fq S p u w' ∧ Rst Try.prog φ S 40 9 K0 x' p xs vo w' ∧ ∀ c,K0 c → w'.heap[c]? = u.heap[c]? := fun hq hn => by
      have := hn.pick (hP _ _ _ _ hq)
      rw [hp] at this
      exact this
     go_wp2_with (fail)
     go_at_call 36
     refine (pick hc N).mono ?_
     rintro e w1 ⟨rfl,hz1,L1,N1,_⟩
     replace L1 := L.trans L1
     have hS1 := N1.size
     by_cases c0 : c = 0
     ·subst c0
      rw [if_pos rfl] at hY3
      by_cases h1 : 1 < out2.length
      ·rw [if_pos h1] at hY3
       obtain ⟨m,hm⟩ : ∃ m,out2.length = m + 1 := ⟨out2.length - 1,by omega⟩
       obtain ⟨⟨n0,t0⟩,hx0⟩ : ∃ p,out2[0]? = some p := ⟨_,List.getElem?_eq_getElem (show 0 < out2.length by omega)⟩
       obtain ⟨⟨nm,tm⟩,hxm⟩ : ∃ p,out2[m]? = some p := ⟨_,List.getElem?_eq_getElem (show m < out2.length by omega)⟩
       rw [show out2.length - 1 = m from by omega,show nmAt out2 m = nm from by simp [nmAt,hxm],show nmAt out2 0 = n0 from by simp [nmAt,hx0]] at hY3
       cases hY3
       obtain ⟨bk,ck,uk,obk,ek,⟨kb1,kb2⟩,ck0,_,_,_,_,_⟩ := N1.at hx0
       obtain ⟨b,cap,u,obr,eb,⟨b1,b2⟩,q0,q1,hfz,hV,hob,hset⟩ := N1.at hxm
       simp only [Value.slice.injEq] at ek eb
       obtain ⟨rfl,-,rfl⟩ := ek
       obtain ⟨eb,-,-⟩ := eb
       simp only [Option.some.injEq,Addr.mk.injEq,and_true] at eb
       subst eb
       have N9 := (hset _ _ [n0] _ (Z27 w1 n0 9) (by simp) (fun c hc => by cases hc; exact ⟨by simp,.inr (Nat.le_refl _)⟩) fun c hc _ => Zai _ _ hc).1
       have hzA : (w1.alloc (.cells #[encT n0] 9)).heap.size = w1.heap.size + 1 := by simp
       have L9 := (L1.alloc hS1 (.cells #[encT n0] 9)).setCell (b := bk) (j := m * 2 + 1) (u := .slice (some ⟨w1.heap.size,0,none⟩) 1 1) b1
       rw [show 2 * m = m * 2 from Nat.mul_comm _ _] at N9
       have g0 : w1.cell? ⟨bk,0,none⟩ = some (.string ⟨n0.toArray⟩) := ck0
       have g1 : w1.cell? ⟨bk,m * 2 + 1,none⟩ = some u := by rw [show m * 2 = 2 * m from Nat.mul_comm _ _]; exact q1
       have g2 : (w1.alloc (.cells #[encT n0] 9)).cell? ⟨bk,m * 2 + 1,none⟩ = some u := by
        rw [← g1]; simp only [World.cell?,Zai w1 (.cells #[encT n0] 9) kb2]
       have g3 : (w1.alloc (.cells #[encT n0] 9)).frozen? ⟨bk,m * 2 + 1,none⟩ = false := (frozen?_block (Zai w1 (.cells #[encT n0] 9) kb2) _).trans (hfz _)
       have hix : (out1.length : Int) - 1 = (m : Int) := by omega
       have hm9 : m < out1.length := by omega
       have h1' : (1 : Int) < out1.length := by omega
       clear hset hV hob hfz q0 q1 ck0 hm hx0 hxm N1 hlo hol2
       rw [World.setCell_alloc_past _ _ _ _ kb2] at L9 N9
       go_wp2_with (fail)
       go_ret
       exact ⟨_,_,_,rfl,L9,N9⟩
      ·rw [if_neg h1] at hY3
       cases hY3
       have h1' : ¬ (1 : Int) < out1.length := by omega
       go_wp2_with (fail)
       go_ret
       exact ⟨_,_,_,rfl,L1,N1⟩
     ·rw [if_neg c0] at hY3
      by_cases c1 : c = 1
      ·subst c1
       rw [if_pos rfl] at hY3
       by_cases h1 : 0 < out2.length
       ·rw [if_pos h1] at hY3
        obtain ⟨⟨j,x5⟩,hj,hY4⟩ := Option.bind_eq_some_iff.1 hY3
        clear hY3
        simp only at hj hY4
        split at hY4
        rotate_left
        ·cases hY4
        rename_i hjr
        obtain ⟨⟨t,x6⟩,htx,hY5⟩ := Option.bind_eq_some_iff.1 hY4
        clear hY4
        simp only at htx hY5
        rw [hlo] at hj
        obtain ⟨m,rfl⟩ : ∃ m : Nat,j = m := ⟨j.toNat,by omega⟩
        obtain ⟨⟨nm,tm⟩,hxm⟩ : ∃ p,out2[m]? = some p := ⟨_,List.getElem?_eq_getElem (show m < out2.length by omega)⟩
        rw [Int.toNat_natCast,show nmAt out2 m = nm from by simp [nmAt,hxm]] at hY5
        cases hY5
        have h1' : (0 : Int) < out1.length := by omega
        have hm9 : m < out1.length := by omega
        have hm8 : (m : Int) ≤ 5 := by omega
        clear hjr hm8
        go_wp2_with (fail)
        go_at_call 36
        refine (pick hj N1).mono ?_
        rintro e w2 ⟨rfl,hz2,L2,N2,_⟩
        replace L2 := L1.trans L2
        have text : Calls Try.prog 40 #[p,.slice (some ⟨w2.heap.size,0,none⟩) 3 3] (w2.alloc (.cells #[.string ⟨#[122,122]⟩,.string ⟨#[97,103,101,110,116]⟩,.string ⟨#[118,97,114,110,105,115,104,101,114]⟩] 9)) fun r w' => r = .returned (.string ⟨t.toArray⟩) ∧ w2.heap.size ≤ w'.heap.size ∧ Fq S p w2 w' ∧ Rst Try.prog φ S 40 9 K0 x1 p out2 (.slice av out1.length cv) w' ∧ ∀ c,K0 c → w'.heap[c]? = w2.heap[c]? := by
         have := N2.text (t := 9) (hT _ _ _ _ htx) 3 (by decide)
         rw [ht] at this
         exact this
        clear L1 N1
        go_wp2_with (fail)
        go_at_call 40
        refine text.mono ?_
        rintro e w3 ⟨rfl,hz3,L3,N3,_⟩
        clear text N2
        replace L3 := L2.trans L3
        have hS3 := N3.size
        obtain ⟨b,cap,u,obr,eb,⟨b1,b2⟩,q0,q1,hfz,hV,hob,hset⟩ := N3.at hxm
        simp only [Value.slice.injEq] at eb
        obtain ⟨rfl,-,rfl⟩ := eb
        have N9 := (hset _ _ [t] _ (Z27 w3 t 9) (by simp) (fun c hc => by cases hc; exact ⟨by simp,.inr (Nat.le_refl _)⟩) fun c hc _ => Zai _ _ hc).1
        have hzA : (w3.alloc (.cells #[encT t] 9)).heap.size = w3.heap.size + 1 := by simp
        have L9 := (L3.alloc hS3 (.cells #[encT t] 9)).setCell (b := b) (j := m * 2 + 1) (u := .slice (some ⟨w3.heap.size,0,none⟩) 1 1) b1
        rw [show 2 * m = m * 2 from Nat.mul_comm _ _] at N9
        have g1 : w3.cell? ⟨b,m * 2 + 1,none⟩ = some u := by rw [show m * 2 = 2 * m from Nat.mul_comm _ _]; exact q1
        have g2 : (w3.alloc (.cells #[encT t] 9)).cell? ⟨b,m * 2 + 1,none⟩ = some u := by
         rw [← g1]; simp only [World.cell?,Zai w3 (.cells #[encT t] 9) b2]
        have g3 : (w3.alloc (.cells #[encT t] 9)).frozen? ⟨b,m * 2 + 1,none⟩ = false := (frozen?_block (Zai w3 (.cells #[encT t] 9) b2) _).trans (hfz _)
        have g4 : w3.frozen? ⟨b,m * 2 + 1,none⟩ = false := hfz _
        clear hset hV hob hfz q0 q1 hxm N3 hlo hol2 L2 L3
        rw [World.setCell_alloc_past _ _ _ _ b2] at L9 N9
        go_wp2_with (fail)
        go_ret
        exact ⟨_,_,_,rfl,L9,N9⟩
       ·rw [if_neg h1] at hY3
        cases hY3
        have h1' : ¬ (0 : Int) < out1.length := by omega
        go_wp2_with (fail)
        go_ret
        exact ⟨_,_,_,rfl,L1,N1⟩
      ·rw [if_neg c1] at hY3
       by_cases c2 : c = 2
       ·subst c2
        rw [if_pos rfl] at hY3
        obtain ⟨⟨q,x5⟩,hq,hY4⟩ := Option.bind_eq_some_iff.1 hY3
        clear hY3
        simp only at hq hY4
        split at hY4
        rotate_left
        ·cases hY4
        rename_i hqr
        obtain ⟨m,rfl⟩ : ∃ m : Nat,q = m := ⟨q.toNat,by omega⟩
        rw [Int.toNat_natCast] at hY4
        cases hY4
        have hm8 : (m : Int) ≤ 100 := by omega
        clear hqr
        have among : Calls Try.prog 38 #[p,.slice (some ⟨w1.heap.size,0,none⟩) 2 2] (w1.alloc (.cells #[.int .i64 12,.int .i64 13] 2)) fun r w' => r = .returned (.int .i64 m) ∧ w1.heap.size ≤ w'.heap.size ∧ Fq S p w1 w' ∧ Rst Try.prog φ S 40 9 K0 x1 p out2 (.slice av out1.length cv) w' ∧ ∀ c,K0 c → w'.heap[c]? = w1.heap[c]? := by
         have := N1.among (t := 2) (hA _ _ _ _ hq) 2 (by decide)
         rw [ha] at this
         exact this
        go_wp2_with (fail)
        go_at_call 38
        refine among.mono ?_
        rintro e w2 ⟨rfl,hz2,L2,N2,_⟩
        clear among
        replace L2 := L1.trans L2
        have hS2 := N2.size
        have N3 := (N2.keep ((Lo.refl _ _).alloc (Nat.le_refl _) (.cells #[] 40))).out (some ⟨w2.heap.size,0,none⟩)
        have L3 := L2.alloc hS2 (.cells #[] 40)
        clear N1 N2 L1 L2 hol2 hlo
        go_wp2_with (fail)
        go_loopw [4,10] (fun vo kv wr => ∃ k : Nat,kv = .int .i64 k ∧ k ≤ m ∧ Rst Try.prog φ S 40 9 K0 x1 p ((List.range k).map fun k => ([110,UInt8.ofNat (97 + k)],[])) vo wr ∧ Fq S p w wr)
         (fun _ kv _ => ((m : Int) - intOf kv).toNat)
        case atStart => exact ⟨0,rfl,by omega,N3,L3⟩
        case round =>
         clear N3 L3
         obtain ⟨k,rfl,hkm,N3,L3⟩ := hrel
         have hk8 : (k : Int) ≤ 100 := by omega
         rcases Nat.lt_or_ge k m with hlk | hgk
         ·have hlk' : (k : Int) < (m : Int) := by omega
          have hconv := Zaal wr k hk8
          have hS3 := N3.size
          have N4 := (N3.keep ((Lo.refl _ _).alloc (Nat.le_refl _) (.cells #[.int .u8 (97 + k)] 5))).keep ((Lo.refl _ _).alloc (Nat.le_refl _) (.cells #[encT [110,UInt8.ofNat (97 + k)],.slice none 0 0] 40))
          have hzA : (wr.alloc (.cells #[.int .u8 (97 + k)] 5)).heap.size = wr.heap.size + 1 := by simp
          have L4 : Fq S p w ((wr.alloc (.cells #[.int .u8 (97 + k)] 5)).alloc (.cells #[encT [110,UInt8.ofNat (97 + k)],.slice none 0 0] 40)) := (L3.alloc hS3 _).alloc (by omega) _
          obtain ⟨ad,n',cp,w7,hrun,hz7,L7,N7,hk7⟩ := N4.push0 (t := 24) Try.underlying24 hiO sO zO rfl (by rw [bO]; omega) (by simp; omega) (Zdd _ _ rfl) 1 24
          rw [hzA,← dr_str] at hrun
          have L9 := L4.trans (.of_lo L7)
          have N9 : Rst Try.prog φ S 40 9 K0 x1 p ((List.range (k + 1)).map fun k => ([110,UInt8.ofNat (97 + k)],[])) (.slice ad n' cp) w7 := by
           rw [List.range_succ,List.map_append]; exact N7
          clear N4 N3 L3 L4 L7 N7 hk7 hzA hz7
          go_wp2_with (first | (at_builtin; refine wpList_append_run _ rfl _ _ _ _ rfl _ _ rfl rfl hrun ?_) | fail)
          exact ⟨⟨k + 1,rfl,by omega,N9,L9⟩,by simp only [intOf]; omega⟩
         ·obtain rfl : k = m := by omega
          obtain ⟨av2,cv2,rfl⟩ := N3.slice
          go_wp2_with (fail)
          go_ret
          exact ⟨_,_,_,rfl,L3,N3⟩
       ·rw [if_neg c2] at hY3
        cases hY3
        go_wp2_with (fail)
        go_ret
        exact ⟨_,_,_,rfl,L1,N1⟩⟩
end
theorem Zsk : FOk Try.prog phi 949 Zgo := Z2j (g := 949) (go := 642) (gp := 463) (gt := 557) (ga := 445) Zaac (by kernel_rfl) (fun x n y x2 h => Zl8 Zm2 h) (fun x n y x2 h => Zl8 Zcn h) (fun x ns y x2 h => Zl8 Zgp h) (fun x ns y x2 h => Zl8 Zgj h)
theorem Zr5 : FOk Try.prog phi 812 Zfx := fn_ok hm (D := Zka) (DOk.cons Zgp DOk.nil) (by kernel_rfl) _ _ _ _
theorem Zhd : FOk Try.prog phi 729 Zd2 := fn_ok hm (D := Zii) (DOk.cons Zgj (DOk.cons Zcn (DOk.cons Zgp (DOk.cons Zr5 DOk.nil)))) (by kernel_rfl) _ _ _ _
theorem Zxj : FOk Try.prog phi 11 Zkh := fn_ok hm (D := Zq2) DOk.nil (by kernel_rfl) _ _ _ _
theorem Zx3 : FOk Try.prog phi 12 Zkl := fn_ok hm (D := Zq5) DOk.nil (by kernel_rfl) _ _ _ _
theorem Zp7 : FOk Try.prog phi 13 Zh4 := fn_ok hm (D := Zht) (DOk.cons Zxj (DOk.cons Zx3 DOk.nil)) (by kernel_rfl) _ _ _ _
theorem Ze2 : FOk Try.prog phi 740 Zdr := fn_ok hm (D := Zlz) DOk.nil (by kernel_rfl) _ _ _ _
theorem Zov : FOk Try.prog phi 955 Zgw := fn_ok hm (D := Zdw) (DOk.cons Ze2 DOk.nil) (by kernel_rfl) _ _ _ _
theorem Zxf : FOk Try.prog phi 954 Zjv := fn_ok hm (D := Zdy) (DOk.cons Zp7 (DOk.cons Ze2 (DOk.cons Zov DOk.nil))) (by kernel_rfl) _ _ _ _
theorem Z13 : FOk Try.prog phi 1 Zo1 := fn_ok hm (D := Zvh) DOk.nil (by kernel_rfl) _ _ _ _
theorem Znv : FOk Try.prog phi 742 Zgk := fn_ok hm (D := Zoz) (DOk.cons Z13 DOk.nil) (by kernel_rfl) _ _ _ _
theorem Zro : FOk Try.prog phi 952 Ziz := fn_ok hm (D := Zti) (DOk.cons Zp7 (DOk.cons Ze2 (DOk.cons Znv DOk.nil))) (by kernel_rfl) _ _ _ _
theorem Znt : FOk Try.prog phi 953 Zfw := fn_ok hm (D := Zpx) DOk.nil (by kernel_rfl) _ _ _ _
theorem Ziu : FOk Try.prog phi 739 Zfl := fn_ok hm (D := Zj5) (DOk.cons Zro (DOk.cons Znt (DOk.cons Zxf DOk.nil))) (by kernel_rfl) _ _ _ _
theorem Zxs : FOk Try.prog phi 948 Zke := fn_ok hm (D := Zfe) (DOk.cons Ziu (DOk.cons Zro (DOk.cons Znt DOk.nil))) (by kernel_rfl) _ _ _ _
theorem Zp6 : FOk Try.prog phi 730 Zhz := fn_ok hm (D := Zfo) (DOk.cons Zgj (DOk.cons Zcn (DOk.cons Zhd (DOk.cons Zxs (DOk.cons Zsk DOk.nil))))) (by kernel_rfl) _ _ _ _
theorem Zsf : FOk Try.prog phi 309 Zgn := fn_ok hm (D := Zeu) (DOk.cons Zq0 (DOk.cons Zm2 (DOk.cons Zhd (DOk.cons Zp6 DOk.nil)))) (by kernel_rfl) _ _ _ _
theorem Zzp : FOk Try.prog phi 22 Zly := fn_ok hm (D := Zrt) DOk.nil (by kernel_rfl) _ _ _ _
theorem Zrb : FOk Try.prog phi 21 Zkt := fn_ok hm (D := Zzj) DOk.nil (by kernel_rfl) _ _ _ _
theorem Zrp : FOk Try.prog phi 24 Ziv := fn_ok hm (D := Zix) (DOk.cons Zrb (DOk.cons Zzp DOk.nil)) (by kernel_rfl) _ _ _ _
theorem Zxz : FOk Try.prog phi 983 Zkb := fn_ok hm (D := Zqk) DOk.nil (by kernel_rfl) _ _ _ _
theorem Zdn : FOk Try.prog phi 1282 Za0 := fn_ok hm (D := Zaz) (DOk.cons Zxz DOk.nil) (by kernel_rfl) _ _ _ _
theorem Zlr : FOk Try.prog phi 815 Zgl := fn_ok hm (D := Ztk) (DOk.cons Zdn DOk.nil) (by kernel_rfl) _ _ _ _
theorem Zjc : FOk Try.prog phi 634 Zc2 := fn_ok hm (D := Zc1) DOk.nil (by kernel_rfl) _ _ _ _
theorem Zbj : FOk Try.prog phi 985 Zbm := fn_ok hm (D := Zd1) (DOk.cons Zjc DOk.nil) (by kernel_rfl) _ _ _ _
theorem Zjr : FOk Try.prog phi 823 Zc6 := Z86 Try.lays190 (by kernel_rfl)
theorem Zh8 : FOk Try.prog phi 861 Zcr := Z4p Try.lays194 (by kernel_rfl)
theorem Zwi : FOk Try.prog phi 520 Zi5 := fn_ok hm (D := Zo9) (DOk.cons Zjr (DOk.cons Zh8 DOk.nil)) (by kernel_rfl) _ _ _ _
theorem Znd : FOk Try.prog phi 816 Zpe := fn_ok hm (D := Zks) (DOk.cons Zwi (DOk.cons Zlr (DOk.cons Zbj DOk.nil))) (by kernel_rfl) _ _ _ _
theorem Zu5 : FOk Try.prog phi 817 Zia := fn_ok hm (D := Zde) (DOk.cons Zrb (DOk.cons Zrp (DOk.cons Zlr (DOk.cons Znd (DOk.cons Zbj DOk.nil))))) (by kernel_rfl) _ _ _ _
theorem Z0c : FOk Try.prog phi 23 Znm := fn_ok hm (D := Zte) DOk.nil (by kernel_rfl) _ _ _ _
theorem Zxl : FOk Try.prog phi 813 Zj1 := fn_ok hm (D := Zqf) (DOk.cons Z0c DOk.nil) (by kernel_rfl) _ _ _ _
theorem Zqr : FOk Try.prog phi 735 Zhs := fn_ok hm (D := Zr7) (DOk.cons Zrp (DOk.cons Zxl (DOk.cons Zlr DOk.nil))) (by kernel_rfl) _ _ _ _
theorem Zvi : FOk Try.prog phi 950 Zij := Zj0 Try.lays106 (by kernel_rfl)
theorem Zfq : FOk Try.prog phi 734 Zc7 := fn_ok hm (D := Zkq) (DOk.cons Zvi DOk.nil) (by kernel_rfl) _ _ _ _
theorem Zet : FOk Try.prog phi 736 Zcy := fn_ok hm (D := Ze8) (DOk.cons Zrb (DOk.cons Zfq (DOk.cons Zqr (DOk.cons Zu5 DOk.nil)))) (by kernel_rfl) _ _ _ _
theorem Zbz : FOk Try.prog phi 1299 Zaf := fn_ok hm (D := Zag) (DOk.cons Zfq DOk.nil) (by kernel_rfl) _ _ _ _
theorem Zd4 : FOk Try.prog phi 731 Zce := fn_ok hm (D := Zhi) DOk.nil (by kernel_rfl) _ _ _ _
section
open Go.Shelf Go.Proofs
theorem Zy6 : (Try.prog.info? 27).map (fun i => (i.zero,i.size,i.bytes)) = some (some (.agg #[.string ⟨#[]⟩,.string ⟨#[]⟩,.int .i64 0]),3,40) := by kernel_rfl
set_option maxHeartbeats 3200000 in
theorem Z57 : Zy0 Try.prog 24 3 := ⟨⟨_,Try.func24,by decide +kernel,rfl⟩,by
 intro ad va vo vc xs w hx hc h1 hva
 obtain ⟨i,hi,he⟩ := Option.map_eq_some_iff.1 Zy6
 simp only [Prod.mk.injEq] at he
 obtain ⟨hz0,hsz,hby⟩ := he
 obtain ⟨cp,w1,hrun,q1,q2,q3,q4,q5⟩ := Zaaa (vc := vc) (ad := ad) Try.underlying25 hi hsz hz0 rfl (by rw [hby]; decide) hx hc h1 25
 go_enter Try.func24,Try.ntmps24
 go_wp2_with (first | (at_builtin; refine Go.Lib.wpList_append_run _ rfl _ _ _ _ rfl _ _ rfl rfl _ _ hrun ?_) | fail)
 go_ret
 exact ⟨_,cp,rfl,q1,Nat.le_refl _,q2,q3,q4,q5⟩,by
 intro b o n c i va vo vc cs xs w hc0 hnc hin hn hl hcs hr hx hc hne h1c h1 hva hsh
 obtain ⟨iE,hi,he⟩ := Option.map_eq_some_iff.1 Zy6
 simp only [Prod.mk.injEq] at he
 obtain ⟨hz0,hsz,hby⟩ := he
 have hbw : b < w.heap.size := hr.lt
 rcases Nat.lt_or_ge i n with hlt | hge
 ·have hI : ¬ ((i : Int) = (n : Int)) := by omega
  have hszm : (Try.prog.info? 27).map (·.size) = some 3 := by rw [hi]; simp [hsz]
  have hzE : ∀ w,(Go.sizeOf 27).run Try.prog w = .ok 3 w := fun w => by simp [Go.sizeOf,typeInfo,hi,hsz]
  have hdl : (cs.drop (i * 3)).length = (n - i) * 3 := by rw [List.length_drop,hl]; omega
  have h1d : ∀ v ∈ cs.drop (i * 3),v.oneCell' = true := fun v hv => h1c v (List.mem_of_mem_drop hv)
  have hb1 : (0 : Int) ≤ (i : Int) + 1 := by omega
  have htn : ((i : Int) + 1).toNat = i + 1 := by omega
  by_cases hroom : n + 1 ≤ c
  ·obtain ⟨tA,kA,hsa,hkA⟩ := hsh
   obtain ⟨C,eC,frC,g1,g2,g3⟩ := id hr
   have hsb : w.shape? b = some (eC,C.size) := by simp [World.shape?,g1]
   have hov : ∀ lb cb,(callFunc 47 #[.slice (some ⟨va,vo,none⟩) 1 vc,.slice (some ⟨b,o + (i + 1) * 3,none⟩) lb cb]).run Try.prog w = .ok (.value (.bool false)) w := fun lb cb => by
    rw [run_callFunc_extern Try.func47 (by kernel_rfl) (by kernel_rfl) (by kernel_rfl) (e := Extern.SlicesOverlaps.overlaps #[25,25] #[4]) (by kernel_rfl),
     Go.Lib.run_overlaps_own w 25 4 27 Try.underlying25 3 hzE ⟨va,vo,none⟩ ⟨b,o + (i + 1) * 3,none⟩ 1 vc lb cb hne tA eC kA C.size hsa hsb hkA (g3 _ (.inl (by omega))) (g3 _ (.inr ⟨rfl,by decide⟩))]
    rfl
   have hcs0 : Cells w.drew b o cs := fun j v hj => hcs j v hj
   have hr0 : Room 3 w.drew b (o + c * 3) := hr
   have hcp1 : ∀ ty dc sc,(Builtin.copy_ #[25,25] ty #[.slice (some ⟨b,o + (i + 1) * 3,none⟩) (n - i) dc,.slice (some ⟨b,o + i * 3,none⟩) (n + 1 - i) sc]).run Try.prog w.drew = .ok (goInt ((n - i : Nat) : Int)) (w.drew.setCells b (o + (i + 1) * 3) (cs.drop (i * 3))) := fun ty dc sc =>
    Zgv w.drew _ _ ty 27 b (o + (i + 1) * 3) (n - i) dc ⟨b,o + i * 3,none⟩ (n + 1 - i) sc (cs.drop (i * 3)) 3 (n - i) Try.underlying25 hszm (by simp only [Nat.min_def]; split <;> omega) hdl
     (fun j v hj => by
       rw [World.cell?_add]
       exact (hcs0.drop (i * 3)) j v hj) (fun j hj => (hr0.cell (by omega)).1) (fun j hj => (hr0.cell (by omega)).2) h1d
   obtain ⟨W1,hW1⟩ : ∃ W1,W1 = w.drew.setCells b (o + (i + 1) * 3) (cs.drop (i * 3)) := ⟨_,rfl⟩
   have hT1 : Turned b w W1 := by rw [hW1]; exact ((Turned.refl b w).drew).setCells (.inl rfl) _ _
   have hr1 : Room 3 W1 b (o + c * 3) := by rw [hW1]; exact Zbn _ _ _ hr0
   have hx1 : Cells W1 va vo xs := hc.of_block (hT1.block va hva hne)
   have hcp2 : ∀ ty dc,(Builtin.copy_ #[25,25] ty #[.slice (some ⟨b,o + i * 3,none⟩) (n + 1 - i) dc,.slice (some ⟨va,vo,none⟩) 1 vc]).run Try.prog W1 = .ok (goInt 1) (W1.setCells b (o + i * 3) xs) := fun ty dc =>
    Zgv W1 _ _ ty 27 b (o + i * 3) (n + 1 - i) dc ⟨va,vo,none⟩ 1 vc xs 3 1 Try.underlying25 hszm (by simp only [Nat.min_def]; split <;> omega) (by omega)
     (fun j v hj => by rw [World.cell?_add]; exact hx1 j v hj) (fun j hj => (hr1.cell (by omega)).1) (fun j hj => (hr1.cell (by omega)).2) h1
   have fin : Cells (W1.setCells b (o + i * 3) xs) b o (cs.take (i * 3) ++ xs ++ cs.drop (i * 3)) := by
    rw [hW1]
    exact Z7v hlt hroom hl hcs0 hr0 hx
   have finT : Turned b w (W1.setCells b (o + i * 3) xs) := hT1.setCells (.inl rfl) _ _
   have finR : Room 3 (W1.setCells b (o + i * 3) xs) b (o + c * 3) := Zbn _ _ _ hr1
   have hngt : ¬ ((n : Int) + 1 > (c : Int)) := by omega
   have hci : ¬ (c = i) := by omega
   have hci1 : ¬ (c = i + 1) := by omega
   have hb3 : (i : Int) ≤ (n : Int) + 1 := by omega
   have hw1 : IntKind.i64.wrap ((i : Int) + 1) = (i : Int) + 1 := by rw [IntKind.wrap_i64]; omega
   have mixed : Try.prog.follows .mixedOrders = true := by kernel_rfl
   clear hcs0 hr0 hr1 hx1 hT1 g1 g2 g3 hsb hsa
   subst hW1
   go_enter Try.func24,Try.ntmps24
   go_wp2_with (simp only [hov])
   go_region_law_o (refine step_copy_runI rfl _ _ 25 25 rfl _ _ (by simp [Act.eval,Act.put]) (by simp [Act.eval,Act.put]) (hcp1 _ _ _) ?_)
   go_wp2_with (at_builtin; refine wpList_copy_runI _ rfl _ _ 25 25 rfl _ _ rfl rfl (hcp2 _ _) ?_)
   go_ret
   exact ⟨b,o,c,rfl,hroom,.inl rfl,fin,finR,finT⟩
  ·have hgt : (n : Int) + 1 > (c : Int) := by omega
   have hzc : ∀ k,(Builtin.zeroCells (Value.agg #[.string ⟨#[]⟩,.string ⟨#[]⟩,.int .i64 0]).cells k).size = k * 3 := fun k => by rw [size_zeroCells]; rfl
   have hold : (Builtin.firstCells iE.size i (.slice (some ⟨b,o,none⟩) i c)).run Try.prog w.drew = .ok (cs.take (i * 3)).toArray w.drew := by
    rw [hsz]
    exact run_firstCells_some w.drew 3 i ⟨b,o,none⟩ i c (cs.take (i * 3)) (by rw [List.length_take]; omega) (fun j v hj => by
     rw [World.cell?_add]
     exact (hcs.take (i * 3)) j v hj)
   have hik : i + (n + 1 - i) = n + 1 := by omega
   have hkk : (n : Int) + 1 - (i : Int) = ((n + 1 - i : Nat) : Int) := by omega
   have hrz := Go.Lib.run_append_grow_zeros w 25 3 25 27 iE _ .i64 .i64 Try.underlying25 Try.underlying3 hi hz0 (some ⟨b,o,none⟩) i c (cs.take (i * 3)) hold (n + 1 - i) (by omega) (by omega) (by omega) (by omega) (by rw [hby]; omega) (by rw [hby,hik]; exact growslice_fits (by omega) (by omega))
   rw [hik,← hkk] at hrz
   obtain ⟨G,hG⟩ : ∃ G,G = grownCap w (n + 1) c 27 := ⟨_,rfl⟩
   have hGn : n + 1 ≤ G := by rw [hG]; exact grownCap_ge w _ _ _
   rw [← hG] at hrz
   obtain ⟨ROW,hROW⟩ : ∃ ROW : Array Value,ROW = (cs.take (i * 3)).toArray ++ Builtin.zeroCells (Value.agg #[.string ⟨#[]⟩,.string ⟨#[]⟩,.int .i64 0]).cells (n + 1 - i) ++ Builtin.zeroCells (Value.agg #[.string ⟨#[]⟩,.string ⟨#[]⟩,.int .i64 0]).cells (G - (n + 1)) := ⟨_,rfl⟩
   rw [← hROW] at hrz
   have hRs : ROW.size = G * 3 := by
    rw [hROW,Array.size_append,Array.size_append,hzc,hzc,List.size_toArray,List.length_take]
    omega
   have hh : (w.drew.alloc (.cells ROW 27)).heap = w.heap.push (.cells ROW 27) := rfl
   have hcell0 : Cells (w.drew.alloc (.cells ROW 27)) w.heap.size 0 (cs.take (i * 3) ++ (Builtin.zeroCells (Value.agg #[.string ⟨#[]⟩,.string ⟨#[]⟩,.int .i64 0]).cells (n + 1 - i)).toList) := by
    have := Ze4 hh
    have e : ROW.toList = (cs.take (i * 3) ++ (Builtin.zeroCells (Value.agg #[.string ⟨#[]⟩,.string ⟨#[]⟩,.int .i64 0]).cells (n + 1 - i)).toList) ++ (Builtin.zeroCells (Value.agg #[.string ⟨#[]⟩,.string ⟨#[]⟩,.int .i64 0]).cells (G - (n + 1))).toList := by rw [hROW]; simp
    rw [e] at this
    exact this.left
   have hroomN : Room 3 (w.drew.alloc (.cells ROW 27)) w.heap.size (G * 3) := by rw [← hRs]; exact Zm4 hh
   have hT : Turned b w (w.drew.alloc (.cells ROW 27)) := ((Turned.refl b w).drew).alloc _
   obtain ⟨W1,hW1⟩ : ∃ W1,W1 = w.drew.alloc (.cells ROW 27) := ⟨_,rfl⟩
   have hW1s : W1.heap.size = w.heap.size + 1 := by rw [hW1,hh]; simp
   rw [← hW1] at hrz hcell0 hroomN hT
   have hxW : Cells W1 va vo xs := hc.of_block (hT.block va hva hne)
   have hcW : Cells W1 b o cs := fun j v hj => by
    have : W1.heap[b]? = w.heap[b]? := by rw [hW1,hh,Array.getElem?_push_lt hbw,Array.getElem?_eq_getElem hbw]
    have h := hcs j v hj
    simp only [World.cell?,this] at h ⊢
    exact h
   have hcpA : ∀ ty dc,(Builtin.copy_ #[25,25] ty #[.slice (some ⟨w.heap.size,i * 3,none⟩) (n + 1 - i) dc,.slice (some ⟨va,vo,none⟩) 1 vc]).run Try.prog W1 = .ok (goInt 1) (W1.setCells w.heap.size (i * 3) xs) := fun ty dc =>
    Zgv W1 _ _ ty 27 w.heap.size (i * 3) (n + 1 - i) dc ⟨va,vo,none⟩ 1 vc xs 3 1 Try.underlying25 hszm (by simp only [Nat.min_def]; split <;> omega) (by omega)
     (fun j v hj => by rw [World.cell?_add]; exact hxW j v hj) (fun j hj => (hroomN.cell (by omega)).1) (fun j hj => (hroomN.cell (by omega)).2) h1
   obtain ⟨W2,hW2⟩ : ∃ W2,W2 = (W1.setCells w.heap.size (i * 3) xs).drew := ⟨_,rfl⟩
   have hT2 : Turned b w W2 := by rw [hW2]; exact (hT.setCells (.inr (Nat.le_refl _)) _ _).drew
   have hroom2 : Room 3 W2 w.heap.size (G * 3) := by rw [hW2]; exact Zbn (b := w.heap.size) xs (i * 3) W1 hroomN
   have hcW2 : Cells W2 b o cs := by
    have : W2.heap[b]? = W1.heap[b]? := by rw [hW2]; exact Zlt _ _ _ _ _ (by omega)
    exact hcW.of_block this
   have hcpB : ∀ ty dc sc,(Builtin.copy_ #[25,25] ty #[.slice (some ⟨w.heap.size,(i + 1) * 3,none⟩) (n + 1 - (i + 1)) dc,.slice (some ⟨b,o + i * 3,none⟩) (n - i) sc]).run Try.prog W2 = .ok (goInt ((n - i : Nat) : Int)) (W2.setCells w.heap.size ((i + 1) * 3) (cs.drop (i * 3))) := fun ty dc sc =>
    Zgv W2 _ _ ty 27 w.heap.size ((i + 1) * 3) (n + 1 - (i + 1)) dc ⟨b,o + i * 3,none⟩ (n - i) sc (cs.drop (i * 3)) 3 (n - i) Try.underlying25 hszm (by simp only [Nat.min_def]; split <;> omega) hdl
     (fun j v hj => by
       rw [World.cell?_add]
       have := (hcW2.drop (i * 3)) j v hj
       exact this) (fun j hj => (hroom2.cell (by omega)).1) (fun j hj => (hroom2.cell (by omega)).2) h1d
   have hGi : ¬ (G = i) := by omega
   have hGi1 : ¬ (G = i + 1) := by omega
   have hci : ¬ (c = i) := by omega
   have hb3 : (i : Int) ≤ (n : Int) := by omega
   have hw1 : IntKind.i64.wrap ((i : Int) + 1) = (i : Int) + 1 := by rw [IntKind.wrap_i64]; omega
   have fin : Cells (W2.setCells w.heap.size ((i + 1) * 3) (cs.drop (i * 3))) w.heap.size 0 (cs.take (i * 3) ++ xs ++ cs.drop (i * 3)) := by
    have := Z7u (w := W1) hlt hl hx (by rw [Array.length_toList,hzc]) hcell0 hroomN (by omega)
    rw [hW2,← drew_setCells]
    intro j v hj
    exact this j v hj
   have finT : Turned b w (W2.setCells w.heap.size ((i + 1) * 3) (cs.drop (i * 3))) := hT2.setCells (.inr (Nat.le_refl _)) _ _
   have finR : Room 3 (W2.setCells w.heap.size ((i + 1) * 3) (cs.drop (i * 3))) w.heap.size (0 + G * 3) := by rw [Nat.zero_add]; exact Zbn _ _ _ hroom2
   have finS : w.heap.size < (W2.setCells w.heap.size ((i + 1) * 3) (cs.drop (i * 3))).heap.size := by
    rw [Zi0,hW2]
    show w.heap.size < (W1.setCells w.heap.size (i * 3) xs).heap.size
    rw [Zi0,hW1s]; omega
   subst hW2
   clear hkk hik hold hROW hG hRs hW1 hh hcell0 hroomN hroom2 hcW hcW2 hxW hzc
   go_enter Try.func24,Try.ntmps24
   go_wp2_with (first
    | (at_builtin; refine Go.Lib.wpList_append_run _ rfl _ _ _ _ rfl _ _ rfl rfl _ _ hrz ?_)
    | (at_builtin; refine wpList_copy_runI _ rfl _ _ 25 25 rfl _ _ rfl rfl (hcpA _ _) ?_))
   have mixed : Try.prog.follows .mixedOrders = true := by kernel_rfl
   go_region_law_o (refine step_copy_runI rfl _ _ 25 25 rfl (.slice (some ⟨w.heap.size,(i + 1) * 3,none⟩) (n + 1 - (i + 1)) (G - (i + 1))) (.slice (some ⟨b,o + i * 3,none⟩) (n - i) (c - i)) (by simp [Act.eval,Act.put]) (by simp [Act.eval,Act.put]) (hcpB 3 (G - (i + 1)) (c - i)) ?_)
   go_wp2
   go_ret
   exact ⟨w.heap.size,0,G,rfl,hGn,.inr ⟨Nat.le_refl _,finS⟩,fin,finR,finT⟩
 ·obtain rfl : i = n := by omega
  obtain ⟨b',o',cp,w1,hrun,q1,q2,q3,q4,q5⟩ := Zaas (vc := vc) Try.underlying25 hi hsz hz0 rfl (by rw [hby]; decide) hnc hn hl hcs hr hx hc h1 25
  go_enter Try.func24,Try.ntmps24
  go_wp2_with (first | (at_builtin; refine Go.Lib.wpList_append_run _ rfl _ _ _ _ rfl _ _ rfl rfl _ _ hrun ?_) | fail)
  all_goals go_ret
  all_goals refine ⟨b',o',cp,rfl,q1,q2,?_,q4,q5⟩
  all_goals (rw [List.take_of_length_le (by omega),List.drop_eq_nil_of_le (by omega),List.append_nil]; exact q3)⟩
end
theorem Zfs : FOk Try.prog phi 732 Zb3 := Z65 (E := Zaa) (by kernel_rfl) (by kernel_rfl) (by decide) Z57 (by kernel_rfl)
theorem Zw8 : FOk Try.prog phi 308 Zkk := fn_ok hm (D := Zqm) (DOk.cons Zd4 (DOk.cons Zfs (DOk.cons Zfq (DOk.cons Zqr (DOk.cons Zet (DOk.cons Zbz DOk.nil)))))) (by kernel_rfl) _ _ _ _
theorem Zf2 : FOk Try.prog phi 738 Zb7 := fn_ok hm (D := Zb8) DOk.nil (by kernel_rfl) _ _ _ _
section
open Go.Shelf Go.Proofs Go.Lib
theorem Z6b : (Try.prog.info? 27).map (fun i => (i.zero,i.size,i.bytes)) = some (some (.agg #[.string ⟨#[]⟩,.string ⟨#[]⟩,.int .i64 0]),3,40) := by kernel_rfl
set_option maxHeartbeats 3200000 in
theorem Z56 : Zys Try.prog 27 3 := ⟨⟨_,Try.func27,by decide +kernel,rfl⟩,by
 intro b o n c i j cs w hc0 hnc hij hjn hn hl hcs hr h1c
 obtain ⟨iE,hi,he⟩ := Option.map_eq_some_iff.1 Z6b
 simp only [Prod.mk.injEq] at he
 obtain ⟨hz0,hsz,hby⟩ := he
 have hbw : b < w.heap.size := hr.lt
 have hzv : ∀ w,(zeroValue 27).run Try.prog w = .ok (.agg #[.string ⟨#[]⟩,.string ⟨#[]⟩,.int .i64 0]) w := fun w => by simp [zeroValue,typeInfo,hi,hz0]
 have hcs0 : Cells w.drew b o cs := fun j v hj => hcs j v hj
 have hr0 : Room 3 w.drew b (o + c * 3) := hr
 obtain ⟨news,hnews⟩ : ∃ news,news = cs.drop (j * 3) := ⟨_,rfl⟩
 have hlen : news.length = (n - j) * 3 := by rw [hnews,List.length_drop,hl]; omega
 obtain ⟨A,hA,hsrc⟩ : ∃ A : Addr,(if c = j then some (⟨b,o,none⟩ : Addr) else some ⟨b,o + j * 3,none⟩) = some A ∧ Hid (∀ t u,news[t]? = some u → w.drew.cell? (A.add t) = some u) := by
  by_cases h : c = j
  ·refine ⟨⟨b,o,none⟩,by simp [h],fun t u hu => ?_⟩
   have h0 : news.length = 0 := by rw [hlen]; omega
   rw [List.length_eq_zero_iff.1 h0] at hu
   simp at hu
  ·refine ⟨⟨b,o + j * 3,none⟩,by simp [h],fun t u hu => ?_⟩
   rw [hnews] at hu
   rw [World.cell?_add]
   exact (hcs0.drop (j * 3)) t u hu
 have s1 : Hid (news.length = (n - j) * 3) := hlen
 have s2 : Hid (∀ u ∈ news,u.oneCell' = true) := fun u hu => h1c u (by rw [hnews] at hu; exact List.mem_of_mem_drop hu)
 have s3 : Hid (∀ t,t < news.length → (w.drew.cell? ⟨b,o + i * 3 + t,none⟩).isSome = true ∧ w.drew.frozen? ⟨b,o + i * 3 + t,none⟩ = false) := fun t ht => by
  rw [hlen] at ht
  rw [Nat.add_assoc]
  exact hr0.cell (by omega)
 obtain ⟨W1,hW1⟩ : ∃ W1,W1 = w.drew.setCells b (o + i * 3) news := ⟨_,rfl⟩
 have hr1 : Room 3 W1 b (o + c * 3) := by rw [hW1]; exact Zbn _ _ _ hr0
 have hT1 : Turned b w W1 := by rw [hW1]; exact ((Turned.refl b w).drew).setCells (.inl rfl) _ _
 have hcl : ∀ ty,(Builtin.clear_ #[25] ty #[.slice (some ⟨b,o + (i + (n - j)) * 3,none⟩) (n - (i + (n - j))) (c - (i + (n - j)))]).run Try.prog W1 = .ok (.tuple #[]) (W1.setCells b (o + (i + (n - j)) * 3) (Builtin.zeroCells (Value.agg #[.string ⟨#[]⟩,.string ⟨#[]⟩,.int .i64 0]).cells (n - (i + (n - j)))).toList) :=
  fun ty => Zw6 W1 _ _ ty _ 3 Try.underlying25 hzv rfl (by decide) b (o + (i + (n - j)) * 3) _ _ (by omega) (fun t ht => by rw [Nat.add_assoc]; exact (hr1.cell (by omega)).1) (fun t ht => by rw [Nat.add_assoc]; exact (hr1.cell (by omega)).2)
 have fin : Cells (W1.setCells b (o + (i + (n - j)) * 3) (Builtin.zeroCells (Value.agg #[.string ⟨#[]⟩,.string ⟨#[]⟩,.int .i64 0]).cells (n - (i + (n - j)))).toList) b o (cs.take (i * 3) ++ cs.drop (j * 3)) := by
  rw [hW1,hnews]
  exact Z7g hij hjn hnc hl hcs0 hr0 (by rw [Array.length_toList,size_zeroCells]; show (n - (i + (n - j))) * 3 = _; congr 1; omega)
 have finT : Turned b w (W1.setCells b (o + (i + (n - j)) * 3) (Builtin.zeroCells (Value.agg #[.string ⟨#[]⟩,.string ⟨#[]⟩,.int .i64 0]).cells (n - (i + (n - j)))).toList) := hT1.setCells (.inl rfl) _ _
 have finR : Room 3 (W1.setCells b (o + (i + (n - j)) * 3) (Builtin.zeroCells (Value.agg #[.string ⟨#[]⟩,.string ⟨#[]⟩,.int .i64 0]).cells (n - (i + (n - j)))).toList) b (o + c * 3) := Zbn _ _ _ hr1
 have hW : Hid (W1 = w.drew.setCells b (o + i * 3) news) := hW1
 have hnij : ¬ ((i : Int) = (j : Int)) := by omega
 have hic : i ≤ c := by omega
 have hjc : j ≤ c := by omega
 have mixed : Try.prog.follows .mixedOrders = true := by kernel_rfl
 clear hW1 hcs0 hr0 hr1 hT1 hnews hlen hcs
 go_enter Try.func27,Try.ntmps27
 go_wp2_with (fail)
 go_region_law_o (refine step_append_room rfl (.tmp 22) (.tmp 25) 25 rfl 27 iE 3 Try.underlying25 hi hsz b o i c (by simp [Act.eval,Act.put]) A (n - j) (c - j) news (by simp [Act.eval,Act.put]) s1.out hsrc.out s2.out (by omega) s3.out ?_; rw [← hW.out])
 go_wp2
 go_ret
 exact ⟨by rw [show n - (j - i) = i + (n - j) by omega]; rfl,fin,finR,finT⟩⟩
end
theorem Zc3 : FOk Try.prog phi 737 Za2 := Zqw (E := Zaa) (by kernel_rfl) (by kernel_rfl) Z56 (by kernel_rfl)
theorem Zt9 : FOk Try.prog phi 307 Zhn := fn_ok hm (D := Zmv) (DOk.cons Zd4 (DOk.cons Zet (DOk.cons Zc3 (DOk.cons Zf2 DOk.nil)))) (by kernel_rfl) _ _ _ _
theorem Zt3 : FOk Try.prog phi 306 Zhk := fn_ok hm (D := Zml) (DOk.cons Ziu DOk.nil) (by kernel_rfl) _ _ _ _
theorem Z0m : FOk Try.prog phi 741 Znk := fn_ok hm (D := Zne) (DOk.cons Ze2 (DOk.cons Zov DOk.nil)) (by kernel_rfl) _ _ _ _
theorem Zui : FOk Try.prog phi 301 Zhh := fn_ok hm (D := Zg3) (DOk.cons Ziu (DOk.cons Ze2 (DOk.cons Z0m (DOk.cons Znv DOk.nil)))) (by kernel_rfl) _ _ _ _
section
open Go.Ab Go.Proofs
open Go.Maps
theorem rg_row : (68 : TypeId) < Try.prog.types.size := of_decide_eq_true (by kernel_rfl)
theorem Zaav : laidOutB Try.prog = true := by kernel_rfl
theorem rg_law : Keyed Try.prog 68 := Keyed.of_law (deep_law_laid Zaav (m := 2) (by omega) rg_row (by kernel_rfl) (by rw [Try.underlying68]))
theorem Z2x : Try.prog.cellsOf 68 = 2 := by kernel_rfl
theorem Z6u : Try.prog.cellsOf 9 = 1 := by kernel_rfl
theorem Z7n : Try.prog.cellsOf 2 = 1 := by kernel_rfl
theorem rg_kt : Try.prog.keyType 68 = true := by kernel_rfl
theorem Zaat (w : World) : (zeroValue 4).run Try.prog w = .ok (.bool false) w := by kernel_rfl
theorem Z9v (d : Nat) (o : List UInt8) (ho : o.length ≤ 1048576) : Try.prog.keyLits (d + 1) 9 [.string ⟨o.toArray⟩] = some [.string o] := by
 have h1 : (ByteArray.mk o.toArray).size ≤ maxLen := Nat.le_trans (show (ByteArray.mk o.toArray).size ≤ 1048576 from ho) (by decide)
 unfold Program.keyLits
 rw [Try.underlying9]
 show (if (ByteArray.mk o.toArray).size ≤ maxLen then _ else _) = _
 rw [if_pos h1]
theorem Z9q (d : Nat) (a : Int) (ha : -1000000 ≤ a ∧ a ≤ 1000000) : Try.prog.keyLits (d + 1) 2 [.int .i64 a] = some [.int .i64 a] := by
 have h2 : (Lit.int .i64 a).wf = true := by simp [Lit.wf,IntKind.min,IntKind.max,IntKind.signed,IntKind.bits]; omega
 unfold Program.keyLits
 rw [Try.underlying2]
 show (if IntKind.i64 = IntKind.i64 ∧ (Lit.int .i64 a).wf = true then _ else _) = _
 rw [if_pos ⟨rfl,h2⟩]
theorem Zaab (d : Nat) (o : List UInt8) (a : Int) (ho : o.length ≤ 1048576) (ha : -1000000 ≤ a ∧ a ≤ 1000000) : Try.prog.keyLits (d + 2) 68 [.string ⟨o.toArray⟩,.int .i64 a] = some [.string o,.int .i64 a] := by
 have e1 := Z9v d o ho
 have e2 := Z9q d a ha
 unfold Program.keyLits
 rw [Try.underlying68]
 simp only [Z2x,List.length_cons,List.length_nil]
 rw [if_pos ⟨trivial,by kernel_rfl⟩]
 simp only [List.mapM_cons,List.mapM_nil,Z6u,Z7n,List.drop_zero,List.drop_succ_cons,List.take_succ_cons,List.take_zero,e1,e2]
 rfl
theorem rg_key (o : List UInt8) (a : Int) (ho : o.length ≤ 1048576) (ha : -1000000 ≤ a ∧ a ≤ 1000000) : keyOf Try.prog 68 (.agg #[.string ⟨o.toArray⟩,.int .i64 a]) = some (.string (keyBytes [.string o,.int .i64 a])) := by
 obtain ⟨d,hd⟩ : ∃ d,Try.prog.types.size + 1 = d + 2 := ⟨Try.prog.types.size - 1,by have : (68 : Nat) < Try.prog.types.size := rg_row; omega⟩
 have hf : (Value.agg #[.string ⟨o.toArray⟩,.int .i64 a]).formed Try.prog 68 = true := by simp [Value.formed,Try.underlying68,Z2x]
 unfold keyOf
 rw [Try.underlying68,rg_kt,hf,hd]
 simp only [Bool.and_self,if_true]
 show Option.map _ (Try.prog.keyLits (d + 2) 68 [.string ⟨o.toArray⟩,.int .i64 a]) = _
 rw [Zaab d o a ho ha]
 rfl
theorem Z2n : (Try.prog.info? 9).map (fun i => (i.zero,i.size,i.bytes)) = some (some (.string ⟨#[]⟩),1,16) := by kernel_rfl
set_option maxHeartbeats 3200000 in
theorem Z5h : Z6h Try.prog 56 61 60 68 4 := ⟨⟨rg_law,fun p hp => rg_key p.1 p.2 hp.1 hp.2⟩,by
 intro φ gu gc un ct hu hc hU hC roles grants nm S hY w K vr vg hr hg hK hG
 show Calls Try.prog 56 #[vr,vg,.string ⟨nm.toArray⟩] w _
 have hkeys : RKeys Try.prog 68 := ⟨rg_law,fun p hp => rg_key p.1 p.2 hp.1 hp.2⟩
 unfold rtF at hY
 split at hY
 rotate_left
 ·cases hY
 rename_i hgl
 obtain ⟨ns,hun,hY1⟩ := Option.bind_eq_some_iff.1 hY
 clear hY
 split at hY1
 rotate_left
 ·cases hY1
 rename_i hnl
 obtain ⟨⟨ag,cg,rfl⟩,hgr⟩ := Z8e hg
 obtain ⟨iS,hiS,heS⟩ := Option.map_eq_some_iff.1 Z2n
 simp only [Prod.mk.injEq] at heS
 obtain ⟨zS,sS,bS⟩ := heS
 have hmm := @run_makeMap Try.prog
 have h0 := (hU roles nm ns hun).own (.cons _ _ _ _ hr (.cons _ _ _ _ (.str nm) .nil)) hK hG
 rw [hu] at h0
 go_enter Try.func56,Try.ntmps56
 go_wp2_with (fail)
 refine h0.mono ?_
 rintro e w1 ⟨a1,n1,c1,rfl,L1,⟨hz1,hpl,ob,hrep,hrange⟩⟩
 clear h0
 have hzA : (w1.alloc (.cells #[.string ⟨nm.toArray⟩] 9)).heap.size = w1.heap.size + 1 := by simp
 obtain ⟨ad,n2,c2,w2,bq,hrun,hz2,hos,hout,hfr,hbq,hbq2,hnames⟩ := Z9m (hrep.keepF (w' := w1.alloc (.cells #[.string ⟨nm.toArray⟩] 9)) fun b hb => Zai _ _ (hrange b hb).2) (t := 38) Try.underlying38 hiS sS zS rfl (by rw [bS]; omega) (by omega) (x := nm) (Zdd _ _ rfl) rfl 1 38
 have hLa := L1.size
 have L2 : Lo w.heap.size w w2 := (L1.alloc L1.size _).trans ⟨hz2,fun b hb => hfr b (by omega) fun e => by have := (hrange b e).1; omega,hos,hout⟩
 have hbqS : w.heap.size ≤ bq := by
  rcases hbq with h | h
  ·exact (hrange bq h).1
  ·omega
 go_wp2_with (first | (at_builtin; refine wpList_append_run _ rfl _ _ _ _ rfl _ _ rfl rfl hrun ?_) | fail)
 have M0 := RMap.made w2 Try.prog 68 4
 have L3 : Lo w.heap.size w (w2.alloc (.map #[] 0)) := L2.alloc L2.size _
 have hL2s := L2.size
 have hz3 : (w2.alloc (.map #[] 0)).heap.size = w2.heap.size + 1 := by simp
 have hbk0 : (w2.alloc (.map #[] 0)).heap[bq]? = w2.heap[bq]? := Zai _ _ hbq2
 clear hrun hrep hfr hbq hmm
 generalize hB : w2.heap.size = B at *
 go_loopw [10,11,21] (fun _ _ iv wr => ∃ (i n : Nat) (S' : List (List UInt8 × Int)),iv = .int .i64 i ∧ i ≤ grants.length ∧ rtG ct (ns ++ [nm]) (grants.drop i) S' = some S ∧ RMap Try.prog 68 4 wr B n S' ∧ n ≤ 1000 * i ∧ B < wr.heap.size ∧ wr.heap[bq]? = w2.heap[bq]? ∧ Lo w.heap.size w wr)
  (fun _ _ iv _ => ((grants.length : Int) - intOf iv).toNat)
 case atStart =>
  exact ⟨0,0,[],rfl,by omega,hY1,M0,by omega,by omega,hbk0,L3⟩
 case round =>
  clear hY1 M0 L3 hbk0 hz3
  obtain ⟨i,n,S',rfl,hi,hS',M,hn,hBl,hbk,L⟩ := hrel
  have hi9 : (i : Int) ≤ 1000 := by omega
  have hgl9 : (grants.length : Int) ≤ 1000 := by omega
  rcases Nat.lt_or_ge i grants.length with hlt | hge
  ·have hlt' : (i : Int) < (grants.length : Int) := by omega
   rw [List.drop_eq_getElem_cons hlt] at hS'
   obtain ⟨b,o,cap,e1,hKb,q1,q2,q3⟩ := hgr i grants[i] (List.getElem?_eq_getElem hlt)
   generalize grants[i] = g at hS' q1 q2 q3
   obtain ⟨g1,g2,g3,rfl⟩ : ∃ (g1 g2 : List UInt8) (g3 : Int),g = (g1,g2,g3,()) := ⟨g.1,g.2.1,g.2.2.1,rfl⟩
   injection e1 with e1 _ e2
   subst e1 e2
   have hbS := hK b hKb
   have q1' : wr.cell? ⟨b,o + i * 3,none⟩ = some (.string ⟨g1.toArray⟩) := by rw [show Value.string ⟨g1.toArray⟩ = encT g1 from rfl,← q1]; simp only [World.cell?,L.block b hbS]
   have q2' : wr.cell? ⟨b,o + i * 3 + 1,none⟩ = some (.string ⟨g2.toArray⟩) := by rw [show Value.string ⟨g2.toArray⟩ = encT g2 from rfl,← q2]; simp only [World.cell?,L.block b hbS]
   have q3' : wr.cell? ⟨b,o + i * 3 + 2,none⟩ = some (.int .i64 g3) := by rw [← q3]; simp only [World.cell?,L.block b hbS]
   clear q1 q2 q3
   unfold rtG at hS'
   split at hS'
   rotate_left
   ·cases hS'
   rename_i hsz
   have hg3 : g3 ≤ 1000 := hsz.2
   have hg2 : g2.length ≤ 1048576 := hsz.1
   obtain ⟨cb,hct,hS2⟩ := Option.bind_eq_some_iff.1 hS'
   clear hS'
   go_wp2_with (fail)
   have hx1 : (wr.alloc (.cells #[.string ⟨g1.toArray⟩,.string ⟨g2.toArray⟩,.int .i64 g3] 27)).heap[bq]? = w2.heap[bq]? := (Zai _ _ (by omega)).trans hbk
   have hzx : (wr.alloc (.cells #[.string ⟨g1.toArray⟩,.string ⟨g2.toArray⟩,.int .i64 g3] 27)).heap.size = wr.heap.size + 1 := by simp
   have hLr := L.size
   have hold : ∀ c,c < wr.heap.size → (wr.alloc (.cells #[.string ⟨g1.toArray⟩,.string ⟨g2.toArray⟩,.int .i64 g3] 27)).heap[c]? = wr.heap[c]? := fun c hc => Zai _ _ hc
   have hnew : (wr.alloc (.cells #[.string ⟨g1.toArray⟩,.string ⟨g2.toArray⟩,.int .i64 g3] 27)).heap[wr.heap.size]? = some (.cells #[.string ⟨g1.toArray⟩,.string ⟨g2.toArray⟩,.int .i64 g3] 27) := Zdd _ _ rfl
   have Lx : Lo w.heap.size w (wr.alloc (.cells #[.string ⟨g1.toArray⟩,.string ⟨g2.toArray⟩,.int .i64 g3] 27)) := L.alloc L.size _
   have hcall := (hC _ _ _ hct).truth (w := wr.alloc (.cells #[.string ⟨g1.toArray⟩,.string ⟨g2.toArray⟩,.int .i64 g3] 27)) (K := fun c => K c ∨ c = bq)
    (.cons _ _ _ _ (hnames.mono (fun c hc => by subst hc; exact hx1) fun c hc => .inr hc) (.cons _ _ _ _ (.str g1) .nil)) (fun c hc => by
      rcases hc with hc | hc
      ·have := hK c hc; omega
      ·omega) (hG.on (fun c hc => .inl hc) fun c hc => Lx.block c (hK c hc))
   rw [hc] at hcall
   refine hcall.mono ?_
   rintro e wy ⟨rfl,Ly⟩
   have hyb := Ly.block
   have hyz := Ly.size
   have Lw : Lo w.heap.size w wy := Lx.trans (Ly.mono (by omega))
   have My : RMap Try.prog 68 4 wy B n S' := M.keep ((hyb B (by omega)).trans (hold B hBl))
   have hxy : wy.heap[wr.heap.size]? = some (.cells #[.string ⟨g1.toArray⟩,.string ⟨g2.toArray⟩,.int .i64 g3] 27) := (hyb _ (by omega)).trans hnew
   have hby : wy.heap[bq]? = w2.heap[bq]? := (hyb bq (by omega)).trans hx1
   have hBx : B ≠ wr.heap.size := by omega
   generalize hBX : wr.heap.size = Bx at *
   clear hcall hnew hold hx1 Lx M L hbk hyb Ly
   cases cb with
   | false =>
     go_wp2_with (fail)
     exact ⟨⟨i + 1,n,S',rfl,by omega,hS2,My,by omega,by omega,hby,Lw⟩,by simp only [intOf]; omega⟩
   | true =>
     simp only [if_true] at hS2
     generalize hT : actsR g2 g3.toNat 1 S' = T at hS2
     go_wp2_with (fail)
     go_loopw [11] (fun av wz => ∃ (a : Int) (r n2 : Nat) (S2 : List (List UInt8 × Int)),av = .int .i64 a ∧ 1 ≤ a ∧ a + r = (g3.toNat : Int) + 1 ∧ actsR g2 r a S2 = T ∧ RMap Try.prog 68 4 wz B n2 S2 ∧ n2 + r ≤ n + 1000 ∧ (∀ c,c < wy.heap.size → c ≠ B → wz.heap[c]? = wy.heap[c]?) ∧ wy.heap.size ≤ wz.heap.size ∧ Lo w.heap.size w wz)
      (fun av _ => (g3 + 1 - intOf av).toNat)
     case atStart => exact ⟨1,g3.toNat,n,S',rfl,by omega,by omega,hT,My,by omega,fun c _ _ => rfl,Nat.le_refl _,Lw⟩
     case round =>
      obtain ⟨a,r,n2,S2,rfl,ha1,har,hact,M2,hn2,hfz,hzz,Lz⟩ := hrel
      have hxz : wr.heap[Bx]? = some (.cells #[.string ⟨g1.toArray⟩,.string ⟨g2.toArray⟩,.int .i64 g3] 27) := (hfz Bx (by omega) (Ne.symm hBx)).trans hxy
      have x1 : wr.cell? ⟨Bx,1,none⟩ = some (.string ⟨g2.toArray⟩) := by simp [World.cell?,hxz]
      have x2 : wr.cell? ⟨Bx,2,none⟩ = some (.int .i64 g3) := by simp [World.cell?,hxz]
      cases r with
      | succ r =>
        have hle : a ≤ g3 := by omega
        have ha9 : a ≤ 1000 := by omega
        have hp : rsm (g2,a) := ⟨hsz.1,by omega,by omega⟩
        have hmax : n2 < maxLen := Nat.lt_of_le_of_lt (show n2 ≤ 10000000 by omega) (by decide)
        go_wp2_with (first | (at_mapUpdate; refine Z3x rfl _ _ _ 91 rfl hkeys Try.underlying91 Try.underlying4 rfl M2 hmax hp rfl rfl ?_; intro wn hM3 hgr) | fail)
        have hgo : ∀ c,c < wr.heap.size → c ≠ B → wn.heap[c]? = wr.heap[c]? := fun c h1 h2 => hgr.block c h1 fun e => h2 (by cases e; rfl)
        have hgz : wr.heap.size ≤ wn.heap.size := hgr.size
        have Ln : Lo w.heap.size w wn := Lz.trans ⟨hgz,fun c hc => hgo c (by omega) (by omega),hgr.os,hgr.output⟩
        exact ⟨⟨a + 1,r,n2 + 1,insR S2 (g2,a),rfl,by omega,by omega,hact,hM3,by omega,fun c h1 h2 => (hgo c (by omega) h2).trans (hfz c h1 h2),by omega,Ln⟩,by simp only [intOf]; omega⟩
      | zero =>
        have hgt : ¬ a ≤ g3 := by omega
        have hact2 : S2 = T := hact
        subst hact2
        go_wp2_with (fail)
        exact ⟨⟨i + 1,n2,S2,rfl,by omega,hS2,M2,by omega,by omega,(hfz bq (by omega) (by omega)).trans hby,Lz⟩,by simp only [intOf]; omega⟩
  ·obtain rfl : i = grants.length := by omega
   rw [List.drop_length] at hS'
   cases hS'
   go_wp2_with (fail)
   go_ret
   exact ⟨_,_,rfl,L,hL2s,M⟩⟩
end
section
open Go.Ab Go.Proofs
set_option linter.unusedSimpArgs false
theorem Z2s {P : Program} {ops : Array Oper} {o : Oper} {a : Act} {K : Act → World → Prop} {Q : Exit → Act → World → Prop} {E : Prop} {w : World} {b : Nat} {n : Int} {t ty : TypeId} (hr : (Builtin.len_ #[t] ty #[.map (some b)]).run P w = .ok (.int .i64 n) w) (hgd : o.guard = none) (x : Operand) (hty : o.type = ty)
 (ho : o.op = .call { callee := .builtin .len,args := #[x],argTypes := #[t] }) (hx : a.eval x = .map (some b)) (h : K (a.put o.dst (.int .i64 n)) w) : if Region.wanted o (yielded ops a.tmps) = true then Oper.wp P o a w K Q else E := by
 have hw : Region.wanted o (yielded ops a.tmps) = true := by simp [Region.wanted,hgd]
 rw [if_pos hw]
 subst hty
 unfold Oper.wp
 simp only [execOp,ho,resolve,invoke,builtin,Sem.run_bind,Sem.run_pure,Result.andThen_ok,List.map_toArray,List.map_cons,List.map_nil,hx,hr]
 exact h
set_option maxHeartbeats 3200000 in
theorem Zaak : CmpWalk Try.prog 55 61 60 := ⟨⟨_,Try.func55,by decide +kernel,rfl⟩,by
 intro φ gu gc un ct hu hc hU hC x roles a b y hY w K v vr va vb b1 o1 b2 o2 b3 o3 hv hvr hva hvb k1 c1 k2 c2 k3 c3 hK hG
 unfold cmpF at hY
 obtain ⟨SA,hSA,hY1⟩ := Option.bind_eq_some_iff.1 hY
 obtain ⟨SB,hSB,hY2⟩ := Option.bind_eq_some_iff.1 hY1
 cases hY2
 clear hY hY1
 obtain ⟨x1,x2,rfl⟩ : ∃ (x1 : List UInt8) (x2 : List (List UInt8)),x = (x1,x2,()) := ⟨x.1,x.2.1,rfl⟩
 obtain ⟨ux,rfl⟩ : ∃ ux,v = .agg #[.string ⟨x1.toArray⟩,ux] := by
  have hv' : Rep φ w K v (.agg [.str x1,.sl 1 (x2.map strE.enc)]) := hv
  cases hv' with
  | agg vs cs h =>
    cases h with
    | cons v1 _ vs1 _ r1 t1 =>
    cases t1 with
    | cons v2 _ vs2 _ r2 t2 =>
    cases t2; cases r1
    exact ⟨v2,rfl⟩
 have rt : ∀ (gs : List grantE.ty) (vg : Value) (S : List (List UInt8 × Int)),rtF un ct roles gs x1 = some S → Rep φ w K vg (.sl 3 (gs.map grantE.enc)) → ∀ W,Lo w.heap.size w W →
  Calls Try.prog 56 #[vr,vg,.string ⟨x1.toArray⟩] W fun r W' => ∃ b n,r = .returned (.map (some b)) ∧ Lo w.heap.size w W' ∧ Lo W.heap.size W W' ∧ RMap Try.prog 68 4 W' b n S := fun gs vg S hS hg W hL => by
  have hz := hL.size
  refine (Z5h.run φ gu gc un ct hu hc hU hC roles gs x1 S hS W K vr vg (hvr.mono (fun c hc => hL.block c (hK c hc)) fun _ h => h) (hg.mono (fun c hc => hL.block c (hK c hc)) fun _ h => h) (fun c hc => Nat.lt_of_lt_of_le (hK c hc) hz) (hG.on (fun _ h => h) fun c hc => hL.block c (hK c hc))).mono ?_
  rintro e W' ⟨b,n,h1,h2,h3,h4⟩
  exact ⟨b,n,h1,hL.trans (h2.mono hz),h2,h4⟩
 have rtA := rt a va SA hSA hva
 have rtB := rt b vb SB hSB hvb
 have q1 := hK b1 k1
 have q2 := hK b2 k2
 have q3 := hK b3 k3
 clear rt hU hC hSA hSB
 go_enter Try.func55,Try.ntmps55
 go_wp2_with (fail)
 have hz0 : (w.alloc (.cells #[.string ⟨x1.toArray⟩,ux] 40)).heap.size = w.heap.size + 1 := by simp
 have L0 : Lo w.heap.size w (w.alloc (.cells #[.string ⟨x1.toArray⟩,ux] 40)).drew := Lo.drew ((Lo.refl _ _).alloc (Nat.le_refl _) _)
 have hb0 : (w.alloc (.cells #[.string ⟨x1.toArray⟩,ux] 40)).heap[w.heap.size]? = some (.cells #[.string ⟨x1.toArray⟩,ux] 40) := Zdd _ _ rfl
 have d0 : (w.alloc (.cells #[.string ⟨x1.toArray⟩,ux] 40)).drew.cell? ⟨w.heap.size,0,none⟩ = some (.string ⟨x1.toArray⟩) := by
  show (w.alloc (.cells #[.string ⟨x1.toArray⟩,ux] 40)).cell? ⟨w.heap.size,0,none⟩ = _
  simp only [World.cell?,hb0]; rfl
 have keepC : ∀ {W W' : World} {q o : Nat} {u : Value},Lo W.heap.size W W' → q < W.heap.size → W.cell? ⟨q,o,none⟩ = some u → W'.cell? ⟨q,o,none⟩ = some u := fun hL hq h => by
  rw [← h]; simp only [World.cell?,hL.block _ hq]
 have e1 : (w.alloc (.cells #[.string ⟨x1.toArray⟩,ux] 40)).drew.cell? ⟨b1,o1,none⟩ = some vr := by rw [← c1]; show (w.alloc _).cell? _ = _; simp only [World.cell?,Zai w (.cells #[.string ⟨x1.toArray⟩,ux] 40) q1]
 have e2 : (w.alloc (.cells #[.string ⟨x1.toArray⟩,ux] 40)).drew.cell? ⟨b2,o2,none⟩ = some va := by rw [← c2]; show (w.alloc _).cell? _ = _; simp only [World.cell?,Zai w (.cells #[.string ⟨x1.toArray⟩,ux] 40) q2]
 have e3 : (w.alloc (.cells #[.string ⟨x1.toArray⟩,ux] 40)).drew.cell? ⟨b3,o3,none⟩ = some vb := by rw [← c3]; show (w.alloc _).cell? _ = _; simp only [World.cell?,Zai w (.cells #[.string ⟨x1.toArray⟩,ux] 40) q3]
 have hA0 := rtA _ L0
 have hzd : (w.alloc (.cells #[.string ⟨x1.toArray⟩,ux] 40)).drew.heap.size = w.heap.size + 1 := hz0
 clear rtA
 generalize hW : (w.alloc (.cells #[.string ⟨x1.toArray⟩,ux] 40)).drew = W0 at d0 e1 e2 e3 hA0 hzd L0
 refine wp_region_held_drew (S := fun w' => w'.cell? ⟨b1,o1,none⟩ = some vr ∧ w'.cell? ⟨b2,o2,none⟩ = some va ∧ w'.cell? ⟨b3,o3,none⟩ = some vb ∧ w'.cell? ⟨w.heap.size,0,none⟩ = some (.string ⟨x1.toArray⟩)) (by kernel_rfl) ?_ (fun hHeld => ?_)
 ·rw [hW]; exact ⟨e1,e2,e3,d0⟩
 rw [hW] at hHeld ⊢
 refine wpAnyH_take (i := 0) (oi := _) (v := vr) rfl (by kernel_rfl) (by kernel_rfl) (by kernel_rfl) (fun _ _ _ h => h) (Or.inl ⟨by rfl,fun w hSw => by (try dsimp only at hSw); go_simp⟩) (by assumption) ?_
 try simp only [List.getElem_toArray,List.getElem_cons_succ,List.getElem_cons_zero,Act.put,List.setIfInBounds_toArray,List.set_cons_zero,List.set_cons_succ]
 refine wpAnyH_take (i := 1) (oi := _) (v := va) rfl (by kernel_rfl) (by kernel_rfl) (by kernel_rfl) (fun _ _ _ h => h) (Or.inl ⟨by rfl,fun w hSw => by (try dsimp only at hSw); go_simp⟩) (by assumption) ?_
 try simp only [List.getElem_toArray,List.getElem_cons_succ,List.getElem_cons_zero,Act.put,List.setIfInBounds_toArray,List.set_cons_zero,List.set_cons_succ]
 refine wpAnyH_take (i := 2) (oi := _) (v := (.pointer (some ⟨w.heap.size,0,none⟩))) rfl (by kernel_rfl) (by kernel_rfl) (by kernel_rfl) (fun _ _ _ h => h) (Or.inl ⟨by rfl,fun w hSw => by (try dsimp only at hSw); go_simp⟩) (by assumption) ?_
 try simp only [List.getElem_toArray,List.getElem_cons_succ,List.getElem_cons_zero,Act.put,List.setIfInBounds_toArray,List.set_cons_zero,List.set_cons_succ]
 refine wpAnyH_take (i := 3) (oi := _) (v := (.string ⟨x1.toArray⟩)) rfl (by kernel_rfl) (by kernel_rfl) (by kernel_rfl) (fun _ _ _ h => h) (Or.inl ⟨by rfl,fun w hSw => by (try dsimp only at hSw); go_simp⟩) (by assumption) ?_
 try simp only [List.getElem_toArray,List.getElem_cons_succ,List.getElem_cons_zero,Act.put,List.setIfInBounds_toArray,List.set_cons_zero,List.set_cons_succ]
 refine wpAnyH_take (i := 6) (oi := _) (v := vr) rfl (by kernel_rfl) (by kernel_rfl) (by kernel_rfl) (fun _ _ _ h => h) (Or.inl ⟨by rfl,fun w hSw => by (try dsimp only at hSw); go_simp⟩) (by assumption) ?_
 try simp only [List.getElem_toArray,List.getElem_cons_succ,List.getElem_cons_zero,Act.put,List.setIfInBounds_toArray,List.set_cons_zero,List.set_cons_succ]
 refine wpAnyH_take (i := 7) (oi := _) (v := vb) rfl (by kernel_rfl) (by kernel_rfl) (by kernel_rfl) (fun _ _ _ h => h) (Or.inl ⟨by rfl,fun w hSw => by (try dsimp only at hSw); go_simp⟩) (by assumption) ?_
 try simp only [List.getElem_toArray,List.getElem_cons_succ,List.getElem_cons_zero,Act.put,List.setIfInBounds_toArray,List.set_cons_zero,List.set_cons_succ]
 refine wpAnyH_take (i := 8) (oi := _) (v := (.pointer (some ⟨w.heap.size,0,none⟩))) rfl (by kernel_rfl) (by kernel_rfl) (by kernel_rfl) (fun _ _ _ h => h) (Or.inl ⟨by rfl,fun w hSw => by (try dsimp only at hSw); go_simp⟩) (by assumption) ?_
 try simp only [List.getElem_toArray,List.getElem_cons_succ,List.getElem_cons_zero,Act.put,List.setIfInBounds_toArray,List.set_cons_zero,List.set_cons_succ]
 refine wpAnyH_take (i := 9) (oi := _) (v := (.string ⟨x1.toArray⟩)) rfl (by kernel_rfl) (by kernel_rfl) (by kernel_rfl) (fun _ _ _ h => h) (Or.inl ⟨by rfl,fun w hSw => by (try dsimp only at hSw); go_simp⟩) (by assumption) ?_
 try simp only [List.getElem_toArray,List.getElem_cons_succ,List.getElem_cons_zero,Act.put,List.setIfInBounds_toArray,List.set_cons_zero,List.set_cons_succ]
 refine wpAnyH_ready (rs := [4]) (by kernel_rfl) (by simp) ?_
 refine AllReadyH.cons (o := _) rfl (fun K hK => ?_) AllReadyH.nil
 go_simp
 go_at_call 56; refine hA0.mono ?_; rintro e wA ⟨ba,na,rfl,LA,LA',MA⟩; have f1 := keepC LA' (by omega) e1; have f2 := keepC LA' (by omega) e2; have f3 := keepC LA' (by omega) e3; have f0 := keepC LA' (by omega) d0; have hsA := LA'.size; clear hA0; have hB0 := rtB wA LA; clear rtB; have hlA := MA.len (t := 91) Try.underlying91 3
 refine hK.out _ _ ⟨f1,f2,f3,f0⟩ (fun hHeld => ?_)
 clear hK K
 try simp only [List.getElem_toArray,List.getElem_cons_succ,List.getElem_cons_zero,Act.put,List.setIfInBounds_toArray,List.set_cons_zero,List.set_cons_succ]
 refine wpAnyH_ready (rs := [5]) (by kernel_rfl) (by simp) ?_
 refine AllReadyH.cons (o := _) rfl (fun K hK => ?_) AllReadyH.nil
 refine Z2s hlA rfl _ rfl rfl rfl ?_
 refine hK.out _ _ ⟨f1,f2,f3,f0⟩ (fun hHeld => ?_)
 clear hK K
 try simp only [List.getElem_toArray,List.getElem_cons_succ,List.getElem_cons_zero,Act.put,List.setIfInBounds_toArray,List.set_cons_zero,List.set_cons_succ]
 refine wpAnyH_ready (rs := [10]) (by kernel_rfl) (by simp) ?_
 refine AllReadyH.cons (o := _) rfl (fun K hK => ?_) AllReadyH.nil
 go_simp
 go_at_call 56; refine hB0.mono ?_; rintro e wB ⟨bb,nb,rfl,LB,LB',MB⟩; have g1 := keepC LB' (by omega) f1; have g2 := keepC LB' (by omega) f2; have g3 := keepC LB' (by omega) f3; have g0 := keepC LB' (by omega) f0; clear hB0 hlA; have hlB := MB.len (t := 91) Try.underlying91 3
 refine hK.out _ _ ⟨g1,g2,g3,g0⟩ (fun hHeld => ?_)
 clear hK K
 try simp only [List.getElem_toArray,List.getElem_cons_succ,List.getElem_cons_zero,Act.put,List.setIfInBounds_toArray,List.set_cons_zero,List.set_cons_succ]
 refine wpAnyH_ready (rs := [11]) (by kernel_rfl) (by simp) ?_
 refine AllReadyH.cons (o := _) rfl (fun K hK => ?_) AllReadyH.nil
 refine Z2s hlB rfl _ rfl rfl rfl ?_
 refine hK.out _ _ ⟨g1,g2,g3,g0⟩ (fun hHeld => ?_)
 clear hK K
 try simp only [List.getElem_toArray,List.getElem_cons_succ,List.getElem_cons_zero,Act.put,List.setIfInBounds_toArray,List.set_cons_zero,List.set_cons_succ]
 refine' wpAnyH_take (i := 12) (oi := _) (v := ?v12) rfl (by kernel_rfl) (by kernel_rfl) (by kernel_rfl) (fun _ _ _ h => h) (Or.inl ⟨by rfl,?y12⟩) (by assumption) ?r12
 case y12 => (intro w hSw; (try dsimp only at hSw); go_simp; (try with_reducible rfl))
 try simp only [List.getElem_toArray,List.getElem_cons_succ,List.getElem_cons_zero,Act.put,List.setIfInBounds_toArray,List.set_cons_zero,List.set_cons_succ]
 refine' wpAnyH_take (i := 13) (oi := _) (v := ?v13) rfl (by kernel_rfl) (by kernel_rfl) (by kernel_rfl) (fun _ _ _ h => h) (Or.inl ⟨by rfl,?y13⟩) (by assumption) ?r13
 case y13 => (intro w hSw; (try dsimp only at hSw); go_simp; (try with_reducible rfl))
 try simp only [List.getElem_toArray,List.getElem_cons_succ,List.getElem_cons_zero,Act.put,List.setIfInBounds_toArray,List.set_cons_zero,List.set_cons_succ]
 refine wpAnyH_done (by kernel_rfl) ?_ _
 go_wp2_with (fail)
 go_ret
 exact ⟨rfl,LB⟩⟩
end
theorem Zkv : FOk Try.prog phi 956 Zev := cmp_ok (g := 956) (gu := 816) (gc := 985) Zaak (by kernel_rfl) (fun r n y h => Zwp Znd h) (fun l x y h => Zze Zbj h)
theorem Zdc : FOk Try.prog phi 1300 Zav := fn_ok hm (D := Zau) (DOk.cons Zkv DOk.nil) (by kernel_rfl) _ _ _ _
theorem Zcx : FOk Try.prog phi 1301 Zao := fn_ok hm (D := Za7) (DOk.cons Zkv (DOk.cons Zdc DOk.nil)) (by kernel_rfl) _ _ _ _
theorem Zvd : FOk Try.prog phi 743 Zh7 := fn_ok hm (D := Zn3) (DOk.cons Zcx DOk.nil) (by kernel_rfl) _ _ _ _
theorem Zrd : FOk Try.prog phi 305 Zfp := fn_ok hm (D := Zfm) (DOk.cons Zd4 (DOk.cons Zet (DOk.cons Zc3 (DOk.cons Zvd DOk.nil)))) (by kernel_rfl) _ _ _ _
theorem Zx8 : FOk Try.prog phi 71 Zki := fn_ok hm (D := Zkp) DOk.nil (by kernel_rfl) _ _ _ _
theorem Zvw : FOk Try.prog phi 744 Zib := fn_ok hm (D := Zn1) DOk.nil (by kernel_rfl) _ _ _ _
theorem Zuf : FOk Try.prog phi 304 Zg5 := fn_ok hm (D := Zhb) (DOk.cons Ziu (DOk.cons Zvw DOk.nil)) (by kernel_rfl) _ _ _ _
theorem Zp1 : FOk Try.prog phi 303 Zfh := fn_ok hm (D := Zis) (DOk.cons Zq0 (DOk.cons Zhd (DOk.cons Zp6 DOk.nil))) (by kernel_rfl) _ _ _ _
section
open Go.Ab Go.Proofs
set_option linter.unusedSimpArgs false
theorem Zye (S : List (List UInt8 × Int)) : ∀ rs : List rightE.ty,(rs.any fun x => !decide (rightP x ∈ S)) = !((rs.map rightP).all fun p => decide (p ∈ S))
 | [] => rfl
 | x :: t => by simp only [List.any_cons,List.map_cons,List.all_cons,Zye S t,Bool.not_and]
set_option maxHeartbeats 1600000 in
theorem rw_clo {W : World} {Bm b n : Nat} {S : List (List UInt8 × Int)} {o : List UInt8} {a : Int} (hm : W.cell? ⟨Bm,0,none⟩ = some (.map (some b))) (hBm : Bm < W.heap.size) (M : RMap Try.prog 68 4 W b n S) (hp : rsm (o,a)) :
 Calls Try.prog 58 #[.agg #[.string ⟨o.toArray⟩,.int .i64 a],.pointer (some ⟨Bm,0,none⟩)] W fun e W' => e = .returned (.bool (!decide ((o,a) ∈ S))) ∧ Lo W.heap.size W W' := by
 have hkeys : RKeys Try.prog 68 := ⟨rg_law,fun p hp => rg_key p.1 p.2 hp.1 hp.2⟩
 have M1 := M.keep (w' := W.alloc (.cells #[.string ⟨o.toArray⟩,.int .i64 a] 68)) (Zai _ _ M.lt)
 have hlk : (Instr.lookup 91 (.map (some b)) (.agg #[.string ⟨o.toArray⟩,.int .i64 a]) false).run Try.prog (W.alloc (.cells #[.string ⟨o.toArray⟩,.int .i64 a] 68)) = .ok (.bool (decide ((o,a) ∈ S))) (W.alloc (.cells #[.string ⟨o.toArray⟩,.int .i64 a] 68)) :=
  M1.look hkeys (t := 91) Try.underlying91 Try.underlying4 (Zaat _) hp
 have hm' : (W.alloc (.cells #[.string ⟨o.toArray⟩,.int .i64 a] 68)).cell? ⟨Bm,0,none⟩ = some (.map (some b)) := by rw [← hm]; simp only [World.cell?,Zai W (.cells #[.string ⟨o.toArray⟩,.int .i64 a] 68) hBm]
 have L : Lo W.heap.size W (W.alloc (.cells #[.string ⟨o.toArray⟩,.int .i64 a] 68)) := (Lo.refl _ _).alloc (Nat.le_refl _) _
 generalize decide ((o,a) ∈ S) = q at hlk ⊢
 clear M M1 hkeys hp
 go_enter Try.func58,Try.ntmps58
 go_wp2_with (fail)
 go_ret
 exact ⟨rfl,L⟩
set_option maxHeartbeats 1600000 in
theorem rw_idx {φ : Nat → Nat} {K : Nat → Prop} {w : World} {Bm b n : Nat} {S : List (List UInt8 × Int)} {xs : List rightE.ty} {v : Value} (hr : Rep φ w K v (.sl 2 (xs.map rightE.enc))) (hK : ∀ c,K c → c < w.heap.size) (hm : w.cell? ⟨Bm,0,none⟩ = some (.map (some b))) (hBm : Bm < w.heap.size)
 (M : RMap Try.prog 68 4 w b n S) (hl : xs.length ≤ 1000) (hsm : ∀ x,x ∈ xs → rsm (rightP x)) :
 Calls Try.prog 69 #[v,.func (.func 58) #[] #[.pointer (some ⟨Bm,0,none⟩)]] w fun e w' => ∃ k : Int,e = .returned (.int .i64 k) ∧ decide (k ≥ 0) = xs.any (fun x => !decide (rightP x ∈ S)) ∧ Lo w.heap.size w w' := by
 have eg : ∀ args w,(callFunc 58 args).run Try.prog w = .ok (.enter 58 args) w := enters_of Try.func58 (by kernel_rfl) rfl
 obtain ⟨⟨av,cv,rfl⟩,hat⟩ := Z8b hr
 have hMl := M.lt
 go_enter Try.func69,Try.ntmps69
 go_wp2_with (fail)
 go_loopw [5,8] (fun _ s8 wr => ∃ kk : Nat,kk ≤ xs.length ∧ s8 = .int .i64 kk ∧ Lo w.heap.size w wr ∧ Hid (∀ j (hj : j < xs.length),j < kk → rightP xs[j] ∈ S))
  (fun _ s8 _ => xs.length - (intOf s8).toNat)
 case atStart => exact ⟨0,Nat.zero_le _,rfl,Lo.refl _ _,fun j hj h => by omega⟩
 case round =>
  obtain ⟨kk,hkk,rfl,L1,A⟩ := hrel
  have hk9 : (kk : Int) ≤ 1000 := by omega
  by_cases hlt : kk < xs.length
  ·have hltz : (kk : Int) < (xs.length : Int) := by omega
   obtain ⟨b0,o0,cap,e1,hKb,q1,q2⟩ := hat kk xs[kk] (List.getElem?_eq_getElem hlt)
   injection e1 with e1 _ e2
   subst e1 e2
   have hsmk := hsm xs[kk] (List.getElem_mem hlt)
   have hA2 : Hid (rightP xs[kk] ∈ S → ∀ j (hj : j < xs.length),j < kk + 1 → rightP xs[j] ∈ S) := fun h j hj hj2 => by
    by_cases e : j = kk
    ·subst e; exact h
    ·exact A.out j hj (by omega)
   have hout : Hid (rightP xs[kk] ∉ S → xs.any (fun x => !decide (rightP x ∈ S)) = true) := fun h => List.any_eq_true.2 ⟨xs[kk],List.getElem_mem hlt,by simp [h]⟩
   have q1' : wr.cell? ⟨b0,o0 + kk * 2,none⟩ = some (.string ⟨xs[kk].1.toArray⟩) := by rw [show Value.string ⟨xs[kk].1.toArray⟩ = encT xs[kk].1 from rfl,← q1]; simp only [World.cell?,L1.block b0 (hK b0 hKb)]
   have q2' : wr.cell? ⟨b0,o0 + kk * 2 + 1,none⟩ = some (.int .i64 xs[kk].2.1) := by rw [← q2]; simp only [World.cell?,L1.block b0 (hK b0 hKb)]
   clear q1 q2 hat hsm A
   generalize xs[kk] = y at q1' q2' hA2 hout hsmk
   obtain ⟨o,a,rfl⟩ : ∃ (o : List UInt8) (a : Int),y = (o,a,()) := ⟨y.1,y.2.1,rfl⟩
   have hBr : wr.cell? ⟨Bm,0,none⟩ = some (.map (some b)) := by rw [← hm]; simp only [World.cell?,L1.block Bm hBm]
   have hcall := rw_clo (o := o) (a := a) hBr (Nat.lt_of_lt_of_le hBm L1.size) (M.keep (w' := wr) (L1.block b hMl)) hsmk
   clear hBr
   by_cases hq : (o,a) ∈ S
   ·rw [show (!decide ((o,a) ∈ S)) = false from by simp [hq]] at hcall
    go_wp2_with (go_at_fn 58; refine hcall.mono ?_; rintro e w' ⟨rfl,L2⟩)
    exact ⟨⟨kk + 1,hlt,rfl,L1.trans (L2.mono L1.size),hA2.out hq⟩,by simp only [intOf]; omega⟩
   ·rw [show (!decide ((o,a) ∈ S)) = true from by simp [hq]] at hcall
    go_wp2_with (go_at_fn 58; refine hcall.mono ?_; rintro e w' ⟨rfl,L2⟩)
    go_ret
    exact ⟨kk,rfl,by rw [hout.out hq]; simp,L1.trans (L2.mono L1.size)⟩
  ·obtain rfl : kk = xs.length := by omega
   have hltz : ¬ (xs.length : Int) < (xs.length : Int) := by omega
   have hd : Hid (xs.any (fun x => !decide (rightP x ∈ S)) = false) := by
    show _ = _
    rw [List.any_eq_false]
    intro x hx
    obtain ⟨j,hj,rfl⟩ := List.getElem_of_mem hx
    simp [A.out j hj hj]
   clear hat A hsm
   go_wp2_with (fail)
   go_ret
   exact ⟨-1,rfl,by rw [hd.out]; decide,L1⟩
theorem rw_con {φ : Nat → Nat} {K : Nat → Prop} {w : World} {Bm b n : Nat} {S : List (List UInt8 × Int)} {xs : List rightE.ty} {v : Value} (hr : Rep φ w K v (.sl 2 (xs.map rightE.enc))) (hK : ∀ c,K c → c < w.heap.size) (hm : w.cell? ⟨Bm,0,none⟩ = some (.map (some b))) (hBm : Bm < w.heap.size)
 (M : RMap Try.prog 68 4 w b n S) (hl : xs.length ≤ 1000) (hsm : ∀ x,x ∈ xs → rsm (rightP x)) :
 Calls Try.prog 57 #[v,.func (.func 58) #[] #[.pointer (some ⟨Bm,0,none⟩)]] w fun e w' => e = .returned (.bool (xs.any (fun x => !decide (rightP x ∈ S)))) ∧ Lo w.heap.size w w' := by
 have h := rw_idx hr hK hm hBm M hl hsm
 go_enter Try.func57,Try.ntmps57
 go_wp2_with (fail)
 go_at_call 69
 refine h.mono ?_
 rintro e w' ⟨k,rfl,hk,L⟩
 by_cases hk0 : k ≥ 0
 ·go_wp2_with (fail)
  go_ret
  exact ⟨by rw [← hk]; simp [hk0],L⟩
 ·go_wp2_with (fail)
  go_ret
  exact ⟨by rw [← hk]; simp [hk0],L⟩
set_option maxHeartbeats 3200000 in
theorem Z93 : Ztn Try.prog 34 61 60 := ⟨⟨_,Try.func34,by decide +kernel,rfl⟩,by
 intro φ gu gc un ct hu hc hU hC roles grants rs ys hY w K vr vg vs hr hg hs hK hG
 unfold rwF at hY
 split at hY
 rotate_left
 ·cases hY
 rename_i hcond
 obtain ⟨hrl,hsl,hsm0⟩ := hcond
 have hsm : ∀ x,x ∈ rs → rsm (rightP x) := fun x hx => by
  have := List.all_eq_true.1 hsm0 x hx
  simpa [rsm,rightP] using this
 clear hsm0
 have rt : ∀ (r : roleE.ty) (S : List (List UInt8 × Int)),rtF un ct roles grants r.1 = some S → ∀ W,Lo w.heap.size w W →
  Calls Try.prog 56 #[vr,vg,.string ⟨r.1.toArray⟩] W fun e W' => ∃ b n,e = .returned (.map (some b)) ∧ Lo w.heap.size w W' ∧ Lo W.heap.size W W' ∧ W.heap.size ≤ b ∧ RMap Try.prog 68 4 W' b n S := fun r S hS W hL => by
  have hz := hL.size
  refine (Z5h.run φ gu gc un ct hu hc hU hC roles grants r.1 S hS W K vr vg (hr.mono (fun c hc => hL.block c (hK c hc)) fun _ h => h) (hg.mono (fun c hc => hL.block c (hK c hc)) fun _ h => h) (fun c hc => Nat.lt_of_lt_of_le (hK c hc) hz) (hG.on (fun _ h => h) fun c hc => hL.block c (hK c hc))).mono ?_
  rintro e W' ⟨b,n,h1,h2,h3,h4⟩
  exact ⟨b,n,h1,hL.trans (h2.mono hz),h2,h3,h4⟩
 clear hU hC hG
 obtain ⟨⟨av,cv,rfl⟩,hrow⟩ := Zaai hr
 obtain ⟨iS,hiS,heS⟩ := Option.map_eq_some_iff.1 Z2n
 simp only [Prod.mk.injEq] at heS
 obtain ⟨zS,sS,bS⟩ := heS
 go_enter Try.func34,Try.ntmps34
 go_wp2_with (fail)
 have L0 : Lo w.heap.size w (w.alloc (.cells #[] 9)) := (Lo.refl _ _).alloc (Nat.le_refl _) _
 have hrl9 : (roles.length : Int) ≤ 1000 := by omega
 go_loopw [7,9,10,14] (fun vo _ _ iv wr => ∃ (i : Nat) (out : List (List UInt8)) (ob : Option Nat),iv = .int .i64 i ∧ i ≤ roles.length ∧ rwG un ct roles grants (rs.map rightP) (roles.drop i) out = some ys ∧ VOwn wr 9 vo (out.map encT) ob ∧ out.length ≤ i ∧ (∀ c,ob = some c → w.heap.size ≤ c ∧ c < wr.heap.size) ∧ Lo w.heap.size w wr)
  (fun _ _ _ iv _ => ((roles.length : Int) - intOf iv).toNat)
 case atStart =>
  exact ⟨0,[],none,rfl,by omega,hY,.empty _,by simp,fun c hc => (by cases hc),L0⟩
 case round =>
  clear hY L0
  obtain ⟨i,out,ob,rfl,hi,hG2,V,hol,hob,L⟩ := hrel
  have hi9 : (i : Int) ≤ 1000 := by omega
  rcases Nat.lt_or_ge i roles.length with hlt | hge
  ·have hlt' : (i : Int) < (roles.length : Int) := by omega
   obtain ⟨b,o,cap,ur,e1,hKb,q1,q2,q3⟩ := hrow i roles[i] (List.getElem?_eq_getElem hlt)
   injection e1 with e1 _ e2
   subst e1 e2
   obtain ⟨ua,ul,uc,rfl⟩ : ∃ a n c,ur = Value.slice a n c := by
    generalize hz : (roles[i]).2.1.map strE.enc = zs at q3
    cases q3 with
    | slE => exact ⟨_,_,_,rfl⟩
    | sl => exact ⟨_,_,_,rfl⟩
   clear q3
   rw [List.drop_eq_getElem_cons hlt] at hG2
   have hbS := hK b hKb
   obtain ⟨S,hS,hG3⟩ := Option.bind_eq_some_iff.1 hG2
   clear hG2
   have rtS := rt roles[i] S hS
   have q1' : wr.cell? ⟨b,o + i * 2,none⟩ = some (.string ⟨roles[i].1.toArray⟩) := by rw [show Value.string ⟨roles[i].1.toArray⟩ = encT roles[i].1 from rfl,← q1]; simp only [World.cell?,L.block b hbS]
   have q2' : wr.cell? ⟨b,o + i * 2 + 1,none⟩ = some (.slice ua ul uc) := by rw [← q2]; simp only [World.cell?,L.block b hbS]
   clear q1 q2
   generalize roles[i] = r at hG3 rtS q1' q2'
   obtain ⟨r1,r2,rfl⟩ : ∃ (r1 : List UInt8) (r2 : List (List UInt8)),r = (r1,r2,()) := ⟨r.1,r.2.1,rfl⟩
   have hLr := L.size
   have Lx : Lo w.heap.size w (wr.alloc (.cells #[.string ⟨r1.toArray⟩,.slice ua ul uc] 40)) := L.alloc L.size _
   have hnew : (wr.alloc (.cells #[.string ⟨r1.toArray⟩,.slice ua ul uc] 40)).heap[wr.heap.size]? = some (.cells #[.string ⟨r1.toArray⟩,.slice ua ul uc] 40) := Zdd _ _ rfl
   have hzx : (wr.alloc (.cells #[.string ⟨r1.toArray⟩,.slice ua ul uc] 40)).heap.size = wr.heap.size + 1 := by simp
   have h0 := rtS _ Lx
   have Vx := V.keep (w' := wr.alloc (.cells #[.string ⟨r1.toArray⟩,.slice ua ul uc] 40)) fun c hc => Zai _ _ (hob c hc).2
   go_wp2_with (fail)
   refine h0.mono ?_
   rintro e wy ⟨bm,n,rfl,L1,L1',hbm,M⟩
   have hyz := L1'.size
   have hyb := L1'.block
   have M2 := M.keep (w' := wy.alloc (.cells #[.map (some bm)] 91)) (Zai _ _ M.lt)
   have Lz : Lo w.heap.size w (wy.alloc (.cells #[.map (some bm)] 91)) := L1.alloc (by omega) _
   have hnz : (wy.alloc (.cells #[.map (some bm)] 91)).heap[wy.heap.size]? = some (.cells #[.map (some bm)] 91) := Zdd _ _ rfl
   have hzz : (wy.alloc (.cells #[.map (some bm)] 91)).heap.size = wy.heap.size + 1 := by simp
   have hxz : (wy.alloc (.cells #[.map (some bm)] 91)).heap[wr.heap.size]? = some (.cells #[.string ⟨r1.toArray⟩,.slice ua ul uc] 40) := (Zai _ _ (by omega)).trans ((hyb _ (by omega)).trans hnew)
   have Vz := (Vx.keep (w' := wy) fun c hc => hyb c (by have := (hob c hc).2; omega)).keep (w' := wy.alloc (.cells #[.map (some bm)] 91)) fun c hc => Zai _ _ (by have := (hob c hc).2; omega)
   have hcon := rw_con (hs.mono (w' := wy.alloc (.cells #[.map (some bm)] 91)) (fun c hc => Lz.block c (hK c hc)) fun _ h => h) (fun c hc => by have := hK c hc; omega) (Bm := wy.heap.size) (by simp only [World.cell?,hnz]; rfl) (by omega) M2 hsl hsm
   go_wp2_with (fail)
   refine hcon.mono ?_
   rintro e wc ⟨rfl,Lc⟩
   have hcz := Lc.size
   have Lw : Lo w.heap.size w wc := Lz.trans (Lc.mono (by omega))
   have hxc : wc.heap[wr.heap.size]? = some (.cells #[.string ⟨r1.toArray⟩,.slice ua ul uc] 40) := (Lc.block _ (by omega)).trans hxz
   have Vc := Vz.keep (w' := wc) fun c hc => Lc.block c (by have := (hob c hc).2; omega)
   have hob2 : ∀ c,ob = some c → w.heap.size ≤ c ∧ c < wc.heap.size := fun c hc => by have := hob c hc; omega
   have hx0 : wc.cell? ⟨wr.heap.size,0,none⟩ = some (.string ⟨r1.toArray⟩) := by simp [World.cell?,hxc]
   have hany := Zye S rs
   rw [hany]
   clear hany hcon hnew hxz hnz M M2 Vz Vx L1 L1' Lz Lx rtS rt h0 hyb
   cases hall : (rs.map rightP).all fun p => decide (p ∈ S) with
   | false =>
     rw [hall] at hG3
     go_wp2_with (fail)
     exact ⟨⟨i + 1,out,ob,rfl,by omega,hG3,Vc,by omega,hob2,Lw⟩,by simp only [intOf]; omega⟩
   | true =>
     rw [hall] at hG3
     have Va := Vc.keep (w' := wc.alloc (.cells #[.string ⟨r1.toArray⟩] 9)) fun c hc => Zai _ _ (hob2 c hc).2
     have hza : (wc.alloc (.cells #[.string ⟨r1.toArray⟩] 9)).heap.size = wc.heap.size + 1 := by simp
     have La : Lo w.heap.size w (wc.alloc (.cells #[.string ⟨r1.toArray⟩] 9)) := Lw.alloc Lw.size _
     obtain ⟨ad,n2,cp2,w7,ob',hrun,V7,hz7,hfr7,hob7,hos7,hout7⟩ := Va.app (t := 38) Try.underlying38 hiS sS zS rfl (by rw [bS]; omega) (by rw [List.length_map]; omega) (x := .string ⟨r1.toArray⟩) (Zdd _ _ rfl) rfl rfl 1 38
     have L7 : Lo w.heap.size w w7 := La.trans ⟨hz7,fun c hc => hfr7 c (by omega) fun e => by have := (hob2 c e).1; omega,hos7,hout7⟩
     go_wp2_with (first | (at_builtin; refine wpList_append_run _ rfl _ _ _ _ rfl _ _ rfl rfl hrun ?_) | fail)
     refine ⟨⟨i + 1,out ++ [r1],ob',rfl,by omega,hG3,by rw [List.map_append]; exact V7,by simp; omega,fun c hc => ?_,L7⟩,by simp only [intOf]; omega⟩
     rcases hob7 with h | ⟨q,h,h1,h2⟩
     ·have := hob2 c (h ▸ hc); omega
     ·rw [h] at hc; cases hc; omega
  ·obtain rfl : i = roles.length := by omega
   rw [List.drop_length] at hG2
   cases hG2
   obtain ⟨ad,n,cp,rfl⟩ := V.slice
   clear rt
   go_wp2_with (fail)
   go_ret
   exact ⟨_,_,_,rfl,L,V.textsD hob⟩⟩
end
theorem Zwc : FOk Try.prog phi 745 Zja := Z2k (g := 745) (gu := 816) (gc := 985) Z93 (by kernel_rfl) (fun r n y h => Zwp Znd h) (fun l x y h => Zze Zbj h)
theorem Zub : FOk Try.prog phi 302 Zhf := fn_ok hm (D := Zmu) (DOk.cons Zet (DOk.cons Zwc DOk.nil)) (by kernel_rfl) _ _ _ _
theorem Zwg : FOk Try.prog phi 232 Zi4 := fn_ok hm (D := Zi6) DOk.nil (by kernel_rfl) _ _ _ _
theorem Zw3 : FOk Try.prog phi 1302 Zfa := fn_ok hm (D := Zbe) (DOk.cons Zx8 (DOk.cons Zyc (DOk.cons Zwg (DOk.cons Zui (DOk.cons Zub (DOk.cons Zp1 (DOk.cons Zuf (DOk.cons Zrd (DOk.cons Zt3 (DOk.cons Zt9 (DOk.cons Zw8 (DOk.cons Zsf DOk.nil)))))))))))) (by kernel_rfl) _ _ _ _
theorem law : ∀ x,wfU Zfa.ps x → ∃ y,Zfa.f x = some y ∧ resA Zfa y = ([A.bool true],[]) := fun x hx => ⟨true,(laws_FnDuties_true x.1 x.2.1 hx.1 hx.2.1),rfl⟩
theorem own : ownKnob Try.prog.godebug = none := by kernel_rfl
theorem laid : laidOutB Try.prog = true := by kernel_rfl
theorem reads : ∀ t ∈ Try.f3.params.toList,Try.prog.readableRec t = true ∧ t < Try.prog.types.size := by
 have h : (Try.f3.params.toList.all fun t => Try.prog.readableRec t && decide (t < Try.prog.types.size)) = true := by kernel_rfl
 intro t ht
 have := List.all_eq_true.1 h t ht
 simpa only [Bool.and_eq_true,decide_eq_true_eq] using this
theorem Z9j (H : Type) : ∀ (ds : List (DataW H)),ds.length = Try.f3.params.toList.length → Rows.fnDutiesSpec.fn H ds = { results := [.lit (.bool true)],args := ds } := by
 intro ds hd
 have hd : ds.length = 2 := hd
 match ds,hd with
 | [d0,d1],_ => rfl
theorem tab (W : World) : ∀ i,Try.prog.globalNamed Zg2 = some i → Lib.TabIs Try.prog W Zg2 .u64 Lib.pow10Tab := by
 intro i hi
 have h : Try.prog.globalNamed Zg2 = none := by kernel_rfl
 rw [h] at hi; cases hi
theorem errs (W : World) : ∀ n,Zsl.contains n = true → ∀ i,Try.prog.globalNamed n = some i → ∃ u v,W.var? Try.prog n = some #[.iface u v] := by
 intro n hn i hi
 have hn : n = "strconv.ErrSyntax" ∨ n = "strconv.ErrRange" := by simpa [Zsl] using hn
 rcases hn with rfl | rfl
 ·have h : Try.prog.globalNamed "strconv.ErrSyntax" = none := by kernel_rfl
  rw [h] at hi; cases hi
 ·have h : Try.prog.globalNamed "strconv.ErrRange" = none := by kernel_rfl
  rw [h] at hi; cases hi
theorem Z8k (H : Type) (enc : TypeId × Value → H) (W : World) (base : Nat) (args : Array Value) (ds gs : List (DataW H)) (before : List MemPlace)
 (hval : ∀ (j : Nat) t v,Try.f3.params[j]? = some t → args[j]? = some v → Value.okWide Try.prog W .any base t v)
 (hW : DataW.Whole enc Try.prog Try.f3.params.toList Rows.fnDutiesSpec.vars false W args.toList ds gs before) (hsh : W.ShapedOpen Try.prog) :
 Calls Try.prog 3 args W fun e W' => ∃ v,e = .returned v ∧ Rows.fnDutiesSpec.post enc Try.prog Try.f3 false true false false W args v W' :=
 Z3n (φ := phi) (g := 1302) (n := 20) Zw3 rfl rfl (tb := 4) Try.underlying4 (by kernel_rfl) rfl law laid reads Z9j W base args ds gs before hval hW (Glob.start hsh (tab W) (errs W))
theorem lifted (os : Os) (started : os.Started) (H : Type) (enc : TypeId × Value → H) :
 ReturnsInHanded {} Try.checked os 3 .any (Rows.fnDutiesSpec.pre6 enc Try.prog Try.f3 Rows.fnDutiesRow.domain false) (Rows.fnDutiesSpec.post enc Try.prog Try.f3 false true false false) := by
 refine returnsInHanded_of_change_shaped (C := Try.checked) own started (by kernel_rfl) Try.func3
  (ChangeSpec.witness6 (enc := enc) (C := Try.checked) false ⟨#[],#[.slice none 0 0,.slice none 0 0],[]⟩ 12 (by kernel_rfl) (by kernel_rfl) (by kernel_rfl) (by kernel_rfl)) ?_
 intro W base args ds gs before hval hW _ _ hsh _
 exact Z8k H enc W base args ds gs before hval hW hsh
theorem over : Rows.fnDutiesRow.holds Try.pinned (OpenSpec.ofChange Rows.fnDutiesSpec) :=
 OpenClaim.holds_of_wide 3 Try.f3 rfl rfl rfl rfl rfl rfl rfl ⟨rfl,rfl,rfl,rfl,rfl⟩ rfl rfl rfl rfl rfl (by kernel_rfl) Try.func3 (by kernel_rfl)
  (of_decide_eq_true (by kernel_rfl)) (by unfold Func.isWrapper; first | (rw [if_pos (by decide +kernel)]; kernel_rfl) | (rw [if_neg (by decide +kernel)]; exact ⟨rfl,rfl⟩))
  (fun os started H enc _ => lifted os started H enc)
theorem proved : Rows.FnDutiesSaid := over
end Go.Proofs.Ytobkmdnplcmndaa.fnDuties
