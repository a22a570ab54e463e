/- The law FnConsole answers true for every input, whatever it is, and leaves its arguments as they were. Conditions: none. -/
import Derived.Test.YtohijocnlnmlpaaGreatDoorG3
import Derived.Shelf.Strconv.Itoa4
import Derived.Shelf.Strings.Prefix
import Derived.Shelf.Small.Wraps
import Derived.Shelf.Small.Strs
import Derived.Shelf.Strings.Shaped
import Derived.Shelf.Strings.SplitShaped
import Derived.Shelf.Strings.Repeat
import Derived.Shelf.Strings.OnBuilder
import Derived.Shelf.Strconv.ParseIntPublic10
import Derived.WalkSmall
import Derived.Lib.SmallJoins
import Derived.Shelf.LaysM
import Derived.Shelf.LaysC
import Derived.Shelf.Slices.In.SortNone
import Derived.Test.YtohijocnlnmlpaaGreatDoorProg
import Derived.Test.YtohijocnlnmlpaaGreatDoorG6
import Derived.Test.YtohijocnlnmlpaaGreatDoorRows
import Derived.Test.YtohijocnlnmlpaaGreatDoorG4
import Derived.Carry
import Derived.Deep.RegionHeld3
import Derived.Deep.RegionLaw
import Derived.Shelf.RegionOpenPlain
import Derived.Shelf.Spec.SlicesInsert
import Derived.Laws.IdiomStrings
import Derived.LoopTactic
import Derived.DeepKeys4
import Derived.Maps.Own
import Derived.Maps.OwnSet
import Derived.Maps.RangeWalk
import Derived.Maps.AppendAt
import Derived.Sort.KeysCollected
import Derived.Sort.OwnSorted
import Derived.OwnWalk
import Derived.Shelf.Abstract
import Derived.Laws.EntriesVeiled
import Derived.Sort.EveryDepth
import Derived.Shelf.Slices.In.SortAlone
import Derived.Test.YtohijocnlnmlpaaGreatDoorCards
import Derived.Test.YtohijocnlnmlpaaGreatDoorTie
import Derived.LaidMore
import Derived.Lay
import Derived.SevenTiedAt
import Derived.Stop.Joined
import Derived.WalkKit
import Derived.ProofKit
import Derived.OpenShut
import Derived.JoinedOf
import Derived.Handed
set_option linter.unusedVariables false
set_option linter.unusedSimpArgs false
set_option maxRecDepth 100000
set_option linter.defProp false
open Array renaming getElem?_eq_none->nu,getElem?_eq_some_iff->I5,getElem?_push_size->xy,getElem?_toList->n9,length_toList->Ys
open Bool renaming and_eq_false_iff->akf,and_eq_true->aj,and_eq_true_iff->hZ,false->aw,false_eq_true->ao,false_ne_true->ao3,true->ar
open Decidable renaming decide->ah
open Go.Act renaming eval->Rk,put->ao4
open Go.Builtin renaming append_->fU,clear_->apm,zeroCells->bQ
open Go.Collected renaming start->al6
open Go.DataW renaming Whole->anj
open Go.Instr renaming lookup->Gb
open Go.IntKind renaming i64->ag,wrap_i64->anl
open Go.Lib renaming count->Nq,countB->xA,cut->A7,itoa->bG,join->mZ,pow10Tab->apo,repeatL->F0,size_eq->Kz,splitK->uV,toList_data->aub,trimPrefix->jF,wpList_append_run->I3
open Go.MakeChecks renaming laidMetH_plain->DK
open Go.Maps renaming keyOf_str->QO,size->ahQ
open Go.OpenSpec renaming ofChange->PT
open Go.Oper renaming wp->zq
open Go.Proofs renaming cell_of_shapedOpen_int->Rl
open Go.Proofs.Any renaming strconv_FormatInt_10->ahR
open Go.Proofs.Builder renaming Extra->QP
open Go.Proofs.Lays renaming n101->awj,n105->ann,n156->ano,n190->awk
open Go.Proofs.LaysC renaming n174->aki
open Go.Proofs.LaysM renaming n145->akj,n146->akk,n173->aau
open Go.Proofs.Tryz renaming checked->aeJ,f3->iM,func150->Na,func170->awl,func182->Nb,func184->Nc,func185->Nd,func186->Nf,func187->Ng,func188->Nh,func190->Ni,func21->I8,func211->awm,func232->awn,func233->awo,func234->awp,func235->awq,func276->Nj,func279->awr,func293->aws,func294->awt,func309->awu,func310->awv,func311->aww,func315->awx,func325->awy,func331->awz,func340->awA,func341->awB,func342->awC,func364->aj5,func370->awD,func371->awE,func372->awF,func373->awG,func374->awH,func375->awI,func392->awJ,func393->awK,func394->awL,func395->awM,func400->awN,func401->awO,func95->al7,isAgg0->I9,isAgg152->BR,isAgg20->XN,isAgg21->awP,isAgg22->XO,isAgg255->ahG,isAgg3->xB,isAgg304->BS,isAgg305->ahH,isAgg314->auX,isAgg316->auY,isAgg318->auZ,isAgg353->ahI,isAgg383->au0,isAgg385->au1,isAgg387->au2,isAgg4->xC,isAgg40->aj6,isAgg406->au3,isAgg407->au4,isAgg414->au5,isAgg415->au6,isAgg5->xD,isAgg85->XP,isAgg9->xE,ntmps150->Tc,ntmps182->Td,ntmps184->Te,ntmps185->Tf,ntmps186->Tg,ntmps187->Th,ntmps188->Ti,ntmps190->Tj,ntmps21->Nk,ntmps276->Tl,ntmps315->au7,ntmps342->au8,ntmps73->awQ,ntmps74->awR,ntmps95->aj7,prog->aF,sizeOf0->F2,sizeOf152->zu,sizeOf2->awS,sizeOf20->Tm,sizeOf21->au9,sizeOf22->Tn,sizeOf255->aeK,sizeOf3->vC,sizeOf304->zw,sizeOf305->aeL,sizeOf314->aud,sizeOf316->aue,sizeOf318->auf,sizeOf353->aeM,sizeOf383->aug,sizeOf385->auh,sizeOf387->aui,sizeOf4->vD,sizeOf40->ahJ,sizeOf406->auj,sizeOf407->auk,sizeOf414->aul,sizeOf415->aum,sizeOf5->vE,sizeOf85->Tp,sizeOf9->vF,underlying0->vG,underlying137->Gr,underlying144->Gs,underlying152->qL,underlying2->ar8,underlying20->Ja,underlying21->apq,underlying22->Jb,underlying255->xv,underlying3->dE,underlying304->qM,underlying305->VC,underlying314->ao7,underlying316->ao8,underlying318->ao9,underlying353->VD,underlying36->XQ,underlying383->apa,underlying385->apb,underlying387->apc,underlying4->j5,underlying40->zx,underlying406->apd,underlying407->ape,underlying414->apf,underlying415->apg,underlying5->mK,underlying85->Jc,underlying9->dx,zeroValue0->xt,zeroValue152->si,zeroValue2->asp,zeroValue20->Mp,zeroValue21->ar9,zeroValue22->Mq,zeroValue255->XR,zeroValue3->nP,zeroValue304->sk,zeroValue305->XS,zeroValue314->apr,zeroValue316->aps,zeroValue318->apt,zeroValue353->XT,zeroValue383->apu,zeroValue385->apv,zeroValue387->apw,zeroValue4->nQ,zeroValue40->Z6,zeroValue406->apx,zeroValue414->apy,zeroValue415->apz,zeroValue5->nR,zeroValue85->Mr,zeroValue9->nS
open Go.Proofs.YtohijocnlnmlpaaGreatDoor.Rows renaming fnConsoleRow->bp,fnConsoleSpec->dA,laid_internal_strconv_uint64pow10->QQ,laid_strconv_ErrRange->aeN,laid_strconv_ErrSyntax->F5,laid_unicode_utf8_first->DM
open Go.Region renaming wanted->S4
open Go.Result renaming andThen->asa,andThen_ok->bP
open Go.RowKit.Below renaming refl->BU
open Go.Sem renaming run_bind->dp,run_pure->jb
open Go.Shelf renaming Ren->tL
open Go.Sort renaming grow->af2
open Go.Value renaming agg->qj,iface->awT,int->jC,okWide->zV,oneCell'->ass,ownBlock->PU,string->zr
open Go.World renaming alloc->Rm,cell? ->df,drewN->awU,frozen? ->xF,ownsMap_made->Gc,var?_cell->asb
open Int renaming le_refl->dH,toNat_natCast->aE,toNat_of_nonneg->Yv
open List renaming all_eq_true->aG,drop_eq_getElem_cons->bf,drop_length->ave,flatMap_cons->cg,getElem?_cons_succ->ct,getElem?_eq_getElem->ay,getElem?_map->bX,getElem?_take->oB,length->cP,length_append->aQ,length_cons->bh,length_drop->dm,length_eq_zero_iff->zA,length_map->aT,length_pos_iff->Z7,map_congr_left->nw,map_cons->aP,map_map->uX,map_nil->lT,mem_map->dK,mem_of_getElem? ->bw,mem_of_mem_drop->cA,mem_singleton->aX,replicate->aZ
open Nat renaming add_assoc->gS,le_refl->bm,le_trans->dZ,lt_of_lt_of_le->bU,lt_or_ge->bH,mul_one->asz,not_lt_zero->adG,sub_self->ahT,zero_add->c8,zero_le->iW
open Option renaming bind_eq_some_iff->ak,map_eq_some_iff->au,none->ai,some->ae
open Option.some renaming inj->cq
open Prod.mk renaming injEq->be
namespace Go.Ab
open Go.Shelf Go.RowKit Go.Sort Go.Lib Go.Proofs
def aaE{w:World}(k:Nat)(os:Array Obj):Below w.heap.size w (af2 (w.drewN k) os) where
 os:=rfl
 tape:=rfl
 output:=rfl
 size:=by simp[af2,awU]
 block b hb:=by simp only[af2,awU];rw[Array.getElem?_append_left hb]
def agt{P:Program}{φ:Nat->Nat}{ρ:Ren}{g:Nat}(L:aau P ρ)(hg:∃i,P.globalNamed uE=ae i)(hφ:φ g=ρ.f 173):r6 P φ g aa2:=by
 refine r6.pA ⟨_,by rw[hφ];exact L.f173,fun h=>absurd ((show(Body.n173 ρ).name= "strconv.FormatInt" from rfl).symm.trans h) (by decide),rfl⟩ rfl rfl fun x y hy0=> ?_;obtain⟨n,b,⟨⟩⟩:=x;have hy:(if ah (b=10)&&(ah (-9223372036854775808<=n)&&ah (n<=9223372036854775807))then ae (bG n)else ai)=ae y:=hy0;split at hy
 ·rename_i hc;obtain⟨c1,c2⟩:=hZ.1 hc;obtain⟨c2,c3⟩:=hZ.1 c2;obtain rfl:=cd c1;have h0:=cd c2;have h1:=cd c3;obtain rfl:=cq hy;show dB P φ g [A.int .i64 n,A.int .i64 10] [A.str (bG n)] [];have hn:([A.int .i64 n,A.int .i64 10]:List A).any E0=aw:=rfl;refine dB.OA hn λw K vs hr hK hG=> ?_;have hvs:vs=[.int .i64 n,.int .i64 10]:=by cases hr with|cons v _ vs _ h t=>cases h;cases t with|cons v _ vs _ h t=>cases h;cases t;rfl
  subst hvs;obtain⟨i,hi⟩:=hg;rw[hφ];refine(ahR L n h0 h1 w (hG.tab i hi).2).mono λe w' hh=> ?_;obtain⟨rfl,k,os,rfl⟩:=hh;exact⟨[_],rfl,aaE k os,.cons _ _ _ _ (.str _) .nil⟩
 ·cases hy
section
variable {P:Program} {φ:Nat->Nat} {ρ:Ren} {g:Nat}
def below_drewN{w:World}(k:Nat):Below w.heap.size w (w.drewN k):=⟨rfl,rfl,rfl,bm _,λ_ _=>rfl⟩
def afy{w:World}{K:Nat->Prop}{vs:List Value}{a b:List UInt8}(h:cW φ w K vs [.str a,.str b]):vs=[.string ⟨a.toArray⟩,.string ⟨b.toArray⟩]:=by cases h with|cons v _ vs _ h t=>cases h;cases t with|cons v _ vs _ h t=>cases h;cases t;rfl
def ag6{w:World}{K:Nat->Prop}{vs:List Value}{a:List UInt8}{k:IntKind}{n:Int}(h:cW φ w K vs [.str a,.int k n]):vs=[.string ⟨a.toArray⟩,.int k n]:=by cases h with|cons v _ vs _ h t=>cases h;cases t with|cons v _ vs _ h t=>cases h;cases t;rfl
def Yd(hs:∀w:World,w.ShapedOpen P->∃m,w.cell? ⟨ρ.g 1,0,ai⟩=ae (.int .i64 m))(hg:ρ.g 1<P.globals.size){K:Nat->Prop}{w:World}(hG:I6 P K w): ∃m,w.cell? ⟨ρ.g 1,0,ai⟩=ae (.int .i64 m):=by
 obtain⟨W,h1,h2⟩:=hG.sh;obtain⟨m,hm⟩:=hs W h1;have hlt:ρ.g 1<W.heap.size:=by(rcases bH (ρ.g 1) W.heap.size with h|h);(·exact h);·simp[df,nu h]at hm
 exact⟨m,(cell?_of_block (h2 _ hg hlt).2 0).trans hm⟩
def akC(L:akj P ρ)(hg:ρ.g 1<P.globals.size)(hφ:φ g=ρ.f 145):r6 P φ g aqg:=by
 refine r6.pA ⟨_,by rw[hφ];exact L.f145,fun h=>absurd ((show(Body.n145 ρ).name= "strings.Cut" from rfl).symm.trans h) (by decide),rfl⟩ rfl rfl fun x y hy0=> ?_;obtain⟨a,b,⟨⟩⟩:=x;have hy:(if ah (cP (α:=UInt8) a<4294967281)then ae (A7 a b)else ai)=ae y:=hy0;split at hy;·rename_i hc;have hl:=cd hc;obtain rfl:=cq hy;show dB P φ g [A.str a,A.str b] [A.str (A7 a b).1,A.str (A7 a b).2.1,A.bool (A7 a b).2.2] [];have hn:([A.str a,A.str b]:List A).any E0=aw:=rfl;refine dB.OA hn λw K vs hr hK hG=> ?_;rw[afy hr,hφ];obtain⟨m,hm⟩:=Yd L.s1_3 hg hG;refine(Any.strings_Cut {L with} ⟨a.toArray⟩ ⟨b.toArray⟩ m w (by rw[Kz];exact hl) hm).mono λe w' hh=> ?_;obtain⟨rfl,k,rfl⟩:=hh;exact⟨[_,_,_],rfl,below_drewN k,.cons _ _ _ _ (.str _) (.cons _ _ _ _ (.str _) (.cons _ _ _ _ (.bool _) .nil))⟩
 ·cases hy
def aoj(L:ann P ρ)(X:QP P ρ)(hφ:φ g=ρ.f 105):r6 P φ g amW:=by
 refine r6.pA ⟨_,by rw[hφ];exact L.f105,fun h=>absurd ((show(Body.n105 ρ).name= "strings.Repeat" from rfl).symm.trans h) (by decide),rfl⟩ rfl rfl fun x y hy0=> ?_;obtain⟨a,n,⟨⟩⟩:=x;have hy:(if ah (0<=n)&&(ah (n<=9223372036854775807)&&ah (cP (α:=UInt8) a*n.toNat<=140737488355328))then ae (F0 a n.toNat)else ai)=ae y:=hy0;split at hy;·rename_i hc;obtain⟨c1,c2⟩:=hZ.1 hc;obtain⟨c2,c3⟩:=hZ.1 c2;have h0:(0:Int)<=n:=cd c1;have h1:(n:Int)<=9223372036854775807:=cd c2;have h2:=cd c3;obtain rfl:=cq hy;show dB P φ g [A.str a,A.int .i64 n] [A.str (F0 a n.toNat)] [];have hn:([A.str a,A.int .i64 n]:List A).any E0=aw:=rfl;refine dB.OA hn λw K vs hr hK hG=> ?_;rw[ag6 hr,hφ];obtain⟨c,rfl⟩:∃c:Nat,n=(c:Int):=⟨n.toNat,(Yv h0).symm⟩;rw[aE]at h2;refine(Any.strings_Repeat L X ⟨a.toArray⟩ c w (by have:=Int.ofNat_le.1 (show((c:Nat):Int)<=((9223372036854775807:Nat):Int)from h1);exact this) (by rw[Kz];exact h2)).mono λe w' hh=> ?_;obtain⟨rfl,hb⟩:=hh;exact⟨[_],rfl,hb,.cons _ _ _ _ (.str _) .nil⟩
 ·cases hy
def afz{w:World}{K:Nat->Prop}:∀(xs:List (List UInt8)),cW φ w K (xs.map λs=>zr ⟨s.toArray⟩) (xs.map A.str)
 | []=>.nil
 |s::xs=>.cons _ _ _ _ (.str s) (afz xs)
def ae8(xs:List (List UInt8)):(xs.map A.str).flatMap A.cells=xs.map A.str:=by induction xs with|nil=>rfl|cons s xs ih=>rw[aP,cg,ih];rfl
def BL(L:akk P ρ)(hg:ρ.g 1<P.globals.size)(hφ:φ g=ρ.f 146):r6 P φ g ac3:=by
 refine r6.pA ⟨_,by rw[hφ];exact L.f146,fun h=>absurd ((show(Body.n146 ρ).name= "strings.Split" from rfl).symm.trans h) (by decide),rfl⟩ rfl rfl fun x y hy0=> ?_;obtain⟨a,b,⟨⟩⟩:=x;have hy:(if ah (cP (α:=UInt8) a<4294967281)&&ah (1<=cP (α:=UInt8) b)then ae (uV b 0 (Nq a b) a)else ai)=ae y:=hy0;split at hy
 ·rename_i hc;obtain⟨c1,c2⟩:=hZ.1 hc;have h0:=cd c1;have h1:=cd c2;obtain rfl:=cq hy;show dB P φ g [A.str a,A.str b] [A.tok 0 1 ((uV b 0 (Nq a b) a).map A.str)] [];have hn:([A.str a,A.str b]:List A).any E0=aw:=rfl;refine dB.yK hn λw K vs hr hK hG=> ?_;rw[afy hr,hφ];obtain⟨m,hm⟩:=Yd L.s1_3 hg hG;refine(Any.strings_Split {L with} L.i9 ⟨a.toArray⟩ ⟨b.toArray⟩ m w (by rw[Kz];exact h0) hm (by rw[Kz];exact h1)).mono λe w' hh=> ?_;obtain⟨rfl,hw⟩:=hh;have hlen:=Lib.splitB_all ⟨b.toArray⟩ (by rw[Kz];exact h1) 0 _ (⟨a.toArray⟩:ByteArray) rfl;have hd:=Lib.splitB_data ⟨b.toArray⟩ 0 (xA ⟨a.toArray⟩ ⟨b.toArray⟩) (⟨a.toArray⟩:ByteArray);have hd:(Lib.splitB ⟨b.toArray⟩ 0 (xA ⟨a.toArray⟩ ⟨b.toArray⟩) ⟨a.toArray⟩).map (λx:ByteArray=>x.data.toList)=uV b 0 (Nq a b) a:=hd;generalize hxs:uV b 0 (Nq a b) a=xs at hd⊢;generalize Lib.splitB ⟨b.toArray⟩ 0 (xA ⟨a.toArray⟩ ⟨b.toArray⟩) ⟨a.toArray⟩=bs at hd hw hlen;have hxl:xs.length=xA ⟨a.toArray⟩ ⟨b.toArray⟩+1:=by rw[<-hd,aT,hlen]
  have hcs:bs.map zr=xs.map λs=>zr ⟨s.toArray⟩:=by rw[<-hd,uX];exact nw λx _=>by simp
  have hheap:w'.heap=w.heap.push (.cells (xs.map λs=>zr ⟨s.toArray⟩).toArray (ρ.t 9)):=by rw[hw,hcs];rfl
  have henv:w'.os=w.os/\w'.output=w.output:=by rw[hw];exact⟨rfl,rfl⟩
  have hext:=Ea hheap henv;have htape:w'.tape=w.tape:=by rw[hw];rfl
  refine⟨[_],K,[w.heap.size],rfl,⟨henv.1,htape,henv.2,hext.size,λk hk=>hext.same k hk⟩,λ_ h=>h,λb h=>.inl h,?_,by simp,λc hc=> ?_⟩
  ·(have hsz:(xs.map λs=>zr ⟨s.toArray⟩).toArray.size=xs.length:=by simp);have hroom:=Ax (z:=1) hheap;rw[hsz]at hroom;have hcells:=pG hheap
   have hown:gD φ w' K (.slice (ae ⟨w.heap.size,0,ai⟩) (xs.map A.str).length (xA ⟨a.toArray⟩ ⟨b.toArray⟩+1)) 1 (xs.map A.str) (ae w.heap.size):=
    .mk w.heap.size 0 (xA ⟨a.toArray⟩ ⟨b.toArray⟩+1) 1 (xs.map A.str) (xs.map λs=>zr ⟨s.toArray⟩) (by simp[hxl]) (by omega) (λx hx=>by obtain⟨s,_,rfl⟩:=dK.1 hx;rfl)
     (by rw[ae8];exact afz xs) (by simpa using hcells) (by rw[asz,c8,<-hxl];exact hroom)
   (have hl2:(xs.map A.str).length=xA ⟨a.toArray⟩ ⟨b.toArray⟩+1:=by simp[hxl]);rw[hl2]at hown;have htok:so φ w' K (.slice (ae ⟨w.heap.size,0,ai⟩) (xA ⟨a.toArray⟩ ⟨b.toArray⟩+1) (xA ⟨a.toArray⟩ ⟨b.toArray⟩+1)) (A.tok 0 1 (xs.map A.str)) [w.heap.size]:= .tok _ 0 1 _ (ae w.heap.size) hown;exact fZ.cons _ _ [w.heap.size] _ _ [] htok .nil
  ·simp only[aX]at hc;subst hc;refine⟨λhk=>absurd (hK _ hk) (Nat.lt_irrefl _),?_,bm _⟩;rw[hheap];simp
 ·cases hy
def as4(L:ano P ρ)(X:QP P ρ)(hφ:φ g=ρ.f 156):r6 P φ g auA:=by
 refine r6.pA ⟨_,by rw[hφ];exact L.f156,fun h=>absurd ((show(Body.n156 ρ).name= "strings.Join" from rfl).symm.trans h) (by decide),rfl⟩ rfl rfl fun x y hy0=> ?_;obtain⟨xs,b,⟨⟩⟩:=x;have hy:(if ah (cP (α:=List UInt8) xs<=140737488355328)&&ah ((mZ xs b).length<=140737488355328)then ae (mZ xs b)else ai)=ae y:=hy0;split at hy
 ·rename_i hc;obtain⟨c1,c2⟩:=hZ.1 hc;have h0:=cd c1;have h1:=cd c2;obtain rfl:=cq hy;show dB P φ g [A.sl 1 (xs.map A.str),A.str b] [A.str (mZ xs b)] [];have hn:([A.sl 1 (xs.map A.str),A.str b]:List A).any E0=aw:=rfl;refine dB.OA hn λw K vs hr hK hG=> ?_;rw[hφ]
  cases hr with
  |cons v _ vs _ hv t=>
   cases t with
   |cons u _ us _ hu t=>
    cases t;cases hu;generalize hys:xs.map A.str=ys at hv
    cases hv with
    |No ad cap z=>
     (have:xs=[]:=by cases xs with|nil=>rfl|cons=>simp at hys);subst this;refine(Any.strings_Join_none L X ad cap ⟨b.toArray⟩ w).mono λe w' hh=> ?_;obtain⟨rfl,rfl⟩:=hh;exact⟨[_],rfl,BU _ _,.cons _ _ _ _ (.str _) .nil⟩
    |sl bk o cap z _ cs hb hz hcap h hv'=>
     subst hys;rw[ae8]at h;(have hcs:cs=xs.map λs=>zr ⟨s.toArray⟩:=by clear hv' hcap hz h0 h1 c1 c2 hc hn hy hy0;induction xs generalizing cs with|nil=>cases h;rfl|cons s xs ih=>cases h with|cons v _ vs _ h t=>cases h;rw[ih _ t,aP]);subst hcs;have hle:((xs.map λs=>(⟨s.toArray⟩:ByteArray)).map λx=>x.data.toList)=xs:=by(rw[uX];conv=>rhs;rw[<-List.map_id xs]);exact nw λx _=>by simp
     have hc:=Any.strings_Join L X bk o cap (xs.map λs=>(⟨s.toArray⟩:ByteArray)) ⟨b.toArray⟩ w (λj x hx=>by
      rw[bX]at hx
      obtain⟨s,hs,rfl⟩:=au.1 hx
      exact hv' j _ (by rw[bX,hs];rfl)) (hK bk hb) (by simpa using h0) (by simpa using hcap) (by rw[hle];exact h1)
     rw[hle]at hc;(have hl:(xs.map A.str).length=(xs.map λs=>(⟨s.toArray⟩:ByteArray)).length:=by simp);rw[hl];refine hc.mono λe w' hh=> ?_;obtain⟨rfl,hbw⟩:=hh;exact⟨[_],rfl,hbw,.cons _ _ _ _ (.str _) .nil⟩
 ·cases hy
def aok{w:World}{K:Nat->Prop}{vs:List Value}{a:List UInt8}(h:cW φ w K vs [.str a]):vs=[.string ⟨a.toArray⟩]:=by cases h with|cons v _ vs _ h t=>cases h;cases t;rfl
structure apG(P:Program)(r p f:Nat):Prop where
 en:jR P r
 long:∀(s:ByteArray) (w:World),18<(jF s.data.toList [45]).length->
  Calls P r #[.string s] w λe w'=>e=.returned (.tuple #[.int .i64 0,.bool aw])/\Below w.heap.size w w'
 bad:∀(s:ByteArray) (w:World),¬18<(jF s.data.toList [45]).length->∀(m:Int) (u:TypeId),
  (Calls P p #[.string s,.int .i64 10,.int .i64 64] w λe w'=>∃x,e=.returned (.tuple #[.int .i64 m,.iface u x])/\Below w.heap.size w w')->
  Calls P r #[.string s] w λe w'=>e=.returned (.tuple #[.int .i64 0,.bool aw])/\Below w.heap.size w w'
 ok:∀(s:ByteArray) (w:World),¬18<(jF s.data.toList [45]).length->∀(v:Int),bG v=s.data.toList->
  (Calls P p #[.string s,.int .i64 10,.int .i64 64] w λe w'=>e=.returned (.tuple #[.int .i64 v,.nilIface])/\Below w.heap.size w w')->
  (∀w',Below w.heap.size w w'->Calls P f #[.int .i64 v,.int .i64 10] w' λe w''=>e=.returned (.string ⟨(bG v).toArray⟩)/\Below w'.heap.size w' w'')->
  Calls P r #[.string s] w λe w'=>e=.returned (.tuple #[.int .i64 v,.bool ar])/\Below w.heap.size w w'
 no:∀(s:ByteArray) (w:World),¬18<(jF s.data.toList [45]).length->∀(v:Int),bG v≠s.data.toList->
  (Calls P p #[.string s,.int .i64 10,.int .i64 64] w λe w'=>e=.returned (.tuple #[.int .i64 v,.nilIface])/\Below w.heap.size w w')->
  (∀w',Below w.heap.size w w'->Calls P f #[.int .i64 v,.int .i64 10] w' λe w''=>e=.returned (.string ⟨(bG v).toArray⟩)/\Below w'.heap.size w' w'')->
  Calls P r #[.string s] w λe w'=>e=.returned (.tuple #[.int .i64 0,.bool aw])/\Below w.heap.size w w'
def alK{l:List UInt8}(h:¬18<(jF l [45]).length):l.length<=19:=by
 unfold jF at h;split at h;·simp at h;omega
 ·omega
def acn{ρ':Ren}{r:Nat}(L:aki P ρ)(L':aau P ρ')(hg:∃i,P.globalNamed uE=ae i)
 (h15:P.globalNamed "strconv.ErrSyntax" =ae (ρ.g 15)) (h16:P.globalNamed "strconv.ErrRange" =ae (ρ.g 16))
 (h:apG P r (ρ.f 174) (ρ'.f 173)) (hφ:φ g=r):r6 P φ g aje:=by
 refine r6.pA (by rw[hφ];exact h.en) rfl rfl λx y hy0=> ?_
 obtain⟨a,⟨⟩⟩:=x
 have hy:ae (Fh a)=ae y:=hy0
 obtain rfl:=cq hy
 show dB P φ g [A.str a] [A.int .i64 (Fh a).1,A.bool (Fh a).2] []
 have hn:([A.str a]:List A).any E0=aw:=rfl
 refine dB.OA hn λw K vs hr hK hG=> ?_
 rw[aok hr,hφ]
 obtain⟨i,hi⟩:=hg
 have htab:=(hG.tab i hi).2
 have hlt:i<w.heap.size:=hK _ (hG.tab i hi).1
 have fin:∀(n:Int) (b:Bool),(Calls P r #[.string ⟨a.toArray⟩] w λe w'=>e=.returned (.tuple #[.int .i64 n,.bool b])/\Below w.heap.size w w')->
  Calls P r #[.string ⟨a.toArray⟩] w λe w'=>∃rvs,e=.returned (C7 rvs)/\Below w.heap.size w w'/\cW φ w (λ_=>False) rvs [A.int .i64 n,A.bool b]:=λn b hc=>
  hc.mono λe w' hh=>⟨[_,_],hh.1,hh.2,.cons _ _ _ _ (.int _ _) (.cons _ _ _ _ (.bool _) .nil)⟩
 have e1:(⟨a.toArray⟩:ByteArray).data.toList=a:=rfl
 unfold Fh
 split
 ·rename_i hl
  exact fin _ _ (h.long ⟨a.toArray⟩ w hl)
 ·rename_i hl
  have hs:(⟨a.toArray⟩:ByteArray).size<=19:=by rw[Kz];exact alK hl
  split
  ·rename_i v hv
   have hb:=Lib.parseIntB_bounds hv
   have e:((2^(64-1):Nat):Int)=9223372036854775808:=by decide
   rw[e]at hb
   have hb1: -9223372036854775808<=v:=hb.1
   have hb2:v<=9223372036854775807:=by have:=hb.2;omega
   have hP:Calls P (ρ.f 174) #[.string ⟨a.toArray⟩,.int .i64 10,.int .i64 64] w λe w'=>e=.returned (.tuple #[.int .i64 v,.nilIface])/\Below w.heap.size w w':=
    (Any.strconv_ParseInt_10_at64_ok L ⟨a.toArray⟩ (by omega) v hv w).mono λe w' hh=>⟨hh.1,by
      rcases hh.2 with rfl|⟨t,rfl⟩
      ·exact BU _ _
      ·exact Lib.bytesWorld_below _ _ _⟩
   have hF:∀w',Below w.heap.size w w'->Calls P (ρ'.f 173) #[.int .i64 v,.int .i64 10] w' λe w''=>e=.returned (.string ⟨(bG v).toArray⟩)/\Below w'.heap.size w' w'':=λw' hw=>
    (ahR L' v hb1 hb2 w' (Go.Joins.tab_stays hi htab hw (bm _))).mono λe w'' hh=>by obtain⟨rfl,k,os,rfl⟩:=hh;exact⟨rfl,aaE k os⟩
   split
   ·rename_i hc
    exact fin _ _ (h.ok ⟨a.toArray⟩ w hl v hc hP hF)
   ·rename_i hc
    exact fin _ _ (h.no ⟨a.toArray⟩ w hl v hc hP hF)
  ·rename_i hv
   cases hp:Lib.parseIntB 64 a with
   |ok v=>exact absurd hp (hv v)
   |range=>
    obtain⟨u,x,hx⟩:=(hG.err "strconv.ErrRange" (by decide) _ h16).2
    have hc:=(asb h16 hx 0).trans (show(#[awT u x]:Array Value)[0]? =ae (.iface u x)from rfl)
    exact fin _ _ (h.bad ⟨a.toArray⟩ w hl _ _ ((Any.strconv_ParseInt_10_at64_range L ⟨a.toArray⟩ (by omega) hp _ w hc (.inr ⟨_,_,rfl⟩)).mono λe w' hh=>by
     obtain⟨N,rfl,_,_,hb⟩:=hh
     exact⟨_,rfl,hb⟩))
   | _ =>
     obtain⟨u,x,hx⟩:=(hG.err "strconv.ErrSyntax" (by decide) _ h15).2
     have hc:=(asb h15 hx 0).trans (show(#[awT u x]:Array Value)[0]? =ae (.iface u x)from rfl)
     exact fin _ _ (h.bad ⟨a.toArray⟩ w hl 0 _ ((Any.strconv_ParseInt_10_at64_syntax L ⟨a.toArray⟩ (by omega) hp _ w hc (.inr ⟨_,_,rfl⟩)).mono λe w' hh=>by
      obtain⟨N,rfl,_,_,hb⟩:=hh
      exact⟨_,rfl,hb⟩))
end
end Go.Ab
namespace Go.Proofs
def jQ{α:Type _}{a:Option α}{b c:α}(h:a=ae b)(e:b=c:=by kernel_rfl):a=ae c:=h.trans (congrArg ae e)
open Go.Shelf
def Tryz.Ya:tL:=⟨λ|156=>261|165=>309|166=>310|169=>311|240=>340|241=>341|276=>374|277=>375|n=>n,λ|31=>40|9=>9|3=>3|4=>4|0=>0|20=>20|72=>316|76=>318|70=>314|37=>22|75=>255|127=>353|164=>387|5=>5|80=>320|n=>n,λ|n=>n⟩
def Tryz.as8:ano aF Tryz.Ya:={
 mixed:=by kernel_rfl
 f156:=jQ Tryz.func261
 f165:=jQ awu
 f166:=jQ awv
 f169:=jQ aww
 f240:=jQ awA
 f241:=jQ awB
 f276:=jQ awH
 f277:=jQ awI
 t0:=vG
 a0:=I9
 z0:=F2
 v0:=xt
 t3:=dE
 a3:=xB
 z3:=vC
 v3:=nP
 t4:=j5
 a4:=xC
 z4:=vD
 v4:=nQ
 t9:=dx
 a9:=xE
 z9:=vF
 v9:=nS
 t20:=Ja
 a20:=XN
 z20:=Tm
 v20:=Mp
 t31:=zx
 a31:=aj6
 z31:=ahJ
 v31:=Z6
 t37:=Jb
 a37:=XO
 z37:=Tn
 v37:=Mq
 t70:=ao7
 a70:=auX
 z70:=aud
 v70:=apr
 t72:=ao8
 a72:=auY
 z72:=aue
 v72:=aps
 t75:=xv
 a75:=ahG
 z75:=aeK
 v75:=XR
 t76:=ao9
 a76:=auZ
 z76:=auf
 v76:=apt
 t127:=VD
 a127:=ahI
 z127:=aeM
 v127:=XT
 t164:=apc
 a164:=au2
 z164:=aui
 v164:=apw}
def Tryz.S9:QP aF Tryz.Ya:={
 sizeBuilder:=by kernel_rfl
 liesBuilder:=by kernel_rfl
 t5:=mK
 a5:=xD
 z5:=vE
 v5:=nR
 infoByte:=by kernel_rfl
 cellsByte:=by kernel_rfl
 sizeByte:=by kernel_rfl
 neB5:=by decide}
def Tryz.agG:tL:=⟨λ|173=>286|246=>331|283=>370|284=>371|285=>372|286=>373|129=>364|317=>392|318=>393|319=>394|320=>395|337=>400|338=>401|n=>n,λ|2=>2|3=>3|9=>9|4=>4|171=>383|0=>0|53=>85|37=>22|5=>5|173=>385|212=>406|51=>304|20=>20|213=>407|46=>152|232=>414|233=>415|n=>n,λ|17=>5|18=>6|19=>7|n=>n⟩
def Tryz.aiE:aau aF Tryz.agG:={
 mixed:=by kernel_rfl
 f129:=jQ aj5
 f173:=jQ Tryz.func286
 f246:=jQ awz
 f283:=jQ awD
 f284:=jQ awE
 f285:=jQ awF
 f286:=jQ awG
 f317:=jQ awJ
 f318:=jQ awK
 f319:=jQ awL
 f320:=jQ awM
 f337:=jQ awN
 f338:=jQ awO
 t0:=vG
 a0:=I9
 z0:=F2
 v0:=xt
 t2:=ar8
 a2:=Tryz.isAgg2
 z2:=awS
 v2:=asp
 t3:=dE
 a3:=xB
 z3:=vC
 v3:=nP
 t4:=j5
 a4:=xC
 z4:=vD
 v4:=nQ
 t5:=mK
 a5:=xD
 z5:=vE
 v5:=nR
 t9:=dx
 a9:=xE
 z9:=vF
 v9:=nS
 t20:=Ja
 a20:=XN
 z20:=Tm
 v20:=Mp
 t37:=Jb
 a37:=XO
 z37:=Tn
 v37:=Mq
 t46:=qL
 a46:=BR
 z46:=zu
 v46:=si
 t51:=qM
 a51:=BS
 z51:=zw
 v51:=sk
 t53:=Jc
 a53:=XP
 z53:=Tp
 v53:=Mr
 t171:=apa
 a171:=au0
 z171:=aug
 v171:=apu
 t173:=apb
 a173:=au1
 z173:=auh
 v173:=apv
 t212:=apd
 a212:=au3
 z212:=auj
 v212:=apx
 t213:=ape
 a213:=au4
 z213:=auk
 t232:=apf
 a232:=au5
 z232:=aul
 v232:=apy
 t233:=apg
 a233:=au6
 z233:=aum
 v233:=apz
 g17:=by kernel_rfl
 g18:=by kernel_rfl
 g19:=by kernel_rfl
 i0:=by kernel_rfl
 i2:=by kernel_rfl
 i3:=by kernel_rfl
 i4:=by kernel_rfl
 i5:=by kernel_rfl
 i9:=by kernel_rfl
 i20:=by kernel_rfl
 i37:=by kernel_rfl
 i46:=by kernel_rfl
 i51:=by kernel_rfl
 i53:=by kernel_rfl
 i171:=by kernel_rfl
 i173:=by kernel_rfl
 i212:=by kernel_rfl
 i232:=by kernel_rfl
 i233:=by kernel_rfl
 m17:=by kernel_rfl
 m18:=by kernel_rfl
 m19:=by kernel_rfl}
def Tryz.agD:tL:=⟨λ|174=>213|247=>284|245=>285|287=>326|279=>327|280=>328|281=>329|282=>330|321=>365|322=>366|316=>367|171=>369|205=>368|243=>391|246=>331|283=>370|284=>371|285=>372|286=>373|129=>364|317=>392|318=>393|319=>394|320=>395|337=>400|338=>401|n=>n,λ|9=>9|3=>3|2=>2|75=>255|85=>256|4=>4|167=>337|5=>5|53=>85|175=>338|46=>152|168=>340|37=>22|0=>0|210=>380|21=>21|127=>353|145=>404|143=>402|171=>383|173=>385|212=>406|51=>304|20=>20|213=>407|232=>414|233=>415|80=>320|n=>n,λ|15=>3|16=>4|17=>5|18=>6|19=>7|n=>n⟩
def Tryz.aqD:aki aF Tryz.agD:={
 mixed:=by kernel_rfl
 f129:=jQ aj5
 f171:=jQ Tryz.func369
 f174:=jQ Tryz.func213
 f205:=jQ Tryz.func368
 f243:=jQ Tryz.func391
 f245:=jQ Tryz.func285
 f246:=jQ awz
 f247:=jQ Tryz.func284
 f279:=jQ Tryz.func327
 f280:=jQ Tryz.func328
 f281:=jQ Tryz.func329
 f282:=jQ Tryz.func330
 f283:=jQ awD
 f284:=jQ awE
 f285:=jQ awF
 f286:=jQ awG
 f287:=jQ Tryz.func326
 f316:=jQ Tryz.func367
 f317:=jQ awJ
 f318:=jQ awK
 f319:=jQ awL
 f320:=jQ awM
 f321:=jQ Tryz.func365
 f322:=jQ Tryz.func366
 f337:=jQ awN
 f338:=jQ awO
 t0:=vG
 a0:=I9
 z0:=F2
 v0:=xt
 t2:=ar8
 a2:=Tryz.isAgg2
 z2:=awS
 v2:=asp
 t3:=dE
 a3:=xB
 z3:=vC
 v3:=nP
 t4:=j5
 a4:=xC
 z4:=vD
 v4:=nQ
 t5:=mK
 a5:=xD
 z5:=vE
 v5:=nR
 t9:=dx
 a9:=xE
 z9:=vF
 v9:=nS
 t20:=Ja
 a20:=XN
 z20:=Tm
 v20:=Mp
 t21:=apq
 a21:=awP
 z21:=au9
 v21:=ar9
 t37:=Jb
 a37:=XO
 z37:=Tn
 v37:=Mq
 t46:=qL
 a46:=BR
 z46:=zu
 v46:=si
 t51:=qM
 a51:=BS
 z51:=zw
 v51:=sk
 t53:=Jc
 a53:=XP
 z53:=Tp
 v53:=Mr
 t75:=xv
 a75:=ahG
 z75:=aeK
 v75:=XR
 t85:=Tryz.underlying256
 a85:=Tryz.isAgg256
 z85:=Tryz.sizeOf256
 v85:=Tryz.zeroValue256
 t127:=VD
 a127:=ahI
 z127:=aeM
 v127:=XT
 t143:=Tryz.underlying402
 a143:=Tryz.isAgg402
 z143:=Tryz.sizeOf402
 v143:=Tryz.zeroValue402
 t145:=Tryz.underlying404
 a145:=Tryz.isAgg404
 z145:=Tryz.sizeOf404
 v145:=Tryz.zeroValue404
 t167:=Tryz.underlying337
 a167:=Tryz.isAgg337
 z167:=Tryz.sizeOf337
 v167:=Tryz.zeroValue337
 t168:=Tryz.underlying340
 a168:=Tryz.isAgg340
 z168:=Tryz.sizeOf340
 v168:=Tryz.zeroValue340
 t171:=apa
 a171:=au0
 z171:=aug
 v171:=apu
 t173:=apb
 a173:=au1
 z173:=auh
 v173:=apv
 t175:=Tryz.underlying338
 a175:=Tryz.isAgg338
 z175:=Tryz.sizeOf338
 v175:=Tryz.zeroValue338
 t210:=Tryz.underlying380
 a210:=Tryz.isAgg380
 z210:=Tryz.sizeOf380
 v210:=Tryz.zeroValue380
 t212:=apd
 a212:=au3
 z212:=auj
 v212:=apx
 t213:=ape
 a213:=au4
 z213:=auk
 t232:=apf
 a232:=au5
 z232:=aul
 v232:=apy
 t233:=apg
 a233:=au6
 z233:=aum
 v233:=apz
 g15:=by kernel_rfl
 g16:=by kernel_rfl
 g17:=by kernel_rfl
 g18:=by kernel_rfl
 g19:=by kernel_rfl
 t80:=Tryz.underlying320
 a80:=Tryz.isAgg320
 z80:=Tryz.sizeOf320
 v80:=Tryz.zeroValue320
 i0:=by kernel_rfl
 i2:=by kernel_rfl
 i3:=by kernel_rfl
 i4:=by kernel_rfl
 i5:=by kernel_rfl
 i9:=by kernel_rfl
 i20:=by kernel_rfl
 i21:=by kernel_rfl
 i37:=by kernel_rfl
 i46:=by kernel_rfl
 i51:=by kernel_rfl
 i53:=by kernel_rfl
 i75:=by kernel_rfl
 i80:=by kernel_rfl
 i85:=by kernel_rfl
 i127:=by kernel_rfl
 i143:=by kernel_rfl
 i145:=by kernel_rfl
 i167:=by kernel_rfl
 i168:=by kernel_rfl
 i171:=by kernel_rfl
 i173:=by kernel_rfl
 i175:=by kernel_rfl
 i210:=by kernel_rfl
 i212:=by kernel_rfl
 i232:=by kernel_rfl
 i233:=by kernel_rfl
 m15:=by kernel_rfl
 m16:=by kernel_rfl
 m17:=by kernel_rfl
 m18:=by kernel_rfl
 m19:=by kernel_rfl
 c0:=by kernel_rfl
 c2:=by kernel_rfl
 c3:=by kernel_rfl
 c4:=by kernel_rfl
 c5:=by kernel_rfl
 c9:=by kernel_rfl
 c20:=by kernel_rfl
 c21:=by kernel_rfl
 c37:=by kernel_rfl
 c46:=by kernel_rfl
 c51:=by kernel_rfl
 c53:=by kernel_rfl
 c75:=by kernel_rfl
 c80:=by kernel_rfl
 c85:=by kernel_rfl
 c127:=by kernel_rfl
 c143:=by kernel_rfl
 c145:=by kernel_rfl
 c167:=by kernel_rfl
 c168:=by kernel_rfl
 c171:=by kernel_rfl
 c173:=by kernel_rfl
 c175:=by kernel_rfl
 c210:=by kernel_rfl
 c212:=by kernel_rfl
 c213:=by kernel_rfl
 c232:=by kernel_rfl
 c233:=by kernel_rfl}
def Tryz.agE:tL:=⟨λ|145=>72|220=>102|219=>170|217=>232|225=>233|224=>234|267=>235|266=>293|314=>294|n=>n,λ|9=>9|4=>4|59=>133|3=>3|5=>5|46=>152|146=>305|51=>304|n=>n,λ|1=>0|n=>n⟩
def Tryz.aqE:akj aF Tryz.agE:={
 mixed:=by kernel_rfl
 f145:=jQ Tryz.func72
 f217:=jQ awn
 f219:=jQ awl
 f220:=jQ Tryz.func102
 f224:=jQ awp
 f225:=jQ awo
 f266:=jQ aws
 f267:=jQ awq
 f314:=jQ awt
 t3:=dE
 a3:=xB
 z3:=vC
 v3:=nP
 t4:=j5
 a4:=xC
 z4:=vD
 v4:=nQ
 t5:=mK
 a5:=xD
 z5:=vE
 v5:=nR
 t9:=dx
 a9:=xE
 z9:=vF
 v9:=nS
 t46:=qL
 a46:=BR
 z46:=zu
 v46:=si
 t51:=qM
 a51:=BS
 z51:=zw
 v51:=sk
 t59:=Tryz.underlying133
 a59:=Tryz.isAgg133
 z59:=Tryz.sizeOf133
 v59:=Tryz.zeroValue133
 t146:=VC
 a146:=ahH
 z146:=aeL
 v146:=XS
 g1:=by kernel_rfl
 i3:=by kernel_rfl
 i4:=by kernel_rfl
 i5:=by kernel_rfl
 i9:=by kernel_rfl
 i46:=by kernel_rfl
 i51:=by kernel_rfl
 i59:=by kernel_rfl
 i146:=by kernel_rfl
 m1:=by kernel_rfl
 s1_3:=λw h=>Rl (zero:= #[.int .i64 0]) (t:=3) h (cd (by kernel_rfl)) (by kernel_rfl) rfl (by kernel_rfl) (by kernel_rfl) dE}
def Tryz.aiC:tL:=⟨λ|101=>212|208=>283|206=>325|n=>n,λ|9=>9|4=>4|3=>3|n=>n,λ|n=>n⟩
def Tryz.as6:awj aF Tryz.aiC:={
 mixed:=by kernel_rfl
 f101:=jQ Tryz.func212
 f206:=jQ awy
 f208:=jQ Tryz.func283
 t3:=dE
 a3:=xB
 z3:=vC
 v3:=nP
 t4:=j5
 a4:=xC
 z4:=vD
 v4:=nQ
 t9:=dx
 a9:=xE
 z9:=vF
 v9:=nS}
open Go.RowKit Go.Lib in
def Tryz.strings_TrimPrefix(s p:ByteArray)(w:World):
 Calls aF 212 #[.string s,.string p] w λe w'=>e=.returned (.string ⟨(jF s.data.toList p.data.toList).toArray⟩)/\w'=w:=Any.strings_TrimPrefix Tryz.as6 s p w
def Tryz.agF:tL:=⟨λ|146=>16|221=>54|268=>89|138=>90|143=>91|195=>167|197=>168|218=>169|219=>170|260=>231|217=>232|225=>233|224=>234|267=>235|266=>293|314=>294|n=>n,λ|9=>9|31=>40|3=>3|4=>4|0=>0|105=>216|21=>21|5=>5|46=>152|119=>300|139=>303|138=>302|146=>305|51=>304|n=>n,λ|1=>0|3=>1|4=>2|n=>n⟩
def Tryz.aqF:akk aF Tryz.agF:={
 mixed:=by kernel_rfl
 f138:=jQ Tryz.func90
 f143:=jQ Tryz.func91
 f146:=jQ Tryz.func16
 f195:=jQ Tryz.func167
 f197:=jQ Tryz.func168
 f217:=jQ awn
 f218:=jQ Tryz.func169
 f219:=jQ awl
 f221:=jQ Tryz.func54
 f224:=jQ awp
 f225:=jQ awo
 f260:=jQ Tryz.func231
 f266:=jQ aws
 f267:=jQ awq
 f268:=jQ Tryz.func89
 f314:=jQ awt
 t0:=vG
 a0:=I9
 z0:=F2
 v0:=xt
 t3:=dE
 a3:=xB
 z3:=vC
 v3:=nP
 t4:=j5
 a4:=xC
 z4:=vD
 v4:=nQ
 t5:=mK
 a5:=xD
 z5:=vE
 v5:=nR
 t9:=dx
 a9:=xE
 z9:=vF
 v9:=nS
 t21:=apq
 a21:=awP
 z21:=au9
 v21:=ar9
 t31:=zx
 a31:=aj6
 z31:=ahJ
 v31:=Z6
 t46:=qL
 a46:=BR
 z46:=zu
 v46:=si
 t51:=qM
 a51:=BS
 z51:=zw
 v51:=sk
 t105:=Tryz.underlying216
 a105:=Tryz.isAgg216
 z105:=Tryz.sizeOf216
 v105:=Tryz.zeroValue216
 t119:=Tryz.underlying300
 a119:=Tryz.isAgg300
 z119:=Tryz.sizeOf300
 t138:=Tryz.underlying302
 a138:=Tryz.isAgg302
 z138:=Tryz.sizeOf302
 v138:=Tryz.zeroValue302
 t139:=Tryz.underlying303
 a139:=Tryz.isAgg303
 z139:=Tryz.sizeOf303
 v139:=Tryz.zeroValue303
 t146:=VC
 a146:=ahH
 z146:=aeL
 v146:=XS
 g1:=by kernel_rfl
 g3:=by kernel_rfl
 g4:=by kernel_rfl
 i0:=by kernel_rfl
 i3:=by kernel_rfl
 i4:=by kernel_rfl
 i5:=by kernel_rfl
 i9:=by kernel_rfl
 i21:=by kernel_rfl
 i31:=by kernel_rfl
 i46:=by kernel_rfl
 i51:=by kernel_rfl
 i105:=by kernel_rfl
 i138:=by kernel_rfl
 i139:=by kernel_rfl
 i146:=by kernel_rfl
 m1:=by kernel_rfl
 s1_3:=λw h=>Rl (zero:= #[.int .i64 0]) (t:=3) h (cd (by kernel_rfl)) (by kernel_rfl) rfl (by kernel_rfl) (by kernel_rfl) dE
 m3:=by kernel_rfl
 m4:=by kernel_rfl}
def Tryz.X9:tL:=⟨λ|105=>320|212=>346|99=>347|165=>309|166=>310|170=>348|169=>311|263=>377|264=>378|206=>325|240=>340|241=>341|276=>374|277=>375|n=>n,λ|9=>9|3=>3|4=>4|20=>20|0=>0|46=>152|109=>357|5=>5|72=>316|76=>318|51=>304|146=>305|53=>85|148=>392|70=>314|37=>22|75=>255|127=>353|164=>387|80=>320|n=>n,λ|n=>n⟩
def Tryz.as7:ann aF Tryz.X9:={
 mixed:=by kernel_rfl
 f99:=jQ Tryz.func347
 f105:=jQ Tryz.func320
 f165:=jQ awu
 f166:=jQ awv
 f169:=jQ aww
 f170:=jQ Tryz.func348
 f206:=jQ awy
 f212:=jQ Tryz.func346
 f240:=jQ awA
 f241:=jQ awB
 f263:=jQ Tryz.func377
 f264:=jQ Tryz.func378
 f276:=jQ awH
 f277:=jQ awI
 t0:=vG
 a0:=I9
 z0:=F2
 v0:=xt
 t3:=dE
 a3:=xB
 z3:=vC
 v3:=nP
 t4:=j5
 a4:=xC
 z4:=vD
 v4:=nQ
 t5:=mK
 a5:=xD
 z5:=vE
 v5:=nR
 t9:=dx
 a9:=xE
 z9:=vF
 v9:=nS
 t20:=Ja
 a20:=XN
 z20:=Tm
 v20:=Mp
 t37:=Jb
 a37:=XO
 z37:=Tn
 v37:=Mq
 t46:=qL
 a46:=BR
 z46:=zu
 v46:=si
 t51:=qM
 a51:=BS
 z51:=zw
 v51:=sk
 t53:=Jc
 a53:=XP
 z53:=Tp
 v53:=Mr
 t70:=ao7
 a70:=auX
 z70:=aud
 v70:=apr
 t72:=ao8
 a72:=auY
 z72:=aue
 v72:=aps
 t75:=xv
 a75:=ahG
 z75:=aeK
 v75:=XR
 t76:=ao9
 a76:=auZ
 z76:=auf
 v76:=apt
 t109:=Tryz.underlying357
 a109:=Tryz.isAgg357
 z109:=Tryz.sizeOf357
 v109:=Tryz.zeroValue357
 t127:=VD
 a127:=ahI
 z127:=aeM
 v127:=XT
 t146:=VC
 a146:=ahH
 z146:=aeL
 v146:=XS
 t148:=Tryz.underlying392
 a148:=Tryz.isAgg392
 z148:=Tryz.sizeOf392
 v148:=Tryz.zeroValue392
 t164:=apc
 a164:=au2
 z164:=aui
 v164:=apw}
def Tryz.S8:QP aF Tryz.X9:={
 sizeBuilder:=by kernel_rfl
 liesBuilder:=by kernel_rfl
 t5:=mK
 a5:=xD
 z5:=vE
 v5:=nR
 infoByte:=by kernel_rfl
 cellsByte:=by kernel_rfl
 sizeByte:=by kernel_rfl
 neB5:=by decide}
def Tryz.aiD:tL:=⟨λ|190=>282|125=>324|258=>323|128=>363|129=>364|302=>354|303=>355|304=>356|305=>357|306=>358|307=>359|308=>360|309=>361|310=>362|333=>385|329=>386|330=>387|334=>388|335=>389|336=>390|344=>399|n=>n,λ|31=>40|9=>9|3=>3|46=>152|0=>0|51=>304|53=>85|4=>4|183=>369|182=>368|131=>373|5=>5|218=>396|222=>400|228=>410|229=>411|n=>n,λ|n=>n⟩
def Tryz.as9:awk aF Tryz.aiD:={
 mixed:=by kernel_rfl
 f125:=jQ Tryz.func324
 f128:=jQ Tryz.func363
 f129:=jQ aj5
 f190:=jQ Tryz.func282
 f258:=jQ Tryz.func323
 f302:=jQ Tryz.func354
 f303:=jQ Tryz.func355
 f304:=jQ Tryz.func356
 f305:=jQ Tryz.func357
 f306:=jQ Tryz.func358
 f307:=jQ Tryz.func359
 f308:=jQ Tryz.func360
 f309:=jQ Tryz.func361
 f310:=jQ Tryz.func362
 f329:=jQ Tryz.func386
 f330:=jQ Tryz.func387
 f333:=jQ Tryz.func385
 f334:=jQ Tryz.func388
 f335:=jQ Tryz.func389
 f336:=jQ Tryz.func390
 f344:=jQ Tryz.func399
 t0:=vG
 a0:=I9
 z0:=F2
 v0:=xt
 t3:=dE
 a3:=xB
 z3:=vC
 v3:=nP
 t4:=j5
 a4:=xC
 z4:=vD
 v4:=nQ
 t5:=mK
 a5:=xD
 z5:=vE
 v5:=nR
 t9:=dx
 a9:=xE
 z9:=vF
 v9:=nS
 t31:=zx
 a31:=aj6
 z31:=ahJ
 v31:=Z6
 t46:=qL
 a46:=BR
 z46:=zu
 v46:=si
 t51:=qM
 a51:=BS
 z51:=zw
 v51:=sk
 t53:=Jc
 a53:=XP
 z53:=Tp
 v53:=Mr
 t131:=Tryz.underlying373
 a131:=Tryz.isAgg373
 z131:=Tryz.sizeOf373
 v131:=Tryz.zeroValue373
 t182:=Tryz.underlying368
 a182:=Tryz.isAgg368
 z182:=Tryz.sizeOf368
 v182:=Tryz.zeroValue368
 t183:=Tryz.underlying369
 a183:=Tryz.isAgg369
 z183:=Tryz.sizeOf369
 v183:=Tryz.zeroValue369
 t218:=Tryz.underlying396
 a218:=Tryz.isAgg396
 z218:=Tryz.sizeOf396
 v218:=Tryz.zeroValue396
 t222:=Tryz.underlying400
 a222:=Tryz.isAgg400
 z222:=Tryz.sizeOf400
 v222:=Tryz.zeroValue400
 t228:=Tryz.underlying410
 a228:=Tryz.isAgg410
 z228:=Tryz.sizeOf410
 v228:=Tryz.zeroValue410
 t229:=Tryz.underlying411
 a229:=Tryz.isAgg411
 z229:=Tryz.sizeOf411
 v229:=Tryz.zeroValue411}
end Go.Proofs
namespace Go.Proofs.YtohijocnlnmlpaaGreatDoor.fnConsole
open Go.Ab Go.Ab.P
open Go.ChangeShapes Go.WideShapes Go.ChangeAt Go.RowKit
def ayA:List (Nat×Nat):=[(76,4),(441,11),(847,34),(463,12),(557,36),(480,35),(726,164),(963,86),(1196,230),(1153,165),(1152,166),(1100,87),(995,37),(760,38),(763,39),(966,41),(996,40),(843,42),(997,43),(793,44),(801,45),(558,46),(998,47),(547,48),(999,49),(1053,88),(972,50),(1000,51),(806,52),(1001,53),(835,13),(642,14),(445,15),(436,5),(683,16),(21,17),(196,7),(22,236),(24,171),(23,95),(483,172),(682,173),(485,92),(713,55),(762,93),(509,56),(944,94),(714,57),(444,58),(500,174),(796,96),(468,59),(25,175),(26,176),(30,97),(57,60),(545,177),(551,98),(472,61),(977,178),(978,179),(791,99),(715,62),(809,100),(635,63),(288,19),(1002,64),(758,65),(624,101),(1003,66),(1004,67),(1005,68),(473,69),(1006,70),(1305,71),(837,20),(484,253),(27,265),(452,339),(486,302),(849,303),(482,254),(414,192),(864,286),(524,214),(630,261),(460,252),(1079,195),(1078,191),(1312,134),(508,255),(507,256),(510,304),(506,257),(134,193),(1313,135),(772,262),(465,312),(464,308),(771,263),(362,198),(1080,197),(1314,137),(449,264),(447,266),(317,199),(1315,138),(501,267),(795,313),(499,268),(122,200),(1316,139),(29,269),(28,270),(32,201),(1317,140),(556,271),(555,272),(54,314),(554,273),(179,202),(1318,141),(475,275),(448,274),(169,203),(4,153),(5,76),(170,204),(1319,142),(102,205),(1320,143),(369,276),(370,206),(1321,144),(641,318),(980,345),(1264,376),(1265,344),(803,316),(979,317),(802,277),(394,207),(1322,145),(632,319),(518,320),(911,349),(631,321),(1024,384),(872,383),(1237,398),(1238,382),(566,353),(517,322),(219,280),(296,209),(1323,147),(810,281),(396,210),(1324,148),(432,211),(1325,149),(774,258),(773,259),(971,307),(967,306),(1270,305),(770,260),(363,194),(353,196),(1326,136),(638,71),(636,278),(637,279),(233,208),(1327,146),(458,180),(522,150),(457,151),(673,215),(680,287),(681,288),(262,216),(263,289),(668,290),(260,217),(261,152),(459,237),(412,181),(413,104),(1083,182),(1082,106),(1306,105),(1328,103),(523,72),(747,183),(340,108),(1086,184),(1085,110),(1307,109),(1329,107),(354,112),(1330,111),(311,114),(1331,113),(376,116),(1089,185),(1088,118),(1308,117),(1332,115),(326,120),(1092,186),(1091,122),(1309,121),(1333,119),(1095,124),(1096,187),(1094,126),(1310,125),(1334,123),(367,128),(1099,188),(1098,130),(1311,129),(1335,127),(387,189),(388,132),(808,190),(389,133),(1336,131),(1007,75),(839,21),(838,22),(836,23),(434,8),(825,18),(435,6),(11,291),(12,292),(13,218),(1,158),(490,219),(850,220),(851,221),(492,154),(942,77),(962,222),(764,155),(943,78),(968,156),(777,79),(844,157),(451,80),(495,223),(800,159),(497,81),(14,224),(15,225),(20,160),(53,82),(1012,226),(848,161),(474,83),(1054,227),(1055,228),(976,162),(790,84),(645,229),(912,163),(640,85),(712,24),(289,9),(659,25),(660,26),(662,28),(1239,27),(663,29),(664,30),(665,31),(666,32),(667,33),(237,10),(1337,3)]
def M8(n:Nat):Nat:=(ayA.lookup n).getD 1000000
def hm:aF.follows .mixedOrders=ar:=by kernel_rfl
def rk(r:Rec)(hD:DOk aF M8 r.D)(hc:aaQ aF M8 r.id r.dec.1=ar:=by kernel_rfl):r6 aF M8 r.id r.c:=ain hm hD hc _ _ _ _
def kk{D:List (Nat×Go.Ab.Callee)}{g:Nat}{c:Go.Ab.Callee}(h:r6 aF M8 g c)(t:DOk aF M8 D):DOk aF M8 ((g,c)::D):=.cons h t
def zz:DOk aF M8 []:=.nil
def Zl:=rk EY zz
def Zm:=rk Fk zz
def QC:=rk qf zz
def db:=rk cV (kk QC zz)
def C5:=rk qg (kk db zz)
def Sl:=rk y5 (kk db zz)
def Fa:=rk jY zz
def iI:=rk fy (kk Fa zz)
def UM:=rk AB zz
def Zo:=rk yY (kk UM zz)
def ab2:=rk IM (kk Fa zz)
def Zp:=rk Fu (kk Fa<|kk ab2<|kk Zo zz)
def Zq:=rk Fv (kk iI<|kk Zp zz)
def Sm:=rk y7 (kk db zz)
def Zs:=rk Fx (kk iI zz)
def UN:=rk o7 (kk db zz)
def Zt:=rk tF (kk iI zz)
def UO:=rk AE (kk db zz)
def Zv:=rk FC (kk iI zz)
def Sn:=rk y9 (kk db zz)
def Zx:=rk FE (kk iI zz)
def Sp:=rk za (kk db zz)
def Zz:=rk FG (kk iI zz)
def Sq:=rk zb (kk db zz)
def ZA:=rk FH (kk iI zz)
def ab0:=rk IJ zz
def Sr:=rk zc (kk db<|kk ab0 zz)
def ZD:=rk FK (kk iI zz)
def Ss:=rk ze (kk db<|kk C5 zz)
def ZE:=rk FM (kk iI zz)
def QD:=rk mF (kk db<|kk Sl<|kk Sq<|kk C5<|kk Sp<|kk Sm<|kk Zs<|kk Sn<|kk Zx<|kk Ss<|kk UO<|kk UN<|kk Sr<|kk Zq<|kk Zt<|kk Zv<|kk Zz<|kk ZA<|kk ZD<|kk ZE zz)
def Sk:=rk yV (kk db zz)
def OL:=rk vp (kk db zz)
def QB:=rk mE (kk Zm<|kk OL<|kk db<|kk Sk<|kk QD zz)
def l6:r6 aF M8 683 kZ:=BL Tryz.aqF (cd (by kernel_rfl)) (by kernel_rfl)
def gh:=rk gk zz
def ML:=rk x7 zz
def MM:=rk yy zz
def mx:=rk iA (kk gh<|kk MM zz)
def bK:=rk bN zz
def OJ:=rk AX (kk bK zz)
def IC:=rk yx (kk bK zz)
def C2:=rk pR (kk bK<|kk mx<|kk OJ<|kk IC zz)
def C3:=rk mm (kk gh<|kk C2 zz)
def Hq:=rk uf (kk bK<|kk mx zz)
def Hu:=rk oM (kk gh<|kk Hq zz)
def abS:=rk qP (kk bK zz)
def my:=rk jg (kk abS zz)
def yM:=rk oJ (kk bK zz)
def OI:=rk AV (kk bK zz)
def Hp:=rk tY (kk bK<|kk mx<|kk OI zz)
def Hs:=rk oK (kk gh<|kk Hp zz)
def MN:=rk yA (kk bK zz)
def abT:=rk Is (kk bK zz)
def yL:=rk oH (kk bK<|kk mx<|kk MN<|kk abT zz)
def Ht:=rk oL (kk gh<|kk yL zz)
def OK:=rk AY (kk bK zz)
def E5:=rk rL (kk bK<|kk mx<|kk OK zz)
def E7:=rk nz (kk gh<|kk E5 zz)
def abW:=rk Iu (kk bK zz)
def abR:=rk Ir (kk bK zz)
def E9:=rk rQ (kk mx<|kk abW<|kk abR zz)
def E8:=rk rP (kk gh<|kk E9 zz)
def vk:=rk me (kk bK<|kk mx zz)
def ll:=rk gE (kk gh<|kk vk zz)
def Hr:=rk uh (kk Ht<|kk yM<|kk Hs<|kk E7<|kk Hu<|kk ll<|kk C3<|kk my<|kk E8 zz)
def Gp:=rk nV zz
def J4:=rk pY zz
def nJ:=rk ft zz
def WN:=rk wA (kk nJ zz)
def J2:=rk pW zz
def J3:=rk pX zz
def IA:=rk oO zz
def IB:=rk oP zz
def Av:=rk j8 zz
def WM:=rk Ch (kk IA<|kk J4<|kk Gp<|kk WN<|kk J2<|kk J3<|kk IB<|kk Av zz)
def adW:=rk K5 (kk bK zz)
def jJ:=rk iH zz
def adV:=rk Dc (kk jJ zz)
def agT:=rk Bu (kk adV zz)
def abP:=rk Ii (kk jJ zz)
def Qy:=rk pQ (kk agT<|kk abP zz)
def Qx:=rk mg (kk Qy<|kk OJ<|kk adW<|kk IC<|kk C3 zz)
def OM:r6 aF M8 864 vu:=agt Tryz.aiE ⟨5,by kernel_rfl⟩ (by kernel_rfl)
def jw:=rk iz (kk OM zz)
def Cl:r6 aF M8 630 tG:=as4 Tryz.as8 Tryz.S9 (by kernel_rfl)
def Au:=rk nj (kk gh<|kk bK<|kk jw<|kk Cl zz)
def BG:=rk wY zz
def lZ:=rk jt (kk Au<|kk BG zz)
def WA:=rk Mz (kk Qx<|kk lZ zz)
def Y9:=rk EM (kk bK zz)
def J5:=rk lF zz
def OH:=rk lj zz
def xN(n:Nat):aaQ aF M8 506 (fp n).dec.1=ar:=by kernel_rfl
def vT:∀n,r6 aF M8 506 (zL n)
 |0=>r6.none (ain hm (D:=[]) DOk.nil (xN 0) [] [] [] []).1
 |n+1=>by rw[Im];exact rk (fp n) (kk (vT n)<|kk OH zz) (xN n)
def LB:r6 aF M8 506 zM:=vT 1000
def Y0:=rk oF (kk bK<|kk LB<|kk J5<|kk Y9<|kk Hu zz)
def Wz:=rk My (kk Y0<|kk lZ zz)
def abQ:=rk Iq (kk bK zz)
def abY:=rk vP zz
def J8:=rk wF zz
def UI:=rk uu (kk jJ<|kk J8<|kk abY zz)
def UA:=rk Ad (kk my<|kk UI<|kk abQ zz)
def qc:=rk kE (kk jw<|kk BG zz)
def Ur:=rk Jw (kk UA<|kk qc zz)
def WQ:=rk Cj (kk bK zz)
def J0:=rk pN (kk jJ zz)
def Y6:=rk sH (kk bK<|kk jJ<|kk yM<|kk J0<|kk WQ zz)
def Uu:=rk Jy (kk Y6<|kk qc zz)
def adX:=rk La (kk bK zz)
def Uz:=rk tZ zz
def XX(n:Nat):aaQ aF M8 499 (wX n).dec.1=ar:=by kernel_rfl
def Q2:∀n,r6 aF M8 499 (aba n)
 |0=>r6.none (ain hm (D:=[]) DOk.nil (XX 0) [] [] [] []).1
 |n+1=>by rw[adN];exact rk (wX n) (kk (Q2 n)<|kk nJ<|kk Uz zz) (XX n)
def aiT:r6 aF M8 499 abb:=Q2 1000
def Y1:=rk sw (kk gh<|kk Hs<|kk aiT<|kk OI<|kk adX zz)
def WB:=rk MA (kk Y1<|kk lZ zz)
def abV:=rk It (kk bK zz)
def WD:=rk Cb (kk jJ zz)
def Qv:=rk wT (kk WD<|kk abV<|kk yL zz)
def Ut:=rk zX (kk Qv<|kk qc zz)
def WK:=rk wy (kk gh<|kk MN zz)
def WL:=rk wz zz
def OG:=rk oo (kk jJ zz)
def zB(n:Nat):aaQ aF M8 554 (iP n).dec.1=ar:=by kernel_rfl
def xn:∀n,r6 aF M8 554 (Bw n)
 |0=>r6.none (ain hm (D:=[]) DOk.nil (zB 0) [] [] [] []).1
 |n+1=>by rw[JM];exact rk (iP n) (kk OG<|kk (xn n)<|kk nJ zz) (zB n)
def M6:r6 aF M8 554 By:=xn 1000
def Sf:=rk rK (kk bK<|kk Ht<|kk M6<|kk WL<|kk WK zz)
def Up:=rk Ju (kk Sf<|kk lZ zz)
def J7:=rk wE zz
def J6:=rk wB zz
def abO:=rk AQ (kk J6<|kk J7<|kk OK zz)
def ak5:=rk V8 zz
def UH:=rk Hb (kk ak5 zz)
def WC:=rk B9 (kk UH<|kk bK<|kk jw zz)
def Us:=rk Jx (kk abO<|kk WC<|kk BG zz)
def UG:=rk oN (kk bK<|kk J6<|kk E7<|kk J7 zz)
def Ux:=rk JA (kk UG<|kk lZ zz)
section
open Go.Ab Go.Proofs
def Kg(w:World)(n a b:Int):Calls aF 95 #[.int .i64 n,.int .i64 a,.int .i64 b] w λe w'=>e=.returned (.bool (ah (a<=n)&&ah (n<=b)))/\w'=w:=by
 by_cases h:a<=n
 ·by_cases h2:n<=b;·rw[bL h,bL h2];go_enter al7,aj7;go_wp2_with (fail);go_ret;exact⟨rfl,rfl⟩
  ·rw[bL h,CJ h2];go_enter al7,aj7;go_wp2_with (fail);go_ret;exact⟨rfl,rfl⟩
 ·rw[CJ h];go_enter al7,aj7;go_wp2_with (fail);go_ret;exact⟨rfl,rfl⟩
def atk(w:World)(b:Nat)(row:List Int)(hb:PX 2 b row w)(hl:row.length=40)(a n:Nat)(ha:a<=39)(hn:n<=40): Calls aF 342 #[.slice (ae ⟨b,0,ai⟩) 40 40,.int .i64 a,.int .i64 n] w λe w'=>e=.returned (.bool (ae9 row a n))/\w'=w:=by
 by_cases h:(a:Int)+n<=40
 ·have hsub:((a:Int)+n)-a=n:=by omega
  have han:((a:Int)+n).toNat=a+n:=by omega
  have h':¬(40<(a:Int)+n):=by omega
  go_enter awC,au8;go_wp2_with (fail);go_loopw [8,20] (λ_ jv wr=>∃j:Nat,jv=.int .i64 j/\j<=n/\(∀m,m<j->row[a+m]? =ae 0)/\wr=w) (λ_ jv _=>((n:Int)-intOf jv).toNat);case atStart=>exact⟨0,rfl,iW _,λm hm=>absurd hm (adG _),rfl⟩
  case round=>
   obtain⟨j,rfl,hj,hz,rfl⟩:=hrel
   have hn9:(n:Int)<=40:=by omega
   rcases bH j n with hlt|hge
   ·have hlt':(j:Int)<n:=by omega
    have hx:=ay (show a+j<row.length by omega)
    generalize row[a+j]'(by omega)=x at hx
    have hcell:=hb.cell hx
    by_cases hx0:x=0
    ·subst hx0
     go_wp2_with (fail)
     exact⟨⟨j+1,rfl,by omega,λm hm=>by
      rcases bH m j with h|h
      ·exact hz m h
      ·obtain rfl:m=j:=by omega
       exact hx,trivial⟩,by simp only[intOf];omega⟩
    ·have hf:ae9 row a n=aw:=CJ λq=>hx0 (by
      have:=q.2 j (by simpa using hlt)
      rw[aE,hx]at this
      exact cq this)
     go_wp2_with (fail)
     go_ret
     exact⟨by rw[hf];rfl,rfl⟩
   ·obtain rfl:j=n:=by omega
    have hge':¬((j:Nat):Int)<(j:Int):=by omega
    have hf:ae9 row a j=ar:=bL ⟨h,λm hm=>by rw[aE]at hm⊢;exact hz m hm⟩
    go_wp2_with (fail)
    go_ret
    exact⟨rfl,rfl⟩
 ·have hf:ae9 row a n=aw:=CJ λq=>h q.1;rw[hf];go_enter awC,au8;go_wp2_with (fail);go_ret;exact⟨rfl,rfl⟩
def amR(w:World)(b:Nat)(row:List Int)(hb:PX 2 b row w)(hl:row.length=40)(a n:Nat)(ha:a+n<=40)(v:Int): Calls aF 343 #[.slice (ae ⟨b,0,ai⟩) 40 40,.int .i64 a,.int .i64 n,.int .i64 v] w λe w'=>e=.returned (.tuple #[])/\PX 2 b (xQ row a n v) w'/\Rg (λc=>c=b) w w':=by
 go_enter Tryz.func343,Tryz.ntmps343;go_wp2_with (fail);go_loopw [8] (λiv wr=>∃t:Nat,iv=.int .i64 (a+t:Nat)/\t<=n/\PX 2 b (xQ row a t v) wr/\Rg (λc=>c=b) w wr) (λiv _=>(((a+n:Nat):Int)-intOf iv).toNat);case atStart=>exact⟨0,rfl,by omega,by rw[akG];exact hb,Rg.refl _ _⟩
 case round=>
  obtain⟨t,rfl,ht,B,R⟩:=hrel
  have ha9:((a+n:Nat):Int)<=40:=by omega
  rcases bH t n with hlt|hge
  ·have hlt':((a+t:Nat):Int)<(a:Int)+n:=by omega
   have hat:a+t<40:=by omega
   have hlen:(xQ row a t v).length=40:=by rw[Pz (by omega)];exact hl
   have hcell:=B.cell (k:=a+t) (ay (by omega))
   have hfz:=B.frozen (a+t)
   have B2:=B.set (a+t) v
   rw[akF (by omega)]at B2
   go_wp2_with (fail)
   exact⟨⟨t+1,by congr 1,by omega,B2,R.setCell rfl⟩,by simp only[intOf];omega⟩
  ·obtain rfl:t=n:=by omega
   have hge':¬((a+t:Nat):Int)<(a:Int)+t:=by omega
   go_wp2_with (fail)
   refine bodyPost_end (results_none rfl _ _ _) rfl ⟨rfl,B,R⟩
end
section
open Go.Ab Go.Proofs
section
variable {S n cv Bp pb:Nat} {rb:Nat->Nat} {list:List km.ty} {w0:World} {av:Option Addr} {cp:Nat}
set_option maxHeartbeats 6400000 in
def aoh(hD:PwD n Bp pb rb)(hX:S<=Bp/\S<=pb/\∀j,j<n->S<=rb j)(hn:n<=6)(hll:list.length<=1000)(hsm:list.all Xa=ar) (hls:∀(i:Nat) (x:km.ty),list[i]? =ae x->∃b o cap,Value.slice av list.length cp=.slice (ae ⟨b,o,ai⟩) list.length cap/\b<S/\ w0.cell? ⟨b,o+i*4,ai⟩=ae (.string ⟨x.1.toArray⟩)/\w0.cell? ⟨b,o+i*4+1,ai⟩=ae (.int .i64 (wkD x))/\w0.cell? ⟨b,o+i*4+2,ai⟩=ae (.int .i64 (wkF x))/\w0.cell? ⟨b,o+i*4+3,ai⟩=ae (.int .i64 (wkL x))): ∀(xs:List km.ty) (k:Nat) (kI:Int),kI=k->k<=list.length->list.drop k=xs->∀(w:World) (rows:List (List Int)) (left:Int) (r:PwR),O5 xs kI rows left=r->Lo S w0 w->S<=w.heap.size->0<=left->left<=20000-> PW 327 51 2 Bp pb rb n cv (.slice av list.length cp) rows left w-> Calls aF 315 #[.pointer (ae ⟨Bp,0,ai⟩),.int .i64 kI] w λe w'=>e=.returned (.tuple #[.bool r.1,.bool r.2.1])/\PW 327 51 2 Bp pb rb n cv (.slice av list.length cp) r.2.2.1 r.2.2.2 w'/\Rg (λc=>c=Bp\/∃j,j<n/\c=rb j) w w'/\0<=r.2.2.2/\r.2.2.2<=20000:=by
 intro xs
 induction xs with
 |nil=>
  intro k kI hk hkl hdr w rows left r hr L0 hS0 hl0 hl1 N;subst hk;have hke:k=list.length:=by have:=congrArg cP hdr;simp at this;omega
  have hk9:(k:Int)<=1000:=by omega
  have hke':(k:Int)=(list.length:Int):=by omega
  rw[O5]at hr;subst hr;have b0:=N.c0;have b1:=N.c1;have b2:=N.c2;go_enter awx,au7;go_wp2_with (fail);go_ret2;exact⟨rfl,N,Rg.refl _ _,hl0,hl1⟩
 |cons x xs ih=>
  intro k kI hk hkl hdr w rows left r hr L0 hS0 hl0 hl1 N;subst hk;have hlt:k<list.length:=by have:=congrArg cP hdr;simp at this;omega
  rw[bf hlt]at hdr;injection hdr with hx hdr;have hxk:list[k]? =ae x:=by rw[ay hlt,hx]
  have hs:=aG.1 hsm x (bw hxk);obtain⟨lb,lo,lcap,e1,hlb,c0,c1,c2,c3⟩:=hls k x hxk;injection e1 with e1 _ e2;subst e1 e2;rw[aoB]at hr;simp only[Xa,aj,ax]at hs;obtain⟨⟨⟨⟨⟨s1,s2⟩,s3⟩,s4⟩,s5⟩,s6⟩:=hs;obtain⟨dn,hdn⟩:∃m:Nat,wkD x=(m:Int):=⟨(wkD x).toNat,by omega⟩;obtain⟨fn,hfn⟩:∃m:Nat,wkF x=(m:Int):=⟨(wkF x).toNat,by omega⟩;obtain⟨ln,hln⟩:∃m:Nat,wkL x=(m:Int):=⟨(wkL x).toNat,by omega⟩;rw[hdn]at c1 s1 s2 hr;rw[hfn]at c2 s3 s4 hr;rw[hln]at c3 s5 s6 hr;generalize (⟨x.1.toArray⟩:ByteArray)=xid at c0;clear hx hxk hdn hfn hln hls;rw[N.len]at hr;have b0:=N.c0;have b1:=N.c1;have b2:=N.c2;have hk9:(k:Int)<1000:=by omega
  have hke:¬(k:Int)=(list.length:Int):=by omega
  have hup:∀o,w.cell? ⟨lb,o,ai⟩=w0.cell? ⟨lb,o,ai⟩:=λo=>by simp only[df,L0.block lb hlb]
  rw[<-hup]at c0 c1 c2 c3;have N1:=N.alloc (.cells #[.string xid,.int .i64 dn,.int .i64 fn,.int .i64 ln] 81);have d1:=N1.c1;have hz1:(w.alloc (.cells #[.string xid,.int .i64 dn,.int .i64 fn,.int .i64 ln] 81)).heap.size=w.heap.size+1:=by simp
  have hbx:(w.alloc (.cells #[.string xid,.int .i64 dn,.int .i64 fn,.int .i64 ln] 81)).heap[w.heap.size]? =ae (.cells #[.string xid,.int .i64 dn,.int .i64 fn,.int .i64 ln] 81):=TH _ _ rfl;have R1:Rg (λc=>c=Bp\/∃j,j<n/\c=rb j) w (w.alloc (.cells #[.string xid,.int .i64 dn,.int .i64 fn,.int .i64 ln] 81)):=Rg.axo ((Lo.refl _ _).alloc (bm _) _);have hnX:¬(w.heap.size=Bp\/∃j,j<n/\w.heap.size=rb j):=by obtain⟨q1,_,q3⟩:=N.lts;rintro(q|⟨j,hj,q⟩);(·omega);·have:=q3 j hj;omega
  have hXS:∀c,(c=Bp\/∃j,j<n/\c=rb j)->S<=c:=by rintro c (rfl|⟨j,hj,rfl⟩);(·exact hX.1);·exact hX.2.2 j hj
  go_enter awx,au7;go_wp2_with (fail);generalize hW1:w.alloc (.cells #[.string xid,.int .i64 dn,.int .i64 fn,.int .i64 ln] 81)=w1 at*;clear hW1 c0 c1 c2 c3 hup;go_loopw [4,5,8,9,29] (λ_ _ _ _ iv wr=>∃(i:Nat) (rows:List (List Int)) (left:Int),iv=.int .i64 i/\i<=n/\aqp (ajm (O5 xs (k+1)) fn dn ln k (n-i) i rows left)=r/\PW 327 51 2 Bp pb rb n cv (.slice (ae ⟨lb,lo,ai⟩) list.length cp) rows left wr/\Rg (λc=>c=Bp\/∃j,j<n/\c=rb j) w1 wr/\0<=left/\left<=20000) (λ_ _ _ _ iv _=>((n:Int)-intOf iv).toNat);case atStart=>exact⟨0,rows,left,rfl,iW _,hr,N1,Rg.refl _ _,hl0,hl1⟩
  case round=>
   clear hr N N1 d1 b0 b1 b2 hl0 hl1
   obtain⟨i,rows,left,rfl,hi,hr,N,R,hl0,hl1⟩:=hrel
   have boxat:∀{u:World},Rg (λc=>c=Bp\/∃j,j<n/\c=rb j) w1 u->u.heap[w.heap.size]? =ae (.cells #[.string xid,.int .i64 dn,.int .i64 fn,.int .i64 ln] 81):=λh=>(h.block _ (by omega) hnX).trans hbx
   rcases bH i n with hlt2|hge
   ·have hlt':(i:Int)<n:=by omega
    obtain⟨m,hm⟩:∃m,n-i=m+1:=⟨n-i-1,by omega⟩
    rw[hm,aoo]at hr
    have hcell:=N.cell hlt2
    have hb0:=boxat R
    have g2:wr.cell? ⟨w.heap.size,2,ai⟩=ae (.int .i64 fn):=by simp[df,hb0]
    have hn9:(n:Int)<=6:=by omega
    go_wp2_with (fail)
    go_loopw [4,5,9] (λ_ _ dv wr=>∃(d f:Nat) (rows:List (List Int)) (left:Int),dv=.int .i64 d/\d<=40/\ln+1<=d+f/\aqp (auu (O5 xs (k+1)) fn dn ln k m i (agp (O5 xs (k+1)) i dn ln k f d rows left))=r/\PW 327 51 2 Bp pb rb n cv (.slice (ae ⟨lb,lo,ai⟩) list.length cp) rows left wr/\Rg (λc=>c=Bp\/∃j,j<n/\c=rb j) w1 wr/\0<=left/\left<=20000)
     (λ_ _ dv _=>((ln:Int)+1-intOf dv).toNat)
    case atStart=>exact⟨fn,((ln:Int)+1-fn).toNat,rows,left,rfl,by omega,by omega,hr,N,R,hl0,hl1⟩
    case round=>
     clear hr N R hl0 hl1 hcell hb0 g2
     obtain⟨d,f,rows,left,rfl,hd,hf,hr,N,R,hl0,hl1⟩:=hrel
     have hb0:=boxat R
     have g1:wr.cell? ⟨w.heap.size,1,ai⟩=ae (.int .i64 dn):=by simp[df,hb0]
     have g3:wr.cell? ⟨w.heap.size,3,ai⟩=ae (.int .i64 ln):=by simp[df,hb0]
     have hd9:(d:Int)<=40:=by omega
     by_cases hday:(d:Int)+dn-1<=ln
     ·obtain⟨f,rfl⟩:∃f',f=f'+1:=⟨f-1,by omega⟩
      rw[agp,aJ hday]at hr
      obtain⟨hRB,hRl⟩:=N.row i hlt2
      have hfree:=atk wr (rb i) (Go.Ab.rowAt rows i) hRB hRl d dn (by omega) (by omega)
      cases hfb:ae9 (Go.Ab.rowAt rows i) d dn with
      |false=>
       rw[hfb]at hfree hr
       simp only[ao,aH]at hr
       clear hfb
       go_wp2_with (fail)
       go_at_call 342
       refine hfree.mono ?_
       rintro e w' ⟨rfl,rfl⟩
       go_wp2_with (fail)
       exact⟨⟨d+1,f,rows,left,by congr 1,by omega,by omega,hr,N,R,hl0,hl1⟩,by simp only[intOf];omega⟩
      |true=>
       rw[hfb]at hfree
       rw[aJ hfb]at hr
       clear hfb
       have b2:=N.c2
       by_cases hl:left=0
       ·rw[aJ hl]at hr
        subst hl
        go_wp2_with (fail)
        go_at_call 342
        refine hfree.mono ?_
        rintro e w' ⟨rfl,rfl⟩
        go_wp2_with (fail)
        go_ret2
        subst hr
        exact⟨rfl,N,R1.trans R,by show(0:Int)<=0;omega,by show(0:Int)<=20000;omega⟩
       ·rw[aO hl]at hr
        simp only[aE]at hr
        have hfz:=N.fz 2
        have N2:=N.mW hD (left-1)
        have hfill:=amR _ (rb i) (Go.Ab.rowAt rows i) (N2.row i hlt2).1 hRl d dn (by omega) (k+1)
        generalize hr0:O5 xs ((k:Int)+1) (rows.set i (xQ (Go.Ab.rowAt rows i) d dn ((k:Int)+1))) (left-1)=r0 at hr
        obtain⟨f0,o0,rows4,left4⟩:=r0
        have R2:Rg (λc=>c=Bp\/∃j,j<n/\c=rb j) w1 (wr.setCell ⟨Bp,2,ai⟩ (.int .i64 (left-1))):=R.setCell (.inl rfl)
        have hb2:=boxat R2
        have q1:(wr.setCell ⟨Bp,2,ai⟩ (.int .i64 (left-1))).cell? ⟨w.heap.size,1,ai⟩=ae (.int .i64 dn):=by simp[df,hb2]
        go_wp2_with (fail)
        go_at_call 342
        refine hfree.mono ?_
        rintro e w' ⟨rfl,rfl⟩
        go_wp2_with (fail)
        refine hfill.mono ?_
        rintro e w3 ⟨rfl,B3,R3⟩
        have N3:=N2.axC hD hlt2 B3 (by rw[Pz (by omega)];exact hRl) R3
        replace R3:Rg (λc=>c=Bp\/∃j,j<n/\c=rb j) w1 w3:=R2.trans (R3.mono λc hc=>.inr ⟨i,hlt2,hc⟩)
        clear R2 hb2 q1 N2 B3 hfree hfill hRB hb0 g1 g3 b2 hfz
        have L3:Lo S w0 w3:=L0.rg (R1.trans R3) hXS hS0
        have call:=ih (k+1) ((k:Int)+1) (by omega) (by omega) hdr w3 _ _ _ hr0 L3 (by have:=R1.size;have:=R3.size;omega) (by omega) (by omega) N3
        clear N N3
        cases f0 with
        |true=>
         go_wp2_with (fail)
         go_at_call 315
         refine call.mono ?_
         rintro e w4 ⟨rfl,N4,R4,hl4,hl5⟩
         replace R4:=R3.trans R4
         go_wp2_with (fail)
         go_ret2
         subst hr
         exact⟨rfl,N4,R1.trans R4,hl4,hl5⟩
        |false=>
         cases o0 with
         |false=>
          go_wp2_with (fail)
          go_at_call 315
          refine call.mono ?_
          rintro e w4 ⟨rfl,N4,R4,hl4,hl5⟩
          replace R4:=R3.trans R4
          go_wp2_with (fail)
          go_ret2
          subst hr
          exact⟨rfl,N4,R1.trans R4,hl4,hl5⟩
         |true=>
          simp only[ao,Bool.true_eq_false,or_self,aH]at hr
          go_wp2_with (fail)
          go_at_call 315
          refine call.mono ?_
          rintro e w4 ⟨rfl,N4,R4,hl4,hl5⟩
          replace R4:=R3.trans R4
          have N4:PW 327 51 2 Bp pb rb n cv (.slice (ae ⟨lb,lo,ai⟩) list.length cp) rows4 left4 w4:=N4
          obtain⟨B4,Bl4⟩:=N4.row i hlt2
          have hfill2:=amR _ (rb i) (Go.Ab.rowAt rows4 i) B4 Bl4 d dn (by omega) 0
          have hb4:=boxat R4
          have q4:w4.cell? ⟨w.heap.size,1,ai⟩=ae (.int .i64 dn):=by simp[df,hb4]
          go_wp2_with (fail)
          go_at_call 343
          refine hfill2.mono ?_
          rintro e w5 ⟨rfl,B5,R5⟩
          have N5:=N4.axC hD hlt2 B5 (by rw[Pz (by omega)];exact Bl4) R5
          replace R5:Rg (λc=>c=Bp\/∃j,j<n/\c=rb j) w1 w5:=R4.trans (R5.mono λc hc=>.inr ⟨i,hlt2,hc⟩)
          go_wp2_with (fail)
          exact⟨⟨d+1,f,_,left4,by congr 1,by omega,by omega,hr,N5,R5,hl4,hl5⟩,by simp only[intOf];omega⟩
     ·have hdl:agp (O5 xs (k+1)) i dn ln k f d rows left=.inr (rows,left):=by
       cases f with
       |zero=>rfl
       |succ f=>rw[agp,aO hday]
      rw[hdl]at hr
      clear hdl
      go_wp2_with (fail)
      exact⟨⟨i+1,rows,left,by congr 1,by omega,by rw[show n-(i+1)=m from by omega];exact hr,N,R,hl0,hl1⟩,by simp only[intOf];omega⟩
   ·obtain rfl:i=n:=by omega
    rw[ahT]at hr
    have hge':¬((i:Nat):Int)<(i:Int):=by omega
    go_wp2_with (fail)
    go_ret2
    subst hr
    exact⟨rfl,N,R1.trans R,hl0,hl1⟩
end
end
section
open Go.Ab Go.Proofs
def arj{P:Program}{ops:Array Oper}{o:Oper}{a:Act}{K:Act->World->Prop}{Q:Exit->Act->World->Prop}{E:Prop}{w w':World}{u v r:Value}{t ty:TypeId}(hr:(fU #[t,t] ty #[u,v]).run P w=.ok r w')(hgd:o.guard=ai)(x y:Operand)(hty:o.type=ty) (ho:o.op=.call {callee:=.builtin .append,args:= #[x,y],argTypes:= #[t,t]}) (hx:a.eval x=u) (hy:a.eval y=v) (h:K (a.put o.dst r) w'):if S4 o (yielded ops a.tmps)=ar then zq P o a w K Q else E:=by
 have hw:S4 o (yielded ops a.tmps)=ar:=by simp[S4,hgd]
 rw[aJ hw];subst hty;unfold zq;simp only[execOp,ho,resolve,invoke,builtin,dp,jb,bP,List.map_toArray,aP,lT,hx,hy,hr];exact h
def atl:(aF.info? 51).map (λi=>(i.zero,i.size,i.bytes))=ae (ae (.slice ai 0 0),1,24):=by kernel_rfl
def aq1:(aF.info? 2).map (λi=>(i.zero,i.size,i.bytes))=ae (ae (.int .i64 0),1,8):=by kernel_rfl
def atm(u:World):(Instr.makeSlice 51 (.int .i64 40) (.int .i64 40)).run aF u=.ok (.slice (ae ⟨u.heap.size,0,ai⟩) 40 40) (u.alloc (.cells ((aZ 40 (0:Int)).map (jC .i64)).toArray 2)):=by
 obtain⟨i,hi,he⟩:=au.1 aq1;simp only[be]at he;have h:=run_make (P:=aF) u 51 2 i _ Tryz.underlying51 hi he.1 .i64 .i64 40 40 (by omega) (dH _) (by rw[he.2.2];omega) (by omega);have e:madeCells (jC .i64 0).cells ((40:Int).toNat*i.size)=((aZ 40 (0:Int)).map (jC .i64)).toArray:=by rw[he.2.1];kernel_rfl
 rw[e]at h;exact h
set_option maxHeartbeats 6400000 in
def atn:aeP aF 276 62:=⟨⟨_,Nj,by decide+kernel,rfl⟩,by
 intro φ gv vw hφ ov n xs c y hy w K v hr hK hG
 obtain⟨iR,hiR,heR⟩:=au.1 atl
 simp only[be]at heR
 obtain⟨zR,sR,bR⟩:=heR
 unfold acf at hy
 obtain⟨vb,hvb,hy1⟩:=ak.1 hy
 clear hy
 have hcall:=(ov _ _ hvb).bool (w:=w) (K:=K) (vs:=[v]) (.cons _ _ _ _ hr .nil) hK hG
 rw[hφ]at hcall
 obtain⟨⟨av,cp,rfl⟩,hls⟩:=at6 hr
 have hcall:Calls aF 62 #[.slice av xs.length cp] w λe w'=>e=.returned (.bool vb)/\Lo w.heap.size w w':=hcall
 cases vb with
 |false=>
  rw[aJ rfl]at hy1
  cases hy1
  go_enter Nj,Tl
  go_wp2_with (fail)
  go_at_call 62
  refine hcall.mono ?_
  rintro e w1 ⟨rfl,L1⟩
  go_wp2_with (fail)
  go_ret2
  exact⟨_,rfl,L1,.No ai 0 1⟩
 |true=>
  rw[aO (by decide)]at hy1
  by_cases hn:1<=n/\n<=6
  rotate_left
  ·rw[aJ (λh=>hn ⟨h.1,h.2.1⟩)]at hy1
   cases hy1
   have hb:(ah (1<=n)&&ah (n<=6))=aw:=by simp only[akf,cG];omega
   go_enter Nj,Tl
   go_wp2_with (fail)
   go_at_call 62
   refine hcall.mono ?_
   rintro e w1 ⟨rfl,L1⟩
   have hw:=Kg w1 n 1 6
   rw[hb]at hw
   go_wp2_with (fail)
   go_at_call 95
   refine hw.mono ?_
   rintro e w' ⟨rfl,rfl⟩
   go_wp2_with (fail)
   go_ret2
   exact⟨_,rfl,L1,.No ai 0 1⟩
  by_cases hc:1<=c/\c<=20000
  rotate_left
  ·rw[aJ (λh=>hc h.2.2)]at hy1
   cases hy1
   have hb:(ah (1<=n)&&ah (n<=6))=ar:=by simp only[aj,ax];omega
   have hb2:(ah (1<=c)&&ah (c<=20000))=aw:=by simp only[akf,cG];omega
   go_enter Nj,Tl
   go_wp2_with (fail)
   go_at_call 62
   refine hcall.mono ?_
   rintro e w1 ⟨rfl,L1⟩
   have hw:=Kg w1 n 1 6
   have hw2:=Kg w1 c 1 20000
   rw[hb]at hw
   rw[hb2]at hw2
   go_wp2_with (fail)
   go_at_call 95
   refine hw.mono ?_
   rintro e w' ⟨rfl,rfl⟩
   go_wp2_with (fail)
   go_at_call 95
   refine hw2.mono ?_
   rintro e w' ⟨rfl,rfl⟩
   go_wp2_with (fail)
   go_ret2
   exact⟨_,rfl,L1,.No ai 0 1⟩
  rw[aO (λh=>h ⟨hn.1,hn.2,hc⟩)]at hy1
  split at hy1
  rotate_left
  ·cases hy1
  rename_i hsm
  obtain⟨hlen,hsm⟩:=hsm
  obtain⟨m,rfl⟩:∃m:Nat,n=m:=⟨n.toNat,by omega⟩
  rw[aE]at hy1
  have hm1:1<=m:=by omega
  have hm6:m<=6:=by omega
  have hm9:(m:Int)<=6:=by omega
  have hb:(ah (1<=(m:Int))&&ah ((m:Int)<=6))=ar:=by simp only[aj,ax];omega
  have hb2:(ah (1<=c)&&ah (c<=20000))=ar:=by simp only[aj,ax];omega
  obtain⟨hc1,hc2⟩:=hc
  clear hn
  go_enter Nj,Tl
  go_wp2_with (fail)
  go_at_call 62
  refine hcall.mono ?_
  rintro e w1 ⟨rfl,L1⟩
  have hw:=Kg w1 m 1 6
  have hw2:=Kg w1 c 1 20000
  rw[hb]at hw
  rw[hb2]at hw2
  go_wp2_with (fail)
  go_at_call 95
  refine hw.mono ?_
  rintro e w' ⟨rfl,rfl⟩
  go_wp2_with (fail)
  go_at_call 95
  refine hw2.mono ?_
  rintro e w' ⟨rfl,rfl⟩
  have hS1:=L1.size
  have hz1:(w'.alloc (.cells #[.slice av xs.length cp,.slice ai 0 0,.int .i64 c] 327)).heap.size=w'.heap.size+1:=by simp
  have L2:Lo w.heap.size w (w'.alloc (.cells #[.slice av xs.length cp,.slice ai 0 0,.int .i64 c] 327)):=L1.alloc hS1 _
  have N0:PwB 327 51 2 w.heap.size w'.heap.size (.slice av xs.length cp) 0 (.slice ai 0 0) c (w'.alloc (.cells #[.slice av xs.length cp,.slice ai 0 0,.int .i64 c] 327)):=
   ⟨TH _ _ rfl,[],ai,λ_=>0,.empty ai,rfl,λi hi=>absurd hi (adG _),λi k hi=>absurd hi (adG _),λb hb=>by cases hb⟩
  clear hcall hw hw2 hb hb2 hvb ov
  go_wp2_with (fail)
  generalize w'.heap.size=Bp at*
  go_loopw [27] (λiv wr=>∃(j:Nat) (pv:Value),iv=.int .i64 j/\j<=m/\PwB 327 51 2 w.heap.size Bp (.slice av xs.length cp) j pv c wr/\Lo w.heap.size w wr)
   (λiv _=>((m:Int)-intOf iv).toNat)
  case atStart=>exact⟨0,_,rfl,iW _,N0,L2⟩
  case round=>
   clear N0 L2
   obtain⟨j,pv,rfl,hj,N,L⟩:=hrel
   rcases bH j m with hlt|hge
   ·have hlt':(j:Int)<m:=by omega
    have N1:=N.fk hS1 (w':=wr.drew) λ_ _=>rfl
    obtain⟨ad,n',cp',w7,hrun,hB7,N7,L7⟩:=N1.step (i:=iR) (t:=29) (P:=aF) (show w.heap.size<=wr.drew.heap.size from L.size) (by omega) Tryz.underlying29 hiR sR zR rfl (by rw[bR];omega) 1 29
    have b1:wr.cell? ⟨Bp,1,ai⟩=ae pv:=by simp[df,N.box]
    have hm:=atm
    have hB9:=hB7.trans N1.box
    have b7:w7.cell? ⟨Bp,1,ai⟩=ae pv:=by simp[df,hB9]
    have z7:w7.frozen? ⟨Bp,1,ai⟩=aw:=by simp[xF,hB9]
    generalize ((aZ 40 (0:Int)).map (jC .i64)).toArray=zs at hm hrun
    have hzA:(wr.alloc (.cells zs 2)).heap.size=wr.heap.size+1:=by simp
    have bA:(wr.alloc (.cells zs 2)).cell? ⟨Bp,1,ai⟩=ae pv:=by rw[<-b1];simp only[df,wi wr (.cells zs 2) (DR N.box)]
    have bC:((wr.alloc (.cells zs 2)).alloc (.cells #[.slice (ae ⟨wr.heap.size,0,ai⟩) 40 40] 51)).cell? ⟨Bp,1,ai⟩=ae pv:=by rw[<-bA];simp only[df,wi (wr.alloc (.cells zs 2)) (.cells #[.slice (ae ⟨wr.heap.size,0,ai⟩) 40 40] 51) (show Bp<(wr.alloc (.cells zs 2)).heap.size by rw[hzA];have:=DR N.box;omega)]
    clear hB7 hB9 N1
    go_wp2_with (fail)
    go_region_law (first|(refine arj hrun rfl _ _ rfl rfl rfl rfl ?_)|fail)
    all_goals go_wp2_with (fail)
    all_goals exact⟨⟨j+1,_,rfl,by omega,N7,(Lo.drew L).trans (L7.trans ((Lo.refl _ _).setCell hS1))⟩,by simp only[intOf];omega⟩
   ·obtain rfl:j=m:=by omega
    have hge':¬((j:Nat):Int)<(j:Int):=by omega
    obtain⟨pb,cv,rb,rfl,hcv,hD,N2,hSp,hSr⟩:=N.done (by omega)
    have call:=aoh (S:=w.heap.size) (w0:=w) hD ⟨hS1,hSp,hSr⟩ hm6 hlen hsm (λi x hx=>by
     obtain⟨b,o,cap,e1,e2,e3⟩:=hls i x hx
     exact⟨b,o,cap,e1,hK b e2,e3⟩) xs 0 0 rfl (iW _) rfl wr _ c _ rfl L L.size (by omega) hc2 N2
    have hXS:∀c,(c=Bp\/∃i,i<j/\c=rb i)->w.heap.size<=c:=by rintro c (rfl|⟨i,hi,rfl⟩);(·exact hS1);·exact hSr i hi
    generalize O5 xs 0 (aZ j (aZ 40 0)) c=r at hy1 call
    obtain⟨f0,o0,rows4,left4⟩:=r
    clear N N2 hls hr
    go_wp2_with (fail)
    go_at_call 315
    refine call.mono ?_
    rintro e w4 ⟨rfl,N4,R4,_,_⟩
    have N4:PW 327 51 2 Bp pb rb j cv (.slice av xs.length cp) rows4 left4 w4:=N4
    have L4:Lo w.heap.size w w4:=L.rg R4 hXS L.size
    have b4:=N4.c1
    clear call
    cases o0 with
    |false=>
     rw[aJ rfl]at hy1
     cases hy1
     go_wp2_with (fail)
     go_ret2
     exact⟨_,rfl,L4,.No ai 0 1⟩
    |true=>
     rw[aO (by simp)]at hy1
     cases f0 with
     |false=>
      rw[aJ rfl]at hy1
      cases hy1
      go_wp2_with (fail)
      go_ret2
      exact⟨_,rfl,L4,.No ai 0 1⟩
     |true=>
      rw[aO (by simp)]at hy1
      cases hy1
      obtain⟨l1,l2,l3⟩:=N4.lts
      go_wp2_with (fail)
      go_ret2
      exact⟨_,rfl,L4,N4.data hcv ⟨⟨hSp,l2⟩,λi hi=>⟨hSr i hi,l3 i hi⟩⟩⟩⟩
end
def Sg:r6 aF M8 369 yb:=UW (g:=369) (gv:=715) atn (by kernel_rfl) (λl b h=>aku E8 h)
def M5:=rk nx (kk Sg zz)
def OE:=rk CL (kk M5<|kk qc zz)
def Q1:=rk De zz
def zQ:=rk nE (kk Q1 zz)
def lq:=rk dh (kk zQ zz)
def ke:=rk dM (kk zQ<|kk lq zz)
def QA:=rk pV (kk ke zz)
def M7:=rk nH zz
def xh(n:Nat):aaQ aF M8 802 (jk n).dec.1=ar:=by kernel_rfl
def uT:∀n,r6 aF M8 802 (yC n)
 |0=>r6.none (ain hm (D:=[]) DOk.nil (xh 0) [] [] [] []).1
 |n+1=>by rw[Gn];exact rk (jk n) (kk nJ<|kk (uT n)<|kk QA<|kk M7 zz) (xh n)
def Kb:r6 aF M8 802 yD:=uT 1000
def Qu:=rk wS (kk bK<|kk ll<|kk Kb zz)
def Se:=rk GG (kk Qu<|kk lZ zz)
def WJ:=rk qv (kk gh<|kk bK zz)
def HC:r6 aF M8 518 uM:=aoj Tryz.as7 Tryz.S8 (by kernel_rfl)
def IF:=rk kM zz
def OO:=rk lz (kk IF zz)
def abU:=rk AW (kk gh<|kk bK zz)
def re:=rk j7 (kk abU zz)
def kn:=rk cY (kk re zz)
def jK:=rk dG (kk re<|kk kn zz)
def Qz:=rk wU (kk gh<|kk re<|kk jK zz)
def abZ:=rk Iw (kk Qz zz)
def Si:=rk je (kk abZ<|kk HC<|kk Cl<|kk OO<|kk WJ zz)
def Qw:=rk pO (kk Si<|kk jw<|kk ll zz)
def Qs:=rk Ek (kk Qw zz)
def OD:=rk u7 (kk jw zz)
def Sc:=rk xW (kk Hr<|kk jw<|kk OD zz)
def Uv:=rk Jz (kk Sc zz)
section
open Go.Maps Go.Sort
def HZ{H:Type}{P:Program}(w:World){ops:Array Oper}{rest:List Oper}{o:Oper}{a:Act}{Q:Exit->Act->World->Prop} (hg:o.guard=ai) (m x v:Operand) (t:TypeId) (hop:o.op=Op.insert t m x v) (k e:TypeId) (K:Keyed P k) (ht:P.underlying t=ae (.map k e)) (R:Value->Option (DataW H×List MemPlace)) (b n:Nat) (D:DataW H) (hm:a.eval m=.map (ae b)) (hown:w.ownsMap P k R b n D) (hn:n<maxLen) (key val:Value) (kl:Lit) (hx:a.eval x=key) (hv:a.eval v=val) (hkey:keyOf P k key=ae kl) (d:DataW H) (ps:List MemPlace) (hval:R val=ae (d,ps)) (hK:∀w',w'.ownsMap P k R b (n+1) (D.put kl d)->w.grownBy w' (ae b)->wpList P ops Q rest (a.put o.dst undef) w'): wpList P ops Q (o::rest) a w:=by refine wpList_plain hg λK' hK'=> ?_;obtain⟨w',hrun,r1,r2⟩:=hown.update K ht hn hkey hval;unfold zq;simp[execOp,hop,hm,hx,hv,hrun,asa];exact hK' _ _ (hK w' r1 r2)
def ah1:Value->Option (DataW Unit×List MemPlace):=λ_=>ae (.nil,[])
def aiA:Keyed aF 9:=string_keyed dx
def axi:(aF.info? 9).map (λi=>(i.zero,i.size,i.bytes))=ae (ae (.string ⟨#[]⟩),1,16):=by kernel_rfl
def axl(s:List UInt8)(h:s.length<=100):keyOf aF 9 (.string ⟨s.toArray⟩)=ae (.string s):=by have h2:s.length<=maxLen:=dZ h (by decide);simp[keyOf,dx,mapKey];exact h2
def akr(w:World):Calls aF 74 #[] w λe w'=>∃(b n:Nat) (D:DataW Unit),e=.returned (.map (ae b))/\w'.ownsMap aF 9 ah1 b n D/\strKeys D=[[98,101,110,99,104,101,115],[99,108,101,97,110],[99,117,116],[100,114,121],[102,105,116],[103,108,117,101],[104,101,108,112],[109,97,115,115],[110,111,116,101],[111,112,101,110],[114,101,112,111,114,116],[115,104,105,109],[115,104,111,119],[116,104,105,110],[116,114,117,115,116],[119,111,108,102]]/\ahQ D=16/\Below w.heap.size w w'/\w.heap.size<=b:=by
 have hmm:= @run_makeMap aF;have hown:=Gc (H:=Unit) w aF 9 ah1;have hB:Below w.heap.size w (w.alloc (.map #[] 0)):=(BU _ _).alloc (bm _) _;go_enter Tryz.func74,awR
 go_wp2_with (first
  |(refine HZ _ rfl _ _ _ 144 rfl 9 142 aiA Gs _ w.heap.size _ _ rfl hown (by decide) _ _ _ rfl rfl (axl _ (by decide)) _ [] rfl ?_;clear hown;intro w1 hown hg1;replace hB:=hB.grown hg1 (hB.size) (λj hj=>by cases hj;exact bm _);clear hg1)
  |go_in)
 go_ret;exact⟨_,_,_,rfl,hown,by decide,by decide,hB,bm _⟩
def ars(w:World):Calls aF 73 #[] w λe w'=>∃(b n:Nat) (D:DataW Unit),e=.returned (.map (ae b))/\w'.ownsMap aF 9 ah1 b n D/\strKeys D=[[109,111,100,101],[110,101,99,107],[112,97,112,101,114],[112,101,103],[112,108,97,116,101],[112,111,116],[114,105,98],[115,116,97,99,107],[119,111,114,107]]/\ahQ D=9/\Below w.heap.size w w'/\w.heap.size<=b:=by
 have hmm:= @run_makeMap aF;have hown:=Gc (H:=Unit) w aF 9 ah1;have hB:Below w.heap.size w (w.alloc (.map #[] 0)):=(BU _ _).alloc (bm _) _;go_enter Tryz.func73,awQ
 go_wp2_with (first
  |(refine HZ _ rfl _ _ _ 137 rfl 9 135 aiA Gr _ w.heap.size _ _ rfl hown (by decide) _ _ _ rfl rfl (axl _ (by decide)) _ [] rfl ?_;clear hown;intro w1 hown hg1;replace hB:=hB.grown hg1 (hB.size) (λj hj=>by cases hj;exact bm _);clear hg1)
  |go_in)
 go_ret;exact⟨_,_,_,rfl,hown,by decide,by decide,hB,bm _⟩
end
section
open Go.Maps Go.Sort Go.Proofs
def acw{H:Type}{P:Program}{k:TypeId}{R:Value->Option (DataW H×List MemPlace)}{w:World}{b n:Nat}{D:DataW H}{base:Nat}{e:TypeId}{size:Nat}{v:Value}{m:Nat}{xs:List Value} (hr:w.ownsRow base e size v m xs) (ho:w.ownsMap P k R b n D):ae b≠v.ownBlock:=by
 intro h;rcases hr.2 with ⟨rfl,_⟩|⟨g,cap,cur,rfl,_,hb,_⟩
 ·simp[PU]at h
 ·simp[PU]at h;subst h;obtain⟨es,clock,hm,_⟩:=ho;rw[hb]at hm;cases hm
def akz{l:List (List UInt8)}(hp:l.Perm ([[98,101,110,99,104,101,115],[99,108,101,97,110],[99,117,116],[100,114,121],[102,105,116],[103,108,117,101],[104,101,108,112],[109,97,115,115],[110,111,116,101],[111,112,101,110],[114,101,112,111,114,116],[115,104,105,109],[115,104,111,119],[116,104,105,110],[116,114,117,115,116],[119,111,108,102]]++ [[109,111,100,101],[110,101,99,107],[112,97,112,101,114],[112,101,103],[112,108,97,116,101],[112,111,116],[114,105,98],[115,116,97,99,107],[119,111,114,107]])):(l.mergeSort λx y=>ah (x<=y))=Go.Ab.xO:=by have h1:l.Perm Go.Ab.xO:=hp.trans (by decide+kernel);refine(mergeSort_of_perm h1).trans (List.mergeSort_of_pairwise ?_);decide+kernel
set_option maxHeartbeats 3200000 in
def akX(hsort:∀(b cap:Nat) (ss:List (List UInt8)) (w:World),Holds encStr w b 0 ss.toArray->b<w.heap.size->ss.length<4611686018427387904-> Calls aF 282 #[.slice (ae ⟨b,0,ai⟩) ss.length cap] w λe w'=>e=.returned (.tuple #[])/\∃n os,w'=grow (putRow encStr (Sort.ahead w n) b 0 (ss.mergeSort λx y=>ah (x<=y)).toArray) os) (w:World): Calls aF 211 #[] w λx w'=>∃b cap,x=.returned (.slice (ae ⟨b,0,ai⟩) Go.Ab.xO.length cap)/\w'.ownsRow w.heap.size 9 1 (.slice (ae ⟨b,0,ai⟩) Go.Ab.xO.length cap) Go.Ab.xO.length (Go.Ab.xO.map encStr)/\Below w.heap.size w w':=by
 obtain⟨i0,hi,hz0,hz1,hz2⟩:=info_parts axi;go_enter awm,Tryz.ntmps211
 go_wp2_with (first
  |(go_at_call 74;refine(akr _).mono ?_;rintro e w1 ⟨b1,n1,D1,rfl,hown1,hk1,hs1,hB1,hb1⟩)
  |(at_range;refine wpList_range_own _ rfl _ 144 rfl 9 142 aiA Gs _ b1 n1 _ rfl hown1 ?_;intro w0 hrg0 hg0 hs0)
  |go_in)
 have hbl1:=hown1.lt;have hz:w.heap.size+1<=w1.heap.size:=by have:=hB1.size;simp at this;omega
 have hc1:w1.heap[w.heap.size]? =ae (.cells #[] 9):=(hB1.block w.heap.size (by simp)).trans (by simp only[Rm,xy]);have hr0:w1.ownsRow w.heap.size 9 1 (.slice (ae ⟨w.heap.size,0,ai⟩) 0 0) 0 []:=⟨rfl,.inr ⟨w.heap.size,0,#[],rfl,bm _,hc1,bm _,iW _,rfl,rfl⟩⟩;have hBa:Below w.heap.size w w1:=((BU _ _).alloc (bm _) _).trans (hB1.mono (by simp));go_frame;go_loopw [1] (λv wr=>∃(left:Lit->Bool) (cnt:Nat) (ss:List (List UInt8)),wr.ranges aF 9 ah1 b1 w1.heap.size n1 D1 left cnt/\ss.length+cnt<=ahQ D1/\ wr.ownsRow w.heap.size 9 1 v ss.length (ss.map encStr)/\v≠ .slice ai 0 0/\Collected D1 left ss/\Below w.heap.size w wr) (λ_ wr=>wr.rangeLeft b1 w1.heap.size);case atStart=> exact⟨_,_,[],hrg0,by simp,hr0.kept hg0 (Or.inr (by simp[PU])),by simp,al6 D1,hBa.grown hg0 hBa.size (λj hj=>by cases hj)⟩
 case round=>
  obtain⟨left,cnt,ss,hrg,hcs,hrow,hnn,hC,hnx⟩:=hrel
  go_wp2_with (first
   |(at_next;refine wpList_next_ranges _ rfl _ rfl 9 aiA ah1 encStr (id:Value->Value) (λkey kl hk=>by obtain⟨x,hx,_⟩:=QO dx hk;exact⟨x,hx⟩) (λv y hv=>⟨v,rfl⟩) b1 w1.heap.size n1 _ _ _ rfl hrg ?_ ?_)
   |go_in)
  ·intro hc0 hl0
   have hp1:ss.Perm [[98,101,110,99,104,101,115],[99,108,101,97,110],[99,117,116],[100,114,121],[102,105,116],[103,108,117,101],[104,101,108,112],[109,97,115,115],[110,111,116,101],[111,112,101,110],[114,101,112,111,114,116],[115,104,105,109],[115,104,111,119],[116,104,105,110],[116,114,117,115,116],[119,111,108,102]]:=hk1▸hC.perm hown1 aiA dx hl0
   rcases hrow.2 with ⟨hnil,_⟩|⟨g,cap,cur,rfl,hbase,hb,h1,h2,h3,h4⟩
   ·exact absurd hnil hnn
   have hgl:g<wr.heap.size:=(I5.1 hb).1
   go_wp2_with (first
    |(go_at_call 73;refine(ars _).mono ?_;rintro e w2 ⟨b2,n2,D2,rfl,hown2,hk2,hs2,hB2,hb2⟩)
    |(at_range;refine wpList_range_own _ rfl _ 137 rfl 9 135 aiA Gr _ b2 n2 _ rfl hown2 ?_;intro w3 hrg3 hg3 hs3)
    |go_in)
   have hrow2:w2.ownsRow w.heap.size 9 1 (.slice (ae ⟨g,0,ai⟩) ss.length cap) ss.length (ss.map encStr):=⟨hrow.1,.inr ⟨g,cap,cur,rfl,hbase,(hB2.block g hgl).trans hb,h1,h2,h3,h4⟩⟩
   have hBb:Below w.heap.size w w2:=hnx.trans (hB2.mono hnx.size)
   have hbl2:=hown2.lt
   go_frame
   go_loopw [1] (λv wr=>∃(left:Lit->Bool) (cnt:Nat) (s2:List (List UInt8)),wr.ranges aF 9 ah1 b2 w2.heap.size n2 D2 left cnt/\s2.length+cnt<=ahQ D2/\
    wr.ownsRow w.heap.size 9 1 v (ss++s2).length ((ss++s2).map encStr)/\v≠ .slice ai 0 0/\Collected D2 left s2/\Below w.heap.size w wr)
    (λ_ wr=>wr.rangeLeft b2 w2.heap.size)
   case atStart=>
    exact⟨_,_,[],hrg3,by simp,by simpa using hrow2.kept hg3 (Or.inr (by simp[PU])),by simp,al6 D2,hBb.grown hg3 hBb.size (λj hj=>by cases hj)⟩
   case round=>
    obtain⟨mW,cnt',s2,hrg',hcs',hrow',hnn',hC',hnx'⟩:=hrel
    go_wp2_with (first
     |(at_next;refine wpList_next_ranges _ rfl _ rfl 9 aiA ah1 encStr (id:Value->Value) (λkey kl hk=>by obtain⟨x,hx,_⟩:=QO dx hk;exact⟨x,hx⟩) (λv y hv=>⟨v,rfl⟩) b2 w2.heap.size n2 _ _ _ rfl hrg' ?_ ?_)
     |go_in)
    ·intro hc1 hl1
     have hp2:s2.Perm [[109,111,100,101],[110,101,99,107],[112,97,112,101,114],[112,101,103],[112,108,97,116,101],[112,111,116],[114,105,98],[115,116,97,99,107],[119,111,114,107]]:=hk2▸hC'.perm hown2 aiA dx hl1
     rcases hrow'.2 with ⟨hnil,_⟩|⟨g',cap',cur',rfl,hbase',hb',h1',h2',h3',h4'⟩
     ·exact absurd hnil hnn'
     have hH:Holds encStr _ g' 0 (ss++s2).toArray:=holds_of_block hb' (by simpa using h4')
     have hgl':=(I5.1 hb').1
     have hlt9:(ss++s2).length<4611686018427387904:=by rw[(hp1.append hp2).length_eq];decide
     have hc:=hsort g' cap' (ss++s2) _ hH hgl' hlt9
     rw[aQ]at hc
     clear hcs' hcs hs1 hs2 hk1 hk2 h4 hrow hrow' hnn hnn' hC hC' hrg hrg' hl0 hl1
     go_wp2_with (first
      |(go_at_call 282;refine hc.mono ?_;rintro e w' ⟨rfl,hw⟩)
      |go_in)
     go_ret
     obtain⟨nn,os,rfl⟩:=hw
     have hlen:(ss++s2).length=25:=(hp1.append hp2).length_eq
     have hm:((ss++s2).mergeSort λx y=>ah (x<=y))=Go.Ab.xO:=akz (hp1.append hp2)
     have hlen2:ss.length+s2.length=25:=by rw[<-aQ];exact hlen
     refine⟨g',cap',by rw[hlen2];rfl,?_,hnx'.grown (grownBy_sorted _) hnx'.size (λj hj=>by cases hj;exact hbase')⟩
     have hr:=ownsRow_sorted (n:=nn) (os:=os) (ts:=(ss++s2).mergeSort λx y=>ah (x<=y)) (by simp) hbase' hb' h1' h2' h3'
     rw[hm,hlen]at hr
     rw[hm]
     exact hr
    ·intro x c kl yd yp w4 cnt2 hkey hlk hv hat hrg4 hlt hg4 hs4 hen
     obtain⟨x',ex,rfl,_⟩:=QO dx hkey
     obtain rfl:x=x':=encStr_inj ex
     have hrow4:=hrow'.kept hg4 (Or.inr (row_ne_iter hrow' hrg').symm)
     clear hs4
     go_wp2_with (first
      |(at_builtin;refine wpList_append_own _ rfl _ _ 40 rfl w.heap.size 9 i0 (.string ⟨#[]⟩) 1 16 zx hi hz0 hz1 hz2 rfl (by decide) _ _ _ rfl (hrow4.alloc _) ⟨w4.heap.size,0,ai⟩ 1 1 [encStr x] rfl rfl (cell_one_new _ _ _) (by simp[ass,encStr]) (by simp only[aQ];unfold maxLen;omega) (by simp only[aQ];omega) (by have:=hnx'.size;have:=hg4.size;simp;omega) ?_;intro v5 w5 hown5 hg5 hnil5;go_frame)
      |go_in)
     have hrg5:=(hrg4.alloc _).kept hg5 (acw hrow4 hrg4.owns) (row_ne_iter hrow4 hrg4)
     go_roundw
     case rel=>
      refine⟨_,cnt2,s2++ [x],hrg5,by simp;omega,by simpa[gS]using hown5,λhv'=>by have:=(hnil5.1 hv').2;omega,hC'.step hlk hat,?_⟩
      exact((hnx'.grown hg4 hnx'.size (λj hj=>by cases hj;exact hBb.size)).alloc (by have:=hnx'.size;have:=hg4.size;omega) _).grown hg5 (by have:=hnx'.size;have:=hg4.size;simp;omega) (λj hj=>(hrow4.lt j hj).1)
     case measure=>rw[hrg5.left_eq,hrg'.left_eq];exact hlt
  ·intro x c kl yd yp w4 cnt2 hkey hlk hv hat hrg4 hlt hg4 hs4 hen
   obtain⟨x',ex,rfl,_⟩:=QO dx hkey
   obtain rfl:x=x':=encStr_inj ex
   have hrow4:=hrow.kept hg4 (Or.inr (row_ne_iter hrow hrg).symm)
   clear hs4
   go_wp2_with (first
    |(at_builtin;refine wpList_append_own _ rfl _ _ 40 rfl w.heap.size 9 i0 (.string ⟨#[]⟩) 1 16 zx hi hz0 hz1 hz2 rfl (by decide) _ _ _ rfl (hrow4.alloc _) ⟨w4.heap.size,0,ai⟩ 1 1 [encStr x] rfl rfl (cell_one_new _ _ _) (by simp[ass,encStr]) (by unfold maxLen;omega) (by omega) (by have:=hnx.size;have:=hg4.size;simp;omega) ?_;intro v5 w5 hown5 hg5 hnil5;go_frame)
    |go_in)
   have hrg5:=(hrg4.alloc _).kept hg5 (acw hrow4 hrg4.owns) (row_ne_iter hrow4 hrg4)
   go_roundw
   case rel=>
    refine⟨_,cnt2,ss++ [x],hrg5,by simp;omega,by simpa[gS]using hown5,λhv'=>by have:=(hnil5.1 hv').2;omega,hC.step hlk hat,?_⟩
    exact((hnx.grown hg4 hnx.size (λj hj=>by cases hj;exact hBa.size)).alloc (by have:=hnx.size;have:=hg4.size;omega) _).grown hg5 (by have:=hnx.size;have:=hg4.size;simp;omega) (λj hj=>(hrow4.lt j hj).1)
   case measure=>rw[hrg5.left_eq,hrg.left_eq];exact hlt
end
section
open Go.Ab Go.Proofs
def akW(xs:List (List UInt8)):(xs.map A.str).flatMap A.cells=xs.map A.str:=by induction xs with|nil=>rfl|cons s xs ih=>rw[aP,cg,ih];rfl
def abC{φ:Nat->Nat}{w:World}{K:Nat->Prop}:∀(xs:List (List UInt8)),cW φ w K (xs.map encStr) (xs.map A.str)
 | []=>.nil
 |s::xs=>.cons _ _ _ _ (.str s) (abC xs)
def aqJ{P:Program}{φ:Nat->Nat}{g f:Nat}{ys:List (List UInt8)}{e:TypeId}(hφ:φ g=f)(he:jR P f)(h0:ys≠ []) (hw:∀w:World,Calls P f #[] w λx w'=>∃b cap,x=.returned (.slice (ae ⟨b,0,ai⟩) ys.length cap)/\w'.ownsRow w.heap.size e 1 (.slice (ae ⟨b,0,ai⟩) ys.length cap) ys.length (ys.map encStr)/\Below w.heap.size w w'):r6 P φ g (aqI ys):=by
 subst hφ;have hn:0<ys.length:=Z7.2 h0;refine r6.pA he rfl rfl λx y hy=> ?_;obtain rfl:ys=y:=cq hy;show dB P φ g [] [A.tok 0 1 (ys.map A.str)] [];refine dB.yK rfl λw K vs hr hK hG=> ?_;cases hr;refine(hw w).mono λx w' hh=> ?_;obtain⟨b,cap,rfl,hrow,hb⟩:=hh;obtain⟨hl,⟨hc,_⟩|⟨b',cap',cur,hv,hbase,hcells,h1,h2,h3,h4⟩⟩:=hrow;·cases hc
 ·cases hv;have hlt:b<w'.heap.size:=(I5.1 hcells).1;rw[asz]at h4;refine⟨[_],K,[b],rfl,hb,λ_ h=>h,λ_ h=>.inl h,.cons _ _ [b] _ _ [] (.tok _ 0 1 _ (ae b) ?_) .nil,by simp,λc hc=> ?_⟩;·(have e1:ys.length=(ys.map A.str).length:=by rw[aT]);rw[e1];refine .mk b 0 cap 1 (ys.map A.str) (ys.map encStr) (by rw[aT];exact h1) (by omega) (λx hx=>by obtain⟨s,_,rfl⟩:=dK.1 hx;rfl) (by rw[akW];exact abC ys) (λj v hj=> ?_) ⟨cur,e,(0,0),hcells,by omega,λo=> ?_⟩;(·rw[<-h4]at hj;(have hj2:cur.toList[j]? =ae v:=by rw[oB]at hj;split at hj;(·exact hj);·cases hj);rw[n9]at hj2;simp only[df,hcells,c8];exact hj2);·simp[xF,hcells]
  ·simp only[aX]at hc;subst hc;exact⟨λhk=>absurd (hK _ hk) (by omega),hlt,hbase⟩
end
def OC:r6 aF M8 432 u6:=aqJ (e:=9) (f:=211) (by kernel_rfl) ⟨_,awm,by decide+kernel,rfl⟩ (by decide) (λw=>akX (λb cap ss w hH hb hl=>Go.calls_of_every_depth λD=>AnyS.slices_Sort_string_alone Tryz.as9 D b 0 cap ss w hH hb hl) w)
def Uq:=rk Jv (kk OC zz)
def agU:=rk NX (kk bK zz)
def Y8:=rk EK (kk bK zz)
def Zk:=rk EU zz
def UJ:=rk An (kk J8<|kk Zk zz)
def BF:=rk fV (kk UJ zz)
def Zj:=rk ES (kk BF zz)
def Y7:=rk yj (kk my<|kk Zj<|kk Y8<|kk agU zz)
def UB:=rk ua (kk Au<|kk Cl<|kk my zz)
def Uw:=rk zZ (kk UB<|kk Y7<|kk BG zz)
def uS:=rk jS zz
def adZ:=rk yE (kk Q1 zz)
section
open Go.Shelf Go.Proofs Go.Lib
def aib:(aF.info? 84).map (λi=>(i.zero,i.size,i.bytes))=ae (ae (.agg #[.string ⟨#[]⟩,.string ⟨#[]⟩,.int .i64 0,.int .i64 0,.int .i64 0]),5,56):=by kernel_rfl
set_option maxHeartbeats 3200000 in
def aic:aas aF 279 5:=⟨⟨_,awr,by decide+kernel,rfl⟩,by
 intro b o n c i j cs w hc0 hnc hij hjn hn hl hcs hr h1c
 obtain⟨iE,hi,he⟩:=au.1 aib
 simp only[be]at he
 obtain⟨hz0,hsz,hby⟩:=he
 have hbw:b<w.heap.size:=hr.lt
 have hzv:∀w,(zeroValue 84).run aF w=.ok (.agg #[.string ⟨#[]⟩,.string ⟨#[]⟩,.int .i64 0,.int .i64 0,.int .i64 0]) w:=λw=>by simp[zeroValue,typeInfo,hi,hz0]
 have hcs0:cH w.drew b o cs:=λj v hj=>hcs j v hj
 have hr0:fA 5 w.drew b (o+c*5):=hr
 obtain⟨news,hnews⟩:∃news,news=cs.drop (j*5):=⟨_,rfl⟩
 have hlen:news.length=(n-j)*5:=by rw[hnews,dm,hl];omega
 obtain⟨A,hA,hsrc⟩:∃A:Addr,(if c=j then ae (⟨b,o,ai⟩:Addr)else ae ⟨b,o+j*5,ai⟩)=ae A/\Hid (∀t u,news[t]? =ae u->w.drew.cell? (A.add t)=ae u):=by
  by_cases h:c=j;·refine⟨⟨b,o,ai⟩,by simp[h],λt u hu=> ?_⟩;(have h0:news.length=0:=by rw[hlen];omega);rw[zA.1 h0]at hu;simp at hu
  ·refine⟨⟨b,o+j*5,ai⟩,by simp[h],λt u hu=> ?_⟩;rw[hnews]at hu;rw[World.cell?_add];exact(hcs0.drop (j*5)) t u hu
 have s1:Hid (news.length=(n-j)*5):=hlen
 have s2:Hid (∀u∈news,u.oneCell'=ar):=λu hu=>h1c u (by rw[hnews]at hu;exact cA hu)
 have s3:Hid (∀t,t<news.length->(w.drew.cell? ⟨b,o+i*5+t,ai⟩).isSome=ar/\w.drew.frozen? ⟨b,o+i*5+t,ai⟩=aw):=λt ht=>by rw[hlen]at ht;rw[gS];exact hr0.cell (by omega)
 obtain⟨W1,hW1⟩:∃W1,W1=w.drew.setCells b (o+i*5) news:=⟨_,rfl⟩
 have hr1:fA 5 W1 b (o+c*5):=by rw[hW1];exact gR _ _ _ hr0
 have hT1:jd b w W1:=by rw[hW1];exact((jd.refl b w).drew).setCells (.inl rfl) _ _
 have hcl:∀ty,(apm #[36] ty #[.slice (ae ⟨b,o+(i+(n-j))*5,ai⟩) (n-(i+(n-j))) (c-(i+(n-j)))]).run aF W1=.ok (.tuple #[]) (W1.setCells b (o+(i+(n-j))*5) (bQ (qj #[.string ⟨#[]⟩,.string ⟨#[]⟩,.int .i64 0,.int .i64 0,.int .i64 0]).cells (n-(i+(n-j)))).toList):=
  λty=>W7 W1 _ _ ty _ 5 XQ hzv rfl (by decide) b (o+(i+(n-j))*5) _ _ (by omega) (λt ht=>by rw[gS];exact(hr1.cell (by omega)).1) (λt ht=>by rw[gS];exact(hr1.cell (by omega)).2)
 have fin:cH (W1.setCells b (o+(i+(n-j))*5) (bQ (qj #[.string ⟨#[]⟩,.string ⟨#[]⟩,.int .i64 0,.int .i64 0,.int .i64 0]).cells (n-(i+(n-j)))).toList) b o (cs.take (i*5)++cs.drop (j*5)):=by rw[hW1,hnews];exact anQ hij hjn hnc hl hcs0 hr0 (by rw[Ys,size_zeroCells];show(n-(i+(n-j)))*5=_;congr 1;omega)
 have finT:jd b w (W1.setCells b (o+(i+(n-j))*5) (bQ (qj #[.string ⟨#[]⟩,.string ⟨#[]⟩,.int .i64 0,.int .i64 0,.int .i64 0]).cells (n-(i+(n-j)))).toList):=hT1.setCells (.inl rfl) _ _
 have aqp:fA 5 (W1.setCells b (o+(i+(n-j))*5) (bQ (qj #[.string ⟨#[]⟩,.string ⟨#[]⟩,.int .i64 0,.int .i64 0,.int .i64 0]).cells (n-(i+(n-j)))).toList) b (o+c*5):=gR _ _ _ hr1
 have hW:Hid (W1=w.drew.setCells b (o+i*5) news):=hW1
 have hnij:¬((i:Int)=(j:Int)):=by omega
 have hic:i<=c:=by omega
 have hjc:j<=c:=by omega
 have mixed:aF.follows .mixedOrders=ar:=by kernel_rfl
 clear hW1 hcs0 hr0 hr1 hT1 hnews hlen hcs
 go_enter awr,Tryz.ntmps279
 go_wp2_with (fail)
 go_region_law_o (refine step_append_room rfl (.tmp 22) (.tmp 25) 36 rfl 84 iE 5 XQ hi hsz b o i c (by simp[Rk,ao4]) A (n-j) (c-j) news (by simp[Rk,ao4]) s1.out hsrc.out s2.out (by omega) s3.out ?_;rw[<-hW.out])
 go_wp2
 go_ret
 exact⟨by rw[show n-(j-i)=i+(n-j)by omega];rfl,fin,aqp,finT⟩⟩
end
def qC:r6 aF M8 637 gq:=anR (by kernel_rfl) (by kernel_rfl) aic (by kernel_rfl)
def Qt:=rk pM (kk ll<|kk adZ<|kk qC<|kk uS zz)
def Sd:=rk GD (kk Qt<|kk BG zz)
def E6:=rk ny (kk l6 zz)
section
open Go.Lib
def ato(s:ByteArray)(w:World)(hl:18<(jF s.data.toList [45]).length): Calls aF 150 #[.string s] w λe w'=>e=.returned (.tuple #[.int .i64 0,.bool aw])/\Below w.heap.size w w':=by
 go_enter Na,Tc;go_wp2_with (go_at_call 212;refine(Tryz.strings_TrimPrefix _ _ _).mono ?_;rintro e w' ⟨rfl,rfl⟩)
 all_goals first
  |(exfalso;omega)
  |(go_ret2;exact⟨rfl,BU _ _⟩)
def avR(s:ByteArray)(w:World)(hl:¬18<(jF s.data.toList [45]).length)(m:Int)(u:TypeId)(hP:Calls aF 213 #[.string s,.int .i64 10,.int .i64 64] w λe w'=>∃x,e=.returned (.tuple #[.int .i64 m,.iface u x])/\Below w.heap.size w w'): Calls aF 150 #[.string s] w λe w'=>e=.returned (.tuple #[.int .i64 0,.bool aw])/\Below w.heap.size w w':=by
 go_enter Na,Tc;go_wp2_with (first|(go_at_call 212;refine(Tryz.strings_TrimPrefix _ _ _).mono ?_;rintro e w' ⟨rfl,rfl⟩)|(go_at_call 213;refine hP.mono ?_;rintro e w1 ⟨x,rfl,hw1⟩))
 all_goals first
  |(exfalso;omega)
  |(go_ret2;exact⟨rfl,hw1⟩)
def amU(s:ByteArray)(w:World)(hl:¬18<(jF s.data.toList [45]).length)(v:Int)(hs:bG v=s.data.toList)(hP:Calls aF 213 #[.string s,.int .i64 10,.int .i64 64] w λe w'=>e=.returned (.tuple #[.int .i64 v,.nilIface])/\Below w.heap.size w w') (hF:∀w',Below w.heap.size w w'->Calls aF 286 #[.int .i64 v,.int .i64 10] w' λe w''=>e=.returned (.string ⟨(bG v).toArray⟩)/\Below w'.heap.size w' w''): Calls aF 150 #[.string s] w λe w'=>e=.returned (.tuple #[.int .i64 v,.bool ar])/\Below w.heap.size w w':=by
 have HS:=Lib.hid hs;clear hs;go_enter Na,Tc;go_wp2_with (first|(go_at_call 212;refine(Tryz.strings_TrimPrefix _ _ _).mono ?_;rintro e w' ⟨rfl,rfl⟩)|(go_at_call 213;refine hP.mono ?_;rintro e w1 ⟨rfl,hw1⟩)|(go_at_call 286;refine(hF _ hw1).mono ?_;rintro e w2 ⟨rfl,hw2⟩)|go_in)
 all_goals first
  |(exfalso;omega)
  |skip
 ·rename_i h;exfalso;rw[HS.out]at h;simp[aub]at h
 ·go_ret2;exact⟨rfl,hw1.trans (hw2.mono hw1.size)⟩
def axu(s:ByteArray)(w:World)(hl:¬18<(jF s.data.toList [45]).length)(v:Int)(hs:bG v≠s.data.toList)(hP:Calls aF 213 #[.string s,.int .i64 10,.int .i64 64] w λe w'=>e=.returned (.tuple #[.int .i64 v,.nilIface])/\Below w.heap.size w w') (hF:∀w',Below w.heap.size w w'->Calls aF 286 #[.int .i64 v,.int .i64 10] w' λe w''=>e=.returned (.string ⟨(bG v).toArray⟩)/\Below w'.heap.size w' w''): Calls aF 150 #[.string s] w λe w'=>e=.returned (.tuple #[.int .i64 0,.bool aw])/\Below w.heap.size w w':=by
 have HS:=Lib.hid hs;clear hs;go_enter Na,Tc;go_wp2_with (first|(go_at_call 212;refine(Tryz.strings_TrimPrefix _ _ _).mono ?_;rintro e w' ⟨rfl,rfl⟩)|(go_at_call 213;refine hP.mono ?_;rintro e w1 ⟨rfl,hw1⟩)|(go_at_call 286;refine(hF _ hw1).mono ?_;rintro e w2 ⟨rfl,hw2⟩)|go_in)
 all_goals first
  |(exfalso;omega)
  |skip
 ·go_ret2;exact⟨rfl,hw1.trans (hw2.mono hw1.size)⟩
 ·rename_i h;exfalso;apply HS.out;simpa[aub]using h
end
def atp:apG aF 150 213 286:=⟨⟨_,Na,by decide+kernel,rfl⟩,ato,avR,amU,axu⟩
def C1:r6 aF M8 522 pP:=acn Tryz.aqD Tryz.aiE ⟨5,by kernel_rfl⟩ (by kernel_rfl) (by kernel_rfl) atp (by kernel_rfl)
def lY:=rk iG (kk bK<|kk C1<|kk l6 zz)
def WO:=rk qw (kk MM zz)
def yN:=rk oS zz
def Kc:=rk wG (kk yN zz)
def Uo:=rk lV (kk bK<|kk yN<|kk Kc zz)
def abN:=rk vL (kk yN<|kk Kc<|kk IC zz)
def abX:=rk Iv (kk HC<|kk jw zz)
def JZ:=rk wk (kk abN<|kk jw<|kk abX zz)
def J1:=rk qn (kk JZ<|kk Uo<|kk WO<|kk l6 zz)
def Q3:=rk Dg (kk Au zz)
def UF:=rk Ag (kk JZ<|kk Q3<|kk C2 zz)
def UE:=rk ue (kk J1<|kk UF<|kk lY<|kk E6 zz)
section
open Go.Shelf Go.Proofs
set_option maxHeartbeats 3200000 in
def Ao:pD aF 182 4/\pD aF 184 3/\pD aF 185 4/\pD aF 186 5/\pD aF 187 3/\pD aF 188 4/\pD aF 190 5:=by
 have mixed:aF.follows .mixedOrders=ar:=by kernel_rfl
 refine⟨(Rn.mk' (z:=4) (tB:=4) Tryz.underlying27 dE (zv:=.agg #[.string ⟨#[]⟩,.int .i64 0,.int .i64 0,.int .i64 0]) (by kernel_rfl) rfl (by decide) Tryz.func238 (by kernel_rfl) (by kernel_rfl) (by kernel_rfl) (by kernel_rfl)).walk ⟨_,Nb,by decide+kernel,rfl⟩ ?_ ?_ ?_ ?_,(Rn.mk' (z:=3) (tB:=4) Tryz.underlying28 dE (zv:=.agg #[.string ⟨#[]⟩,.int .i64 0,.int .i64 0]) (by kernel_rfl) rfl (by decide) Tryz.func240 (by kernel_rfl) (by kernel_rfl) (by kernel_rfl) (by kernel_rfl)).walk ⟨_,Nc,by decide+kernel,rfl⟩ ?_ ?_ ?_ ?_,(Rn.mk' (z:=4) (tB:=4) Tryz.underlying32 dE (zv:=.agg #[.string ⟨#[]⟩,.int .i64 0,.int .i64 0,.int .i64 0]) (by kernel_rfl) rfl (by decide) Tryz.func242 (by kernel_rfl) (by kernel_rfl) (by kernel_rfl) (by kernel_rfl)).walk ⟨_,Nd,by decide+kernel,rfl⟩ ?_ ?_ ?_ ?_,(Rn.mk' (z:=5) (tB:=4) Tryz.underlying33 dE (zv:=.agg #[.string ⟨#[]⟩,.int .i64 0,.int .i64 0,.int .i64 0,.int .i64 0]) (by kernel_rfl) rfl (by decide) Tryz.func244 (by kernel_rfl) (by kernel_rfl) (by kernel_rfl) (by kernel_rfl)).walk ⟨_,Nf,by decide+kernel,rfl⟩ ?_ ?_ ?_ ?_,(Rn.mk' (z:=3) (tB:=4) Tryz.underlying34 dE (zv:=.agg #[.string ⟨#[]⟩,.int .i64 0,.int .i64 0]) (by kernel_rfl) rfl (by decide) Tryz.func246 (by kernel_rfl) (by kernel_rfl) (by kernel_rfl) (by kernel_rfl)).walk ⟨_,Ng,by decide+kernel,rfl⟩ ?_ ?_ ?_ ?_,(Rn.mk' (z:=4) (tB:=4) Tryz.underlying35 dE (zv:=.agg #[.string ⟨#[]⟩,.int .i64 0,.int .i64 0,.int .i64 0]) (by kernel_rfl) rfl (by decide) Tryz.func248 (by kernel_rfl) (by kernel_rfl) (by kernel_rfl) (by kernel_rfl)).walk ⟨_,Nh,by decide+kernel,rfl⟩ ?_ ?_ ?_ ?_,(Rn.mk' (z:=5) (tB:=4) XQ dE (zv:=.agg #[.string ⟨#[]⟩,.string ⟨#[]⟩,.int .i64 0,.int .i64 0,.int .i64 0]) (by kernel_rfl) rfl (by decide) Tryz.func250 (by kernel_rfl) (by kernel_rfl) (by kernel_rfl) (by kernel_rfl)).walk ⟨_,Ni,by decide+kernel,rfl⟩ ?_ ?_ ?_ ?_⟩
 iterate 7
  ·intro ad va vo vc cp w w1 hrun
   first|go_enter Nb,Td|go_enter Nc,Te|go_enter Nd,Tf|go_enter Nf,Tg|go_enter Ng,Th|go_enter Nh,Ti|go_enter Ni,Tj
   go_wp2_with (first|(at_builtin;refine I3 _ rfl _ _ _ _ rfl _ _ rfl rfl _ _ hrun ?_)|fail)
   go_ret
   exact⟨rfl,rfl⟩
  ·intro b o n c i va vo vc cs xs w hlt hroom hn hva hbw hov hcp1 hcp2
   have hin:i<=n:=by omega
   have hI:¬((i:Int)=(n:Int)):=by omega
   have hb1:(0:Int)<=(i:Int)+1:=by omega
   have htn:((i:Int)+1).toNat=i+1:=by omega
   have hngt:¬((n:Int)+1>(c:Int)):=by omega
   have hci:¬(c=i):=by omega
   have hci1:¬(c=i+1):=by omega
   have hb3:(i:Int)<=(n:Int)+1:=by omega
   have hw1:ag.wrap ((i:Int)+1)=(i:Int)+1:=by rw[anl];omega
   first|go_enter Nb,Td|go_enter Nc,Te|go_enter Nd,Tf|go_enter Nf,Tg|go_enter Ng,Th|go_enter Nh,Ti|go_enter Ni,Tj
   go_wp2_with (simp only[hov])
   go_region_law_o (refine step_copy_runI rfl _ _ _ _ rfl _ _ (by simp[Rk,ao4]) (by simp[Rk,ao4]) (hcp1 _ _ _) ?_)
   go_wp2_with (at_builtin;refine wpList_copy_runI _ rfl _ _ _ _ rfl _ _ rfl rfl (hcp2 _ _) ?_)
   go_ret
   exact⟨rfl,rfl⟩
  ·intro b o n c i va vo vc G cs xs w W1 hlt hnc hroom hn hva hbw hGn hrz hcpA hcpB
   have hin:i<=n:=by omega
   have hI:¬((i:Int)=(n:Int)):=by omega
   have hb1:(0:Int)<=(i:Int)+1:=by omega
   have htn:((i:Int)+1).toNat=i+1:=by omega
   have hgt:(n:Int)+1>(c:Int):=by omega
   have hGi:¬(G=i):=by omega
   have hGi1:¬(G=i+1):=by omega
   have hci:¬(c=i):=by omega
   have hb3:(i:Int)<=(n:Int):=by omega
   have hw1:ag.wrap ((i:Int)+1)=(i:Int)+1:=by rw[anl];omega
   first|go_enter Nb,Td|go_enter Nc,Te|go_enter Nd,Tf|go_enter Nf,Tg|go_enter Ng,Th|go_enter Nh,Ti|go_enter Ni,Tj
   go_wp2_with (first
    |(at_builtin;refine I3 _ rfl _ _ _ _ rfl _ _ rfl rfl _ _ hrz ?_)
    |(at_builtin;refine wpList_copy_runI _ rfl _ _ _ _ rfl _ _ rfl rfl (hcpA _ _) ?_))
   go_region_law_o (refine step_copy_runI rfl _ _ _ _ rfl (.slice (ae ⟨w.heap.size,(i+1)*_,ai⟩) (n+1-(i+1)) (G-(i+1))) (.slice (ae ⟨b,o+i*_,ai⟩) (n-i) (c-i)) (by simp[Rk,ao4]) (by simp[Rk,ao4]) (hcpB _ (G-(i+1)) (c-i)) ?_)
   go_wp2
   go_ret
   exact⟨rfl,rfl⟩
  ·intro b o n c va vo vc b' o' cp w w1 hc0 hnc hn hrun
   first|go_enter Nb,Td|go_enter Nc,Te|go_enter Nd,Tf|go_enter Nf,Tg|go_enter Ng,Th|go_enter Nh,Ti|go_enter Ni,Tj
   go_wp2_with (first|(at_builtin;refine I3 _ rfl _ _ _ _ rfl _ _ rfl rfl _ _ hrun ?_)|fail)
   all_goals go_ret
   all_goals exact⟨rfl,rfl⟩
end
def qE:r6 aF M8 1083 gw:=Ap (by kernel_rfl) (by kernel_rfl) (by decide) Ao.1 (by kernel_rfl)
def Hv:=rk uv zz
def qd:=rk cz (kk Hv<|kk qE zz)
def Za:=rk Og (kk UE<|kk Hv<|kk qd zz)
def ON:r6 aF M8 523 IZ:=akC Tryz.aqE (cd (by kernel_rfl)) (by kernel_rfl)
def nK:=rk jI (kk lY<|kk ON zz)
def Y4:=rk Ez (kk nK<|kk Hq zz)
def uD:r6 aF M8 1086 il:=Ap (by kernel_rfl) (by kernel_rfl) (by decide) Ao.2.1 (by kernel_rfl)
def Hw:=rk uw zz
def rj:=rk cM (kk Hw<|kk uD zz)
def Zb:=rk Oh (kk Y4<|kk Hw<|kk rj zz)
def UD:=rk ud (kk lY<|kk l6<|kk my zz)
def Zc:=rk Oi (kk UD zz)
def WG:=rk wq (kk yM<|kk lY zz)
def Zd:=rk Oj (kk WG zz)
def Y2:=rk Ev (kk nK<|kk Hp zz)
def uB:r6 aF M8 1089 ij:=Ap (by kernel_rfl) (by kernel_rfl) (by decide) Ao.2.2.1 (by kernel_rfl)
def Hy:=rk ux zz
def rh:=rk cK (kk Hy<|kk uB zz)
def Ze:=rk Ol (kk Y2<|kk Hy<|kk rh zz)
def Y3:=rk Ey (kk yL<|kk nK zz)
def uC:r6 aF M8 1092 ik:=Ap (by kernel_rfl) (by kernel_rfl) (by decide) Ao.2.2.2.1 (by kernel_rfl)
def Hz:=rk uy zz
def ri:=rk cL (kk Hz<|kk uC zz)
def Zf:=rk Om (kk Y3<|kk Hz<|kk ri zz)
def WE:=rk Cd (kk E5<|kk nK zz)
def r7:r6 aF M8 1096 gK:=Ap (by kernel_rfl) (by kernel_rfl) (by decide) Ao.2.2.2.2.1 (by kernel_rfl)
def HA:=rk uz zz
def qA:=rk cE (kk HA<|kk r7 zz)
def Zg:=rk On (kk HA<|kk WE<|kk qA zz)
def WH:=rk Ce (kk nK<|kk E9 zz)
def r8:r6 aF M8 1099 gM:=Ap (by kernel_rfl) (by kernel_rfl) (by decide) Ao.2.2.2.2.2.1 (by kernel_rfl)
def HB:=rk uA zz
def qB:=rk cF (kk HB<|kk r8 zz)
def Zh:=rk Oo (kk WH<|kk HB<|kk qB zz)
def Uy:=rk Ac (kk Q3<|kk vk zz)
def UC:=rk uc (kk Uy<|kk lY<|kk E6 zz)
def qD:r6 aF M8 808 gu:=Ap (by kernel_rfl) (by kernel_rfl) (by decide) Ao.2.2.2.2.2.2 (by kernel_rfl)
def Wx:=rk ni (kk ll<|kk uS<|kk qD<|kk vk zz)
def Zi:=rk Oq (kk UC<|kk Wx zz)
def LA:=rk zI (kk J1<|kk lY<|kk C1 zz)
section
open Go.Ab Go.ChangeShapes Go.WideShapes Go.ChangeAt Go.RowKit Go.Proofs
section
open Go.Maps Go.Sort
def FY{H:Type}{P:Program}(w:World){ops:Array Oper}{rest:List Oper}{o:Oper}{a:Act}{Q:Exit->Act->World->Prop} (hg:o.guard=ai) (m x v:Operand) (t:TypeId) (hop:o.op=Op.insert t m x v) (k e:TypeId) (K:Keyed P k) (ht:P.underlying t=ae (.map k e)) (R:Value->Option (DataW H×List MemPlace)) (b n:Nat) (D:DataW H) (hm:a.eval m=.map (ae b)) (hown:w.ownsMap P k R b n D) (hn:n<maxLen) (key val:Value) (kl:Lit) (hx:a.eval x=key) (hv:a.eval v=val) (hkey:keyOf P k key=ae kl) (d:DataW H) (ps:List MemPlace) (hval:R val=ae (d,ps)) (hK:∀w',w'.ownsMap P k R b (n+1) (D.put kl d)->w.grownBy w' (ae b)->wpList P ops Q rest (a.put o.dst undef) w'): wpList P ops Q (o::rest) a w:=by refine wpList_plain hg λK' hK'=> ?_;obtain⟨w',hrun,r1,r2⟩:=hown.update K ht hn hkey hval;unfold zq;simp[execOp,hop,hm,hx,hv,hrun,asa];exact hK' _ _ (hK w' r1 r2)
def exK:Keyed aF 9:=string_keyed dx
def axd(s:List UInt8)(h:s.length<=maxLen):keyOf aF 9 (.string ⟨s.toArray⟩)=ae (.string s):=by simp[keyOf,dx,mapKey];exact h
def auD(s:List UInt8)(h:s.length<=100):keyOf aF 9 (.string ⟨s.toArray⟩)=ae (.string s):=axd s (dZ h (by decide))
def alz:List (List UInt8×Nat):=[([115,116,97,99,107],103),([114,105,98],107),([112,108,97,116,101],111),([110,101,99,107],113),([112,101,103],115),([112,111,116],119),([109,111,100,101],123),([119,111,114,107],127),([112,97,112,101,114],131)]
def akp:List (List UInt8×List UInt8×Nat):=[([100,114,121],[78,68,78],134),([99,117,116],[78,78,78],135),([116,104,105,110],[78,78],136),([109,97,115,115],[78,78],137),([115,104,105,109],[78,78],138),([102,105,116],[76,78],139),([111,112,101,110],[65,78],140),([103,108,117,101],[76,78],141),([110,111,116,101],[78],142),([119,111,108,102],[78],143),([98,101,110,99,104,101,115],[78],144),([116,114,117,115,116],[78],145),([99,108,101,97,110],[],146),([114,101,112,111,114,116],[],147),([115,104,111,119],[],148),([104,101,108,112],[],149)]
def fnV(n:Nat):Value:=.func (.func n) #[] #[]
def acV(p:List UInt8×Nat):Value:=.agg #[.string ⟨p.1.toArray⟩,.func (.func p.2) #[] #[]]
def Ku(w:World):Calls aF 73 #[] w λe w'=>∃(b n:Nat),e=.returned (.map (ae b))/\w'.ownsMap aF 9 NF b n (Fg (alz.map λp=>(p.1,fnV p.2)) (.map []))/\Lo w.heap.size w w':=by
 have hmm:= @run_makeMap aF;have hown:=Gc (H:=Value) w aF 9 NF;have hB:Below w.heap.size w (w.alloc (.map #[] 0)):=(BU _ _).alloc (bm _) _;go_enter Tryz.func73,awQ
 go_wp2_with (first
  |(refine FY _ rfl _ _ _ 137 rfl 9 135 exK Gr _ w.heap.size _ _ rfl hown (by decide) _ _ _ rfl rfl (auD _ (by decide)) _ [] rfl ?_;clear hown;intro w1 hown hg1;replace hB:=hB.grown hg1 (hB.size) (λj hj=>by cases hj;exact bm _);clear hg1)
  |go_in)
 go_ret;first|exact⟨_,rfl,⟨_,hown⟩,Lo.yK hB⟩|exact⟨_,_,rfl,hown,Lo.yK hB⟩
def Nw(w:World):Calls aF 74 #[] w λe w'=>∃(b n:Nat),e=.returned (.map (ae b))/\w'.ownsMap aF 9 NF b n (Fg (akp.map λp=>(p.1,acV p.2)) (.map []))/\Lo w.heap.size w w':=by
 have hmm:= @run_makeMap aF;have hown:=Gc (H:=Value) w aF 9 NF;have hB:Below w.heap.size w (w.alloc (.map #[] 0)):=(BU _ _).alloc (bm _) _;go_enter Tryz.func74,awR
 go_wp2_with (first
  |(refine FY _ rfl _ _ _ 144 rfl 9 142 exK Gs _ w.heap.size _ _ rfl hown (by decide) _ _ _ rfl rfl (auD _ (by decide)) _ [] rfl ?_;clear hown;intro w1 hown hg1;replace hB:=hB.grown hg1 (hB.size) (λj hj=>by cases hj;exact bm _);clear hg1)
  |go_in)
 go_ret;first|exact⟨_,rfl,⟨_,hown⟩,Lo.yK hB⟩|exact⟨_,_,rfl,hown,Lo.yK hB⟩
def axg(w:World):(zeroValue 135).run aF w=.ok .nilFunc w:=by kernel_rfl
def axf(w:World):(zeroValue 142).run aF w=.ok (.agg #[.string ⟨#[]⟩,.nilFunc]) w:=by kernel_rfl
end
set_option maxHeartbeats 6400000 in
def asP:apl aF 21 72 16 75 alz akp:=⟨⟨_,I8,by decide+kernel,rfl⟩,by
 intro φ gc gs gr F fc fs fr hc hs hrd htx hac d line r hR w K bs v hB
 unfold exF at hR
 obtain⟨c,hcut,hR2⟩:=ak.1 hR
 clear hR
 rename _=>hR
 by_cases hlen:65536<c.1.length
 ·rw[aJ hlen]at hR;cases hR
 rw[aO hlen]at hR
 have hkey:=axd c.1 (by unfold maxLen;omega)
 have cc:=(hc _ _ _ hcut).three (w:=w) (K:=K) (vs:=[.string ⟨line.toArray⟩,.string ⟨#[32]⟩]) (.cons _ _ _ _ (.str line) (.cons _ _ _ _ (.str [32]) .nil)) hB.kz hB.gl
 rw[fc]at cc
 clear hc hcut
 obtain⟨b0,o0,vs0,hv,hb0,hcl0,-,-,-⟩:=VK hB.box
 have hb0z:=(hB.ge _ hb0).2
 subst hv
 have tx:∀{W:World} {b n:Nat},W.ownsMap aF 9 NF b n (Fg (alz.map λp=>(p.1,fnV p.2)) (.map []))->(Gb 137 (.map (ae b)) (.string ⟨c.1.toArray⟩) ar).run aF W=.ok (.tuple #[(lk (alz.map λp=>(p.1,fnV p.2)) c.1).getD .nilFunc,.bool (lk (alz.map λp=>(p.1,fnV p.2)) c.1).isSome]) W:=λh=>aiH h exK Gr (axg _) (by decide) hkey
 have ac:∀{W:World} {b n:Nat},W.ownsMap aF 9 NF b n (Fg (akp.map λp=>(p.1,acV p.2)) (.map []))->(Gb 144 (.map (ae b)) (.string ⟨c.1.toArray⟩) ar).run aF W=.ok (.tuple #[(lk (akp.map λp=>(p.1,acV p.2)) c.1).getD (.agg #[.string ⟨#[]⟩,.nilFunc]),.bool (lk (akp.map λp=>(p.1,acV p.2)) c.1).isSome]) W:=λh=>aiH h exK Gs (axf _) (by decide) hkey
 rcases Tab.look fnV htx c.1 with ⟨l1,l2⟩|⟨f,n,l1,hf,l2⟩
 ·rw[l1]at hR
  simp only at hR
  rw[l2]at tx
  have tx:∀{W:World} {b m:Nat},W.ownsMap aF 9 NF b m (Fg (alz.map λp=>(p.1,fnV p.2)) (.map []))->(Gb 137 (.map (ae b)) (.string ⟨c.1.toArray⟩) ar).run aF W=.ok (.tuple #[.nilFunc,.bool aw]) W:=tx
  obtain⟨ws,hws,hR2⟩:=ak.1 hR
  clear hR
  rename _=>hR
  have gl:∀{W:World},Lo w.heap.size w W->I6 aF K W:=λhL=>hB.gl.on (λb hb=>hb) λb hb=>hL.block b (hB.kz b hb)
  have kb:∀{W:World},Lo w.heap.size w W->∀b,K b->b<W.heap.size:=λhL b hb=>bU (hB.kz b hb) hL.size
  have hwl:=(hs _ _ _ hws).1
  have sp:∀{W:World},Lo w.heap.size w W->Calls aF 16 #[.string ⟨line.toArray⟩,.string ⟨#[32]⟩] W λe w'=>∃ad cp,e=.returned (.slice ad ws.length cp)/\Lo W.heap.size W w'/\(ws=[]\/∃b o,ad=ae ⟨b,o,ai⟩/\W.heap.size<=b/\b<w'.heap.size/\ws.length<=cp/\cH w' b o (ws.map akE)):=λ{W} hL=>by have:=(hs _ _ _ hws).2.own (w:=W) (K:=K) (vs:=[.string ⟨line.toArray⟩,.string ⟨#[32]⟩]) (.cons _ _ _ _ (.str line) (.cons _ _ _ _ (.str [32]) .nil)) (kb hL) (gl hL) (ac8 _);rw[fs]at this;refine this.mono ?_;rintro e w' ⟨ad,n,cp,he,h1,h2⟩;(rcases alD h2.data with ⟨h3,rfl⟩|⟨b,o,h3,h4,rfl,h5,h6⟩);(·exact⟨ad,cp,by rw[he,h3];rfl,h1,.inl h3⟩);·exact⟨ad,cp,he,h1,.inr ⟨b,o,h3,h4.1,h4.2,h5,h6⟩⟩
  clear hs htx gl kb l1 hlen hkey
  rcases Tab.look acV hac c.1 with ⟨m1,m2⟩|⟨p,q,m1,hf,m2⟩
  ·rw[m1]at hR
   cases hR
   rw[m2]at ac
   have ac:∀{W:World} {b m:Nat},W.ownsMap aF 9 NF b m (Fg (akp.map λp=>(p.1,acV p.2)) (.map []))->(Gb 144 (.map (ae b)) (.string ⟨c.1.toArray⟩) ar).run aF W=.ok (.tuple #[.agg #[.string ⟨#[]⟩,.nilFunc],.bool aw]) W:=ac
   clear hrd hac
   obtain⟨name,text,found⟩:=c
   go_enter I8,Nk
   go_wp2_with (fail)
   go_at_call 72
   refine cc.mono ?_
   rintro e w1 ⟨rfl,L1⟩
   go_wp2_with (fail)
   go_at_call 73
   refine(Ku _).mono ?_
   rintro e w2 ⟨b,n2,rfl,hown,L2⟩
   replace L2:=L1.trans (L2.mono L1.size)
   replace tx:=tx hown
   clear hown
   go_wp2_with (fail)
   go_at_call 16
   refine(sp L2).mono ?_
   rintro e w3 ⟨ad,cp,rfl,L3,-⟩
   replace L3:=L2.trans (L3.mono L2.size)
   go_wp2_with (fail)
   go_at_call 74
   refine(Nw _).mono ?_
   rintro e w4 ⟨b,n2,rfl,hown,L4⟩
   replace L4:=L3.trans (L4.mono L3.size)
   replace ac:=ac hown
   clear hown sp
   go_wp2_with (fail)
   go_ret3
   have L5:=L4.alloc L4.size (.cells #[.string ⟨#[]⟩,.nilFunc] 142)
   exact⟨_,K,bs,rfl,(Fm.refl _ _ _).lo L5,hB.lo L5,λb hb=>.inl hb,.No ai 0 1⟩
  ·obtain⟨ks,f⟩:=p
   obtain⟨ks',n⟩:=q
   obtain⟨e,hf⟩:=hf
   cases e
   rw[m1]at hR
   rw[m2]at ac
   simp only at hR
   have ac:∀{W:World} {b m:Nat},W.ownsMap aF 9 NF b m (Fg (akp.map λp=>(p.1,acV p.2)) (.map []))->(Gb 144 (.map (ae b)) (.string ⟨c.1.toArray⟩) ar).run aF W=.ok (.tuple #[.agg #[.string ⟨ks.toArray⟩,.func (.func n) #[] #[]],.bool ar]) W:=ac
   clear hac m1 m2
   obtain⟨name,text,found⟩:=c
   by_cases hln:ws.length=ks.length+1
   rotate_left
   ·rw[aO hln]at hR
    cases hR
    have hln2:¬(ws.length:Int)-1=ks.length:=by omega
    go_enter I8,Nk
    go_wp2_with (fail)
    go_at_call 72
    refine cc.mono ?_
    rintro e w1 ⟨rfl,L1⟩
    go_wp2_with (fail)
    go_at_call 73
    refine(Ku _).mono ?_
    rintro e w2 ⟨b,n2,rfl,hown,L2⟩
    replace L2:=L1.trans (L2.mono L1.size)
    replace tx:=tx hown
    clear hown
    go_wp2_with (fail)
    go_at_call 16
    refine(sp L2).mono ?_
    rintro e w3 ⟨ad,cp,rfl,L3,-⟩
    replace L3:=L2.trans (L3.mono L2.size)
    go_wp2_with (fail)
    go_at_call 74
    refine(Nw _).mono ?_
    rintro e w4 ⟨b,n2,rfl,hown,L4⟩
    replace L4:=L3.trans (L4.mono L3.size)
    replace ac:=ac hown
    clear hown sp
    go_wp2_with (fail)
    go_ret3
    have L5:=L4.alloc L4.size (.cells #[.string ⟨ks.toArray⟩,.func (.func n) #[] #[]] 142)
    exact⟨_,K,bs,rfl,(Fm.refl _ _ _).lo L5,hB.lo L5,λb hb=>.inl hb,.No ai 0 1⟩
   ·rw[aJ hln]at hR
    obtain⟨rr,hrr,hR2⟩:=ak.1 hR
    clear hR
    rename _=>hR
    obtain⟨w0,wt,rfl⟩:∃w0 wt,ws=w0::wt:=by cases ws with|nil=>exact absurd hln (by simp)|cons a b=>exact⟨_,_,rfl⟩
    have hwt:wt.length=ks.length:=by simpa using hln
    have hln2:((w0::wt).length:Int)-1=ks.length:=by omega
    have hrr:rdL F.rd ks wt ([],[],0,[],())=ae rr:=hrr
    clear hln
    go_enter I8,Nk
    go_wp2_with (fail)
    go_at_call 72
    refine cc.mono ?_
    rintro e w1 ⟨rfl,L1⟩
    go_wp2_with (fail)
    go_at_call 73
    refine(Ku _).mono ?_
    rintro e w2 ⟨b,n2,rfl,hown,L2⟩
    replace L2:=L1.trans (L2.mono L1.size)
    replace tx:=tx hown
    clear hown
    go_wp2_with (fail)
    go_at_call 16
    refine(sp L2).mono ?_
    rintro e w3 ⟨ad,cp,rfl,L3,h3⟩
    obtain⟨wb,wo,rfl,hb1,hb2,hcp,hcw⟩:=h3.resolve_left (by simp)
    clear h3 sp cc
    replace L3:=L2.trans (L3.mono L2.size)
    have hsz2:=L2.size
    go_wp2_with (fail)
    go_at_call 74
    refine(Nw _).mono ?_
    rintro e w4 ⟨b4,n4,rfl,hown,L4⟩
    have hcw:=hcw
    have hcw:cH w4 wb wo ((w0::wt).map akE):=hcw.of_block (L4.block wb hb2)
    have hb4:wb<w4.heap.size:=bU hb2 L4.size
    replace L4:=L3.trans (L4.mono L3.size)
    replace ac:=ac hown
    clear hown
    obtain⟨W5,hW5⟩:∃W5,W5=(w4.alloc (.cells #[.string ⟨ks.toArray⟩,.func (.func n) #[] #[]] 142)).alloc (.cells #[.slice ai 0 0,.slice ai 0 0,.int .i64 0,.string ⟨#[]⟩] 147):=⟨_,rfl⟩
    have hs5:W5.heap.size=w4.heap.size+2:=by rw[hW5];simp
    have L5:Lo w.heap.size w W5:=by rw[hW5];exact(L4.alloc L4.size _).alloc (by simp;have:=L4.size;omega) _
    have hbx0:Bx aF φ qW ([],[],0,[],()) (.pointer (ae ⟨w4.heap.size+1,0,ai⟩)) [w4.heap.size+1] K W5:=by have h:=Bx.D4 (P:=aF) (φ:=φ) (w:=w4.alloc (.cells #[.string ⟨ks.toArray⟩,.func (.func n) #[] #[]] 142)) (w2:=W5) (K:=K) (t:=147) (λb hb=>by have:=hB.kz b hb;have:=L4.size;simp;omega) (hB.gl.on (λb hb=>hb) λb hb=>(L4.alloc L4.size _).block b (hB.kz b hb)) hW5;simp only[Rm,Array.size_push]at h;exact h
    have ha0:W5.heap[w4.heap.size]? =ae (.cells #[.string ⟨ks.toArray⟩,.func (.func n) #[] #[]] 142):=by rw[hW5,wi _ _ (by simp),TH _ _ rfl]
    have hcw5:cH W5 wb wo ((w0::wt).map akE):=hcw.of_block (by rw[hW5,wi _ _ (by simp;omega),wi _ _ hb4])
    have hcp2:ks.length+1<=cp:=by rw[bh,hwt]at hcp;exact hcp
    have hkl:ks.length<4611686018427387904:=by rw[bh,hwt]at hwl;omega
    go_wp2_with (fail)
    all_goals rw[<-hW5]
    all_goals clear hcw L1 L2 L3 tx ac hcp hwl
    all_goals(
     go_loopw [70] (λs70 wr=>∃(kk:Nat) (a:qW.ty) (K':Nat->Prop) (bs':List Nat),kk<=ks.length/\s70=.int .i64 kk/\Lo (w4.heap.size+1) W5 wr/\Bx aF φ qW a (.pointer (ae ⟨w4.heap.size+1,0,ai⟩)) bs' K' wr/\(∀b∈bs',w4.heap.size+1<=b)/\(∀b,K' b->K b\/w4.heap.size+1<=b)/\(∀b,K b->K' b)/\Hid (rdL F.rd (ks.drop kk) (wt.drop kk) a=ae rr))
      (λs70 _=>ks.length-(intOf s70).toNat)
     case atStart=>exact⟨0,_,K,_,iW _,rfl,Lo.refl _ _,hbx0,λb hb=>by have:=aX.1 hb;omega,λb hb=>.inl hb,λb hb=>hb,hrr⟩
     case round=>
      obtain⟨kk,a,K',bs',hkk,rfl,L6,hbx,hbs,hKd,hKu,hH⟩:=hrel
      have hcl:wr.heap[w4.heap.size]? =ae (.cells #[.string ⟨ks.toArray⟩,.func (.func n) #[] #[]] 142):=(L6.block _ (by omega)).trans ha0
      have hcw6:cH wr wb wo ((w0::wt).map akE):=hcw5.of_block (L6.block wb (by omega))
      have c0:wr.cell? ⟨w4.heap.size,0,ai⟩=ae (.string ⟨ks.toArray⟩):=by simp only[df,hcl];rfl
      have c1:wr.cell? ⟨w4.heap.size,1,ai⟩=ae (.func (.func n) #[] #[]):=by simp only[df,hcl];rfl
      by_cases hlt:kk<ks.length
      ·have hcp1:¬cp=1:=by omega
       try(exact absurd (by assumption) hcp1)
       all_goals(
        have hltz:(kk:Int)<(ks.length:Int):=by omega
        have hlt2:kk<wt.length:=by omega
        have hH:=hH.out
        rw[bf hlt,bf hlt2]at hH
        simp only[rdL]at hH
        obtain⟨q,hq,hH2⟩:=ak.1 hH
        clear hH
        have hcr:=hbx.read (hrd _ _ _ _ hq)
        rw[fr]at hcr
        have hwc:wr.cell? ⟨wb,wo+1+kk,ai⟩=ae (.string ⟨wt[kk].toArray⟩):=by have:=hcw6 (kk+1) (akE wt[kk]) (by rw[aP,ct,bX,ay hlt2];rfl);rw[Nat.add_comm kk 1,<-gS]at this;exact this
        generalize wt[kk]=word at hcr hwc
        clear hq
        obtain⟨qb,qa⟩:=q
        cases qb with
        |false=>
         rw[aO ao3]at hH2
         cases hH2
         cases hR
         go_wp2_with (fail)
         go_at_call 75
         refine hcr.mono ?_
         rintro e w6 ⟨K6,bs6,rfl,F6,B6,hb6⟩
         go_wp2_with (fail)
         go_ret3
         have L7:=L5.trans ((L6.trans (F6.axB hbs (by have:=L6.size;omega))).mono (by have:=L4.size;omega))
         exact⟨_,K,bs,rfl,(Fm.refl _ _ _).lo L7,hB.lo L7,λb hb=>.inl hb,.No ai 0 1⟩
        |true=>
         rw[aJ rfl]at hH2
         go_wp2_with (fail)
         go_at_call 75
         refine hcr.mono ?_
         rintro e w6 ⟨K6,bs6,rfl,F6,B6,hb6⟩
         go_wp2_with (fail)
         have hs6:=L6.size
         exact⟨⟨kk+1,qa,K6,bs6,hlt,rfl,L6.trans (F6.axB hbs (by omega)),B6,λb hb=>(hb6 b hb).elim (hbs b) λh=>by omega,λb hb=>(F6.dn b hb).elim (hKd b) λh=>h.elim (λh=>.inr (hbs b h)) λh=>.inr (by omega),λb hb=>F6.up b (hKu b hb),hH2⟩,by simp only[intOf];omega⟩)
      ·have hke:kk=ks.length:=by omega
       subst hke
       have hH:=hH.out
       rw[ave,<-hwt,ave]at hH
       cases hH
       obtain⟨q,hq,hR2⟩:=ak.1 hR
       cases hR2
       have en:jR aF n:=by obtain⟨g,rfl,en,-⟩:=hf;exact en
       have eg:=λargs w=>LP (w:=w) en args
       have L7:=L5.trans (L6.mono (by have:=L4.size;omega))
       have hs4:=L4.size
       obtain⟨u0,u1,u2,u3,d0,d1,d2,d3,hrep⟩:=hbx.axZ
       have hge:∀b,(K' b\/b∈bs')->K b\/w4.heap.size+1<=b:=λb hb=>hb.elim (hKd b) λh=>.inr (hbs b h)
       have hBw:=(hB.lo L7).wide (K':=λb=>K' b\/b∈bs') (λb hb=>.inl (hKu b hb)) λb hb=>⟨hb.elim (hbx.kz b) λh=>(hbx.ge b h).2,λhm=>(hge b hb).elim (λh=>(hB.ge b hm).1 h) λh=>by have:=(hB.ge b hm).2;omega⟩
       have hct:=hBw.act hrep hf hq
       have F7:Fm w K bs wr λb=>K' b\/b∈bs':=((Fm.refl w K bs).lo L7).ar6 (λb hb=>.inl (hKu b hb)) λb hb=>(hge b hb).imp id λh=>by omega
       have hsw:=L7.size
       have hnlt:¬(ks.length:Int)<(ks.length:Int):=by omega
       clear hBw hrep hB hbx hrd hH
       go_wp2_with (fail)
       go_at_fn n
       refine hct.mono ?_
       rintro e w7 ⟨vl,K7,bs7,rfl,F8,B7,hb7,R7⟩
       go_wp2_with (fail)
       go_ret3
       exact⟨_,K7,bs7,rfl,F7.trans F8 λb hb=>.inl hb,B7,λb hb=>(hb7 b hb).imp id λh=>by omega,R7⟩)
 ·rw[l1]at hR
  simp only at hR
  rw[l2]at tx
  have tx:∀{W:World} {b m:Nat},W.ownsMap aF 9 NF b m (Fg (alz.map λp=>(p.1,fnV p.2)) (.map []))->(Gb 137 (.map (ae b)) (.string ⟨c.1.toArray⟩) ar).run aF W=.ok (.tuple #[.func (.func n) #[] #[],.bool ar]) W:=tx
  clear l1 l2 ac htx hac hrd hs hkey hlen
  obtain⟨name,text,found⟩:=c
  cases found with
  |false=>
   rw[aO ao3]at hR
   cases hR
   go_enter I8,Nk
   go_wp2_with (fail)
   go_at_call 72
   refine cc.mono ?_
   rintro e w1 ⟨rfl,L1⟩
   go_wp2_with (fail)
   go_at_call 73
   refine(Ku _).mono ?_
   rintro e w2 ⟨b,n2,rfl,hown,L2⟩
   replace L2:=L1.trans (L2.mono L1.size)
   replace tx:=tx hown
   clear hown
   go_wp2_with (fail)
   go_ret3
   exact⟨_,K,bs,rfl,(Fm.refl _ _ _).lo L2,hB.lo L2,λb hb=>.inl hb,.No ai 0 1⟩
  |true=>
   rw[aJ rfl]at hR
   obtain⟨q,hq,hR⟩:=ak.1 hR
   cases hR
   have en:jR aF n:=by obtain⟨g,rfl,en,-⟩:=hf;exact en
   have eg:=λargs w=>LP (w:=w) en args
   go_enter I8,Nk
   go_wp2_with (fail)
   go_at_call 72
   refine cc.mono ?_
   rintro e w1 ⟨rfl,L1⟩
   go_wp2_with (fail)
   go_at_call 73
   refine(Ku _).mono ?_
   rintro e w2 ⟨b,n2,rfl,hown,L2⟩
   replace L2:=L1.trans (L2.mono L1.size)
   replace tx:=tx hown
   clear hown
   have hct:=(hB.lo L2).text hf hq
   go_wp2_with (fail)
   go_at_fn n
   refine hct.mono ?_
   rintro e w3 ⟨K3,bs3,rfl,F3,B3,hbs⟩
   replace F3:=((Fm.refl w K bs).lo L2).trans F3 λb hb=>.inl hb
   go_wp2_with (fail)
   go_ret3
   obtain⟨K4,F4,B4,R4⟩:=F3.line B3 rfl
   exact⟨_,K4,bs3,rfl,F4,B4,λb hb=>(hbs b hb).imp id λh=>dZ L2.size h,R4⟩⟩
end
def OF:r6 aF M8 839 u9:=axe (F:=dt) (gc:=523) (gs:=683) (gr:=1007) asP (by kernel_rfl) (asK ON) (aoA l6) (aq4 LA)
 (.cons _ _ _ _ _ (ahs Za (by kernel_rfl)) (.cons _ _ _ _ _ (ahs Zb (by kernel_rfl)) (.cons _ _ _ _ _ (ahs Zc (by kernel_rfl)) (.cons _ _ _ _ _ (ahs Zd (by kernel_rfl)) (.cons _ _ _ _ _ (ahs Ze (by kernel_rfl)) (.cons _ _ _ _ _ (ahs Zf (by kernel_rfl)) (.cons _ _ _ _ _ (ahs Zg (by kernel_rfl)) (.cons _ _ _ _ _ (ahs Zh (by kernel_rfl)) (.cons _ _ _ _ _ (ahs Zi (by kernel_rfl)) .nil)))))))))
 (.cons _ _ _ _ _ ⟨rfl,xI WA (by kernel_rfl)⟩ (.cons _ _ _ _ _ ⟨rfl,xI Wz (by kernel_rfl)⟩ (.cons _ _ _ _ _ ⟨rfl,aut Uw (by kernel_rfl)⟩ (.cons _ _ _ _ _ ⟨rfl,xI Ur (by kernel_rfl)⟩ (.cons _ _ _ _ _ ⟨rfl,xI Uu (by kernel_rfl)⟩ (.cons _ _ _ _ _ ⟨rfl,xI WB (by kernel_rfl)⟩ (.cons _ _ _ _ _ ⟨rfl,xI Ut (by kernel_rfl)⟩ (.cons _ _ _ _ _ ⟨rfl,xI Up (by kernel_rfl)⟩ (.cons _ _ _ _ _ ⟨rfl,xI Us (by kernel_rfl)⟩ (.cons _ _ _ _ _ ⟨rfl,xI Ux (by kernel_rfl)⟩ (.cons _ _ _ _ _ ⟨rfl,xI OE (by kernel_rfl)⟩ (.cons _ _ _ _ _ ⟨rfl,xI Se (by kernel_rfl)⟩ (.cons _ _ _ _ _ ⟨rfl,aut Sd (by kernel_rfl)⟩ (.cons _ _ _ _ _ ⟨rfl,xI Qs (by kernel_rfl)⟩ (.cons _ _ _ _ _ ⟨rfl,xI Uv (by kernel_rfl)⟩ (.cons _ _ _ _ _ ⟨rfl,xI Uq (by kernel_rfl)⟩ .nil))))))))))))))))
def Wy:=rk BX (kk UH zz)
def adY:=rk Dj zz
def C0:=rk pH (kk gh<|kk Hr<|kk adY<|kk WM<|kk Wy<|kk OF zz)
def Sj:=rk rT zz
def Y5:=rk sG (kk gh<|kk ML<|kk C0<|kk l6<|kk Sj zz)
def WS:=rk Co zz
def WR:=rk Cn zz
def kY:=rk gO (kk WS<|kk WR zz)
def dQ:=rk dP zz
def WT:=rk Cq (kk dQ zz)
def WU:=rk Cr (kk dQ zz)
def ab1:=rk IL (kk dQ zz)
def ab3:=rk IN (kk kY<|kk WT<|kk WU<|kk ab1 zz)
def ad1:=rk Dq (kk ab3 zz)
def Zr:=rk Fw (kk dQ zz)
def ab4:=rk IP (kk kY<|kk Zr zz)
def ad2:=rk Ds (kk ab4 zz)
def WV:=rk Ct (kk dQ zz)
def ad3:=rk uK (kk WV zz)
def Zu:=rk FB (kk dQ zz)
def ad4:=rk LZ (kk dQ<|kk Zu zz)
def Zw:=rk FD (kk dQ zz)
def ab5:=rk IQ (kk dQ<|kk kY<|kk Zw zz)
def ad5:=rk Dv (kk ab5 zz)
def WW:=rk Cx (kk dQ zz)
def Zy:=rk FF (kk dQ zz)
def ab6:=rk IT (kk dQ<|kk kY<|kk WW<|kk Zy zz)
def ad6:=rk Dx (kk ab6 zz)
def ZB:=rk FI (kk dQ zz)
def ab7:=rk IU (kk dQ<|kk kY<|kk ZB zz)
def ad7:=rk Dz (kk ab7 zz)
def ZC:=rk FJ (kk dQ zz)
def ab8:=rk IV (kk dQ zz)
def ab9:=rk IW (kk kY<|kk ZC<|kk ab8 zz)
def ad8:=rk DB (kk ab9 zz)
def ZF:=rk FN (kk dQ zz)
def aca:=rk IX (kk dQ<|kk kY<|kk ZF zz)
def ad9:=rk DD (kk aca zz)
def aea:=rk Mc (kk ad6<|kk ad4<|kk ad7<|kk ad5<|kk ad9<|kk ad3<|kk ad8<|kk ad1<|kk ad2 zz)
def UL:=rk AA (kk aea zz)
def IE:=rk kH zz
def LF:=rk mQ zz
def C4:=rk mw zz
def gT:=rk b8 (kk C4 zz)
def LC:=rk mO zz
def LD:=rk mP zz
def J9:=rk lG zz
def Ka:=rk lK zz
def ID:=rk kG zz
def WI:=rk Cf (kk IE<|kk LF<|kk C4<|kk LC<|kk LD<|kk J9<|kk Ka<|kk ID<|kk gT zz)
def UK:=rk gb (kk Zl<|kk ML<|kk WI<|kk UL<|kk C0<|kk Y5<|kk QB zz)
def law:∀x,wfU gb.c.ps x->∃y,gb.c.f x=ae y/\M9 gb.c y=([A.bool ar],[]):=λx hx=>⟨ar,(laws_FnConsole_true x.1 hx.1),rfl⟩
def own:ownKnob aF.godebug=ai:=by kernel_rfl
def laid:laidOutB aF=ar:=by kernel_rfl
def reads:∀t∈iM.params.toList,aF.readableRec t=ar/\t<aF.types.size:=by
 have h:(iM.params.toList.all λt=>aF.readableRec t&&ah (t<aF.types.size))=ar:=by kernel_rfl
 intro t ht;have:=aG.1 h t ht;simpa only[aj,ax]using this
def atE(H:Type):∀(ds:List (DataW H)),ds.length=iM.params.toList.length->dA.fn H ds={results:=[.lit (.bool ar)],args:=ds}:=by intro ds hd;have hd:ds.length=1:=hd;match ds,hd with| [d0],_=>rfl
def tab(W:World)(hL:laidMetH aF bp.laid W):∀i,aF.globalNamed uE=ae i->Lib.TabIs aF W uE .u64 apo:=by
 intro i hi;have hp:(bp.laid.all λx=>x.2.handleName?.isNone)=ar:=by kernel_rfl
 rw[DK _ _ _ hp]at hL;have h1:laidMet aF (("internal/strconv.uint64pow10",QQ):: [("unicode/utf8.acceptRanges",Rows.laid_unicode_utf8_acceptRanges),("strconv.ErrRange",aeN),("strconv.ErrSyntax",F5),("unicode/utf8.first",DM)]) W:=(laidMet.tail (laidMet.tail hL));have e:(QQ:DataW Unit)=Lib.tabData .u64 apo:=by kernel_rfl
 rw[e]at h1;exact Lib.tabIs_of_head (t:=406) (e:=85) (n:=20) hi (by obtain rfl:=cq ((show aF.globalNamed uE=ae 5 by kernel_rfl).symm.trans hi);kernel_rfl) (by kernel_rfl) (by kernel_rfl) (by kernel_rfl) (by kernel_rfl) h1
def ax2(W:World)(hL:laidMetH aF bp.laid W):∀n,TE.contains n=ar->∀i,aF.globalNamed n=ae i->∃u v,W.var? aF n=ae #[.iface u v]:=by
 intro n hn i hi;have hn:n= "strconv.ErrSyntax" ∨n= "strconv.ErrRange" :=by simpa[TE]using hn
 have hp:(bp.laid.all λx=>x.2.handleName?.isNone)=ar:=by kernel_rfl
 rw[DK _ _ _ hp]at hL;rcases hn with rfl|rfl
 ·have h1:laidMet aF (("strconv.ErrSyntax",F5):: [("unicode/utf8.first",DM)]) W:=(laidMet.tail (laidMet.tail (laidMet.tail (laidMet.tail (laidMet.tail hL)))));exact abw (ti:=255) h1 ⟨_,_,rfl⟩ hi (by obtain rfl:=cq ((show aF.globalNamed "strconv.ErrSyntax" =ae 3 by kernel_rfl).symm.trans hi);kernel_rfl) xv
 ·have h1:laidMet aF (("strconv.ErrRange",aeN):: [("strconv.ErrSyntax",F5),("unicode/utf8.first",DM)]) W:=(laidMet.tail (laidMet.tail (laidMet.tail (laidMet.tail hL))));exact abw (ti:=255) h1 ⟨_,_,rfl⟩ hi (by obtain rfl:=cq ((show aF.globalNamed "strconv.ErrRange" =ae 4 by kernel_rfl).symm.trans hi);kernel_rfl) xv
def aaT(H:Type)(enc:TypeId×Value->H)(W:World)(base:Nat)(args:Array Value)(ds gs:List (DataW H))(before:List MemPlace)
 (hval:∀(j:Nat) t v,iM.params[j]? =ae t->args[j]? =ae v->zV aF W .any base t v)
 (hW:anj enc aF iM.params.toList dA.vars aw W args.toList ds gs before) (hL:laidMetH aF bp.laid W) (hsh:W.ShapedOpen aF):
 Calls aF 3 args W λe W'=>∃v,e=.returned v/\dA.post enc aF iM aw ar aw aw W args v W':=
 ahc (φ:=M8) (g:=1337) (n:=20) UK rfl rfl (tb:=4) j5 (by kernel_rfl) rfl law laid reads atE W base args ds gs before hval hW (I6.start hsh (tab W hL) (ax2 W hL))
def lifted(os:Os)(started:os.Started)(H:Type)(enc:TypeId×Value->H): ReturnsInHanded {} aeJ os 3 .any (λw args=>(dA.pre enc aF iM bp.domain aw w args/\laidMetH aF bp.laid w)/\sizedMet enc aF iM (PT dA) aw w args) (dA.post enc aF iM aw ar aw aw):=by
 refine OR (C:=aeJ) (laid:=bp.laid) own started (by kernel_rfl) Tryz.func3
  (ChangeSpec.witness_shaped (enc:=enc) (C:=aeJ) (os:=os) (X:=λw _=>laidMetH aF bp.laid w) aw (World.laidAll aF os bp.laid) #[.slice ai 0 0] 12 (World.laidAll_os _ _ _)
    (World.shaped_of_ZipB (by kernel_rfl) (by kernel_rfl)) (by kernel_rfl) (by kernel_rfl) (by kernel_rfl)
    (by rw[DK _ _ _ (by kernel_rfl)];exact laidMet_laidAll _ (by kernel_rfl) (by kernel_rfl))) ?_
 intro W base args ds gs before hval hW hL hsh;exact aaT H enc W base args ds gs before hval hW hL hsh
end Go.Proofs.YtohijocnlnmlpaaGreatDoor.fnConsole
