/- The law FnExactRunDesk answers true for every input, whatever it is, and leaves its arguments as they were. Conditions: none. -/
import Derived.Test.YtoifpbonojhjfaaGreatDoorG3
import Derived.Shelf.Strconv.Itoa4
import Derived.Shelf.Strings.Prefix
import Derived.Shelf.Small.Wraps
import Derived.Shelf.Small.Strs
import Derived.Shelf.Strings.Shaped
import Derived.Shelf.Strings.SplitShaped
import Derived.Shelf.Strings.Repeat
import Derived.Shelf.Strings.OnBuilder
import Derived.Shelf.Strconv.ParseIntPublic10
import Derived.WalkSmall
import Derived.Lib.SmallJoins
import Derived.Shelf.LaysM
import Derived.Shelf.LaysC
import Derived.Shelf.Slices.In.SortNone
import Derived.Test.YtoifpbonojhjfaaGreatDoorProg
import Derived.Test.YtoifpbonojhjfaaGreatDoorGQ
import Derived.Test.YtoifpbonojhjfaaGreatDoorRows
import Derived.Test.YtoifpbonojhjfaaGreatDoorG4
import Derived.Carry
import Derived.Deep.RegionHeld3
import Derived.Deep.RegionLaw
import Derived.Shelf.RegionOpenPlain
import Derived.Shelf.Spec.SlicesInsert
import Derived.StillTailTactics
import Derived.Laws.IdiomStrings
import Derived.LoopTactic
import Derived.Deep.QuietTactic
import Derived.BigQuiet
import Derived.DeepKeys4
import Derived.Maps.Own
import Derived.Maps.OwnSet
import Derived.Maps.RangeWalk
import Derived.Maps.AppendAt
import Derived.Sort.KeysCollected
import Derived.Sort.OwnSorted
import Derived.OwnWalk
import Derived.Shelf.Abstract
import Derived.Laws.EntriesVeiled
import Derived.Sort.EveryDepth
import Derived.Shelf.Slices.In.SortAlone
import Derived.Test.YtoifpbonojhjfaaGreatDoorCards
import Derived.Test.YtoifpbonojhjfaaGreatDoorTie
import Derived.LaidMore
import Derived.Lay
import Derived.SevenTiedAt
import Derived.Stop.Joined
import Derived.WalkKit
import Derived.ProofKit
import Derived.OpenShut
import Derived.JoinedOf
import Derived.Handed
set_option linter.unusedVariables false
set_option linter.unusedSimpArgs false
set_option maxRecDepth 100000
set_option linter.defProp false
open Array renaming getElem?_eq_none->qd,getElem?_eq_some_iff->RA,getElem?_push_size->DC,getElem?_toList->rL,length_toList->ai4
open Bool renaming and_eq_false_iff->awU,and_eq_true->az,and_eq_true_iff->rM,false->aA,false_eq_true->ar,false_ne_true->DA,true->aB,true_eq_false->afM
open Decidable renaming decide->ao
open Go renaming Act->alk,Addr->afQ,Calls->fF,DataW->FI,IntKind->aLN,MemPlace->Ik,Oper->Zp,Operand->ej,Program->bV,TypeId->bO,Value->aL,World->aU,execOp->gS,row_ne_iter->atM,size_zeroCells->aDd,wpList->aw1,wpList_append_own->aMx,wpList_next_ranges->aJ6
open Go.Act renaming eval->aa8,put->aCq
open Go.Builtin renaming append_->fH,clear_->aCZ,zeroCells->cG
open Go.Calls renaming quiet_of_same->ayZ
open Go.Collected renaming start->ay0
open Go.DataW renaming Whole->aAr
open Go.Instr renaming lookup->Ou
open Go.IntKind renaming i64->ak,wrap->aj,wrap_i64->Gr
open Go.Lib renaming count->WI,countB->DE,cut->TA,itoa->bT,join->jT,pow10Tab->aC2,repeatL->arR,size_eq->Tw,splitK->Aw,toList_data->aIK,trimPrefix->iY,wpList_append_run->Ru
open Go.MakeChecks renaming laidMetH_plain->Lv
open Go.Maps renaming keyOf_str->aan,size->at1
open Go.OpenSpec renaming ofChange->Zo
open Go.Oper renaming wp->Jf
open Go.Proofs renaming cell_of_shapedOpen_int->aba
open Go.Proofs.Any renaming strconv_FormatInt_10->at2
open Go.Proofs.Builder renaming Extra->aao
open Go.Proofs.Lays renaming n101->aLP,n105->aAu,n156->aAv,n190->aLQ
open Go.Proofs.LaysC renaming n174->awY
open Go.Proofs.LaysM renaming n145->awZ,n146->aw0,n173->alP
open Go.Proofs.Tryz renaming checked->aqb,f3->j9,func130->aLR,func134->awC,func189->Wt,func20->RC,func215->aLS,func221->aLT,func231->aLU,func234->aLV,func235->aLW,func236->aLX,func237->aLY,func249->Wu,func251->Wv,func252->Ww,func253->Wx,func254->Wy,func255->Wz,func257->WA,func278->aLZ,func292->awD,func293->aL0,func297->aL1,func298->aL2,func339->WB,func342->aL3,func354->aL4,func370->aL5,func371->aL6,func372->aL7,func376->aL8,func386->aL9,func392->aMa,func401->aMb,func402->aMc,func403->aMd,func425->awE,func431->aMe,func432->aMf,func433->aMg,func434->aMh,func435->aMi,func436->aMj,func453->aMk,func454->aMl,func455->aMm,func456->aMn,func461->aMo,func462->aMp,isAgg0->RD,isAgg20->aie,isAgg21->aMq,isAgg230->acR,isAgg25->awF,isAgg259->Ji,isAgg274->atE,isAgg288->Jj,isAgg289->atF,isAgg3->DF,isAgg335->aJN,isAgg337->aJO,isAgg339->aJP,isAgg357->acS,isAgg372->atG,isAgg4->DG,isAgg400->aJQ,isAgg402->aJR,isAgg404->aJS,isAgg423->aJT,isAgg424->aJU,isAgg431->aJV,isAgg432->aJW,isAgg5->DH,isAgg9->DI,ntmps134->atH,ntmps189->acT,ntmps20->WC,ntmps215->aJX,ntmps249->acU,ntmps251->acW,ntmps252->acX,ntmps253->acY,ntmps254->acZ,ntmps255->ac0,ntmps257->ac1,ntmps292->atI,ntmps293->aJY,ntmps339->ac2,ntmps354->aJZ,ntmps376->aJ0,ntmps403->aJ1,ntmps69->aMr,ntmps70->aMs,prog->aO,sizeOf0->Ol,sizeOf2->aMt,sizeOf20->ac3,sizeOf21->aJ2,sizeOf230->aap,sizeOf25->atJ,sizeOf259->FJ,sizeOf274->aqc,sizeOf288->FK,sizeOf289->aqd,sizeOf3->AM,sizeOf335->aIM,sizeOf337->aIN,sizeOf339->aIO,sizeOf357->aaq,sizeOf372->aqe,sizeOf4->AN,sizeOf400->aIP,sizeOf402->aIQ,sizeOf404->aIR,sizeOf423->aIS,sizeOf424->aIT,sizeOf431->aIU,sizeOf432->aIV,sizeOf5->AO,sizeOf9->AP,underlying0->AQ,underlying129->OJ,underlying136->OK,underlying2->aGj,underlying20->RE,underlying21->aC3,underlying230->OL,underlying25->FL,underlying259->we,underlying274->DB,underlying288->wg,underlying289->afN,underlying29->aif,underlying3->er,underlying335->aCt,underlying337->aCu,underlying339->aCv,underlying357->OM,underlying36->aih,underlying372->afO,underlying4->mA,underlying400->aCw,underlying402->aCx,underlying404->aCy,underlying423->aCz,underlying424->aCA,underlying431->aCB,underlying432->aCC,underlying5->pB,underlying9->ee,zeroValue0->Dw,zeroValue2->aGK,zeroValue20->U6,zeroValue21->aGk,zeroValue230->RF,zeroValue25->aln,zeroValue259->xy,zeroValue274->aii,zeroValue288->xz,zeroValue289->aij,zeroValue3->qR,zeroValue335->aC4,zeroValue337->aC5,zeroValue339->aC6,zeroValue357->RG,zeroValue372->aik,zeroValue4->qS,zeroValue400->aC7,zeroValue402->aC8,zeroValue404->aC9,zeroValue423->aDa,zeroValue431->aDb,zeroValue432->aDc,zeroValue5->qT,zeroValue9->qU
open Go.Proofs.YtoifpbonojhjfaaGreatDoor.Rows renaming fnExactRunDeskRow->bD,fnExactRunDeskSpec->dj,laid_internal_strconv_uint64pow10->aar,laid_strconv_ErrRange->aqf,laid_strconv_ErrSyntax->Om,laid_unicode_utf8_first->Lw
open Go.Region renaming wanted->acI
open Go.Result renaming andThen->aGl,andThen_ok->cZ
open Go.RowKit renaming run_makeMap->atL
open Go.RowKit.Below renaming refl->DJ
open Go.Sem renaming run_bind->eP,run_pure->mg
open Go.Shelf renaming Ren->xo
open Go.Sort renaming grow->arS
open Go.Value renaming agg->vt,iface->aMu,int->fq,okWide->Gt,oneCell'->aGO,ownBlock->Zq,slice->U7,string->AT
open Go.World renaming alloc->abb,cell? ->b9,drewN->aMv,frozen? ->yT,ownsMap_made->Ov,var?_cell->aGm
open Int renaming le_refl->gX,toNat_natCast->aH,toNat_of_nonneg->ai7
open List renaming all_eq_true->bz,append_assoc->df,append_nil->cD,drop_eq_getElem_cons->ba,drop_length->ac4,flatMap_cons->cr,getElem?_cons_succ->bp,getElem?_eq_getElem->aE,getElem?_map->cC,getElem?_take->sq,length->ae,length_append->bg,length_cons->bl,length_drop->dR,length_eq_zero_iff->fJ,length_map->bf,length_pos_iff->U9,map_congr_left->kx,map_cons->aY,map_map->Ax,map_nil->gJ,mem_cons->bP,mem_map->dF,mem_of_getElem? ->cq,mem_of_mem_drop->dk,mem_singleton->aT,replicate->bK,take_length->bc
open Nat renaming add_assoc->jS,le_refl->bx,le_trans->dQ,lt_irrefl->xB,lt_of_lt_of_le->bX,lt_or_ge->bL,mul_one->atN,not_lt_zero->yV,sub_self->Qu,zero_add->dL,zero_le->jJ
open Option renaming bind_eq_some_iff->aI,bind_some->ag,map_eq_some_iff->aM,none->au,some->ai
open Option.some renaming inj->cA
open Prod.mk renaming injEq->bS
open _root_ renaming Array->kZ,Bool->aW,ByteArray->nD,False->JW,Int->aw,List->ah,Nat->ax,Option->aq,UInt8->ay,Unit->mW,absurd->bG,congrArg->wE
namespace Go.Ab
open Go.Shelf Go.RowKit Go.Sort Go.Lib Go.Proofs
def alV{w:aU}(k:ax)(os:kZ Obj):Below w.heap.size w (arS (w.drewN k) os) where
 os:=rfl
 tape:=rfl
 output:=rfl
 size:=by simp[arS,aMv]
 block b hb:=by simp only[arS,aMv];rw[Array.getElem?_append_left hb]
def asm{P:bV}{φ:ax->ax}{ρ:xo}{g:ax}(L:alP P ρ)(hg:∃i,P.globalNamed zH=ai i)(hφ:φ g=ρ.f 173):oQ P φ g amf:=by
 refine oQ.mK ⟨_,by rw[hφ];exact L.f173,fun h=>bG ((show(Body.n173 ρ).name= "strconv.FormatInt" from rfl).symm.trans h) (by decide),rfl⟩ rfl rfl fun x y hy0=> ?_;obtain⟨n,b,⟨⟩⟩:=x;have hy:(if ao (b=10)&&(ao (-9223372036854775808<=n)&&ao (n<=9223372036854775807))then ai (bT n)else au)=ai y:=hy0;split at hy
 .rename_i hc;obtain⟨c1,c2⟩:=rM.1 hc;obtain⟨c2,c3⟩:=rM.1 c2;obtain rfl:=dY c1;have h0:=dY c2;have h1:=dY c3;obtain rfl:=cA hy;show dx P φ g [A.int .i64 n,A.int .i64 10] [A.str (bT n)] [];have hn:([A.int .i64 n,A.int .i64 10]:ah A).any Ga=aA:=rfl;refine dx.XD hn λw K vs hr hK hG=> ?_;have hvs:vs=[.int .i64 n,.int .i64 10]:=by cases hr with|cons v _ vs _ h t=>cases h;cases t with|cons v _ vs _ h t=>cases h;cases t;rfl
  subst hvs;obtain⟨i,hi⟩:=hg;rw[hφ];refine(at2 L n h0 h1 w (hG.tab i hi).2).mono λe w' hh=> ?_;obtain⟨rfl,k,os,rfl⟩:=hh;exact⟨[_],rfl,alV k os,.cons _ _ _ _ (.str _) .nil⟩
 .cases hy
section
variable {P:bV} {φ:ax->ax} {ρ:xo} {g:ax}
def below_drewN{w:aU}(k:ax):Below w.heap.size w (w.drewN k):=⟨rfl,rfl,rfl,bx _,λ_ _=>rfl⟩
def are{w:aU}{K:ax->Prop}{vs:ah aL}{a b:ah ay}(h:dp φ w K vs [.str a,.str b]):vs=[.string ⟨a.toArray⟩,.string ⟨b.toArray⟩]:=by cases h with|cons v _ vs _ h t=>cases h;cases t with|cons v _ vs _ h t=>cases h;cases t;rfl
def as4{w:aU}{K:ax->Prop}{vs:ah aL}{a:ah ay}{k:aLN}{n:aw}(h:dp φ w K vs [.str a,.int k n]):vs=[.string ⟨a.toArray⟩,.int k n]:=by cases h with|cons v _ vs _ h t=>cases h;cases t with|cons v _ vs _ h t=>cases h;cases t;rfl
def aiI(hs:∀w:aU,w.ShapedOpen P->∃m,w.cell? ⟨ρ.g 1,0,au⟩=ai (.int .i64 m))(hg:ρ.g 1<P.globals.size){K:ax->Prop}{w:aU}(hG:Dv P K w): ∃m,w.cell? ⟨ρ.g 1,0,au⟩=ai (.int .i64 m):=by
 obtain⟨W,h1,h2⟩:=hG.sh;obtain⟨m,hm⟩:=hs W h1;have dE:ρ.g 1<W.heap.size:=by(rcases bL (ρ.g 1) W.heap.size with h|h);(·exact h);·simp[b9,qd h]at hm
 exact⟨m,(cell?_of_block (h2 _ hg dE).2 0).trans hm⟩
def aKl(L:awZ P ρ)(hg:ρ.g 1<P.globals.size)(hφ:φ g=ρ.f 145):oQ P φ g aDH:=by
 refine oQ.mK ⟨_,by rw[hφ];exact L.f145,fun h=>bG ((show(Body.n145 ρ).name= "strings.Cut" from rfl).symm.trans h) (by decide),rfl⟩ rfl rfl fun x y hy0=> ?_;obtain⟨a,b,⟨⟩⟩:=x;have hy:(if ao (ae (α:=ay) a<4294967281)then ai (TA a b)else au)=ai y:=hy0;split at hy;·rename_i hc;have hl:=dY hc;obtain rfl:=cA hy;show dx P φ g [A.str a,A.str b] [A.str (TA a b).1,A.str (TA a b).2.1,A.bool (TA a b).2.2] [];have hn:([A.str a,A.str b]:ah A).any Ga=aA:=rfl;refine dx.XD hn λw K vs hr hK hG=> ?_;rw[are hr,hφ];obtain⟨m,hm⟩:=aiI L.s1_3 hg hG;refine(Any.strings_Cut {L with} ⟨a.toArray⟩ ⟨b.toArray⟩ m w (by rw[Tw];exact hl) hm).mono λe w' hh=> ?_;obtain⟨rfl,k,rfl⟩:=hh;exact⟨[_,_,_],rfl,below_drewN k,.cons _ _ _ _ (.str _) (.cons _ _ _ _ (.str _) (.cons _ _ _ _ (.bool _) .nil))⟩
 .cases hy
def aBI(L:aAu P ρ)(X:aao P ρ)(hφ:φ g=ρ.f 105):oQ P φ g az1:=by
 refine oQ.mK ⟨_,by rw[hφ];exact L.f105,fun h=>bG ((show(Body.n105 ρ).name= "strings.Repeat" from rfl).symm.trans h) (by decide),rfl⟩ rfl rfl fun x y hy0=> ?_;obtain⟨a,n,⟨⟩⟩:=x;have hy:(if ao (0<=n)&&(ao (n<=9223372036854775807)&&ao (ae (α:=ay) a*n.toNat<=140737488355328))then ai (arR a n.toNat)else au)=ai y:=hy0;split at hy;·rename_i hc;obtain⟨c1,c2⟩:=rM.1 hc;obtain⟨c2,c3⟩:=rM.1 c2;have h0:(0:aw)<=n:=dY c1;have h1:(n:aw)<=9223372036854775807:=dY c2;have h2:=dY c3;obtain rfl:=cA hy;show dx P φ g [A.str a,A.int .i64 n] [A.str (arR a n.toNat)] [];have hn:([A.str a,A.int .i64 n]:ah A).any Ga=aA:=rfl;refine dx.XD hn λw K vs hr hK hG=> ?_;rw[as4 hr,hφ];obtain⟨c,rfl⟩:∃c:ax,n=(c:aw):=⟨n.toNat,(ai7 h0).symm⟩;rw[aH]at h2;refine(Any.strings_Repeat L X ⟨a.toArray⟩ c w (by have:=Int.ofNat_le.1 (show((c:ax):aw)<=((9223372036854775807:ax):aw)from h1);exact this) (by rw[Tw];exact h2)).mono λe w' hh=> ?_;obtain⟨rfl,hb⟩:=hh;exact⟨[_],rfl,hb,.cons _ _ _ _ (.str _) .nil⟩
 .cases hy
def arf{w:aU}{K:ax->Prop}:∀(xs:ah (ah ay)),dp φ w K (xs.map λs=>AT ⟨s.toArray⟩) (xs.map A.str) | []=>.nil |s::xs=>.cons _ _ _ _ (.str s) (arf xs)
def aqC(xs:ah (ah ay)):(xs.map A.str).flatMap A.cells=xs.map A.str:=by induction xs with|nil=>rfl|cons s xs ih=>rw[aY,cr,ih];rfl
def wc(L:aw0 P ρ)(hg:ρ.g 1<P.globals.size)(hφ:φ g=ρ.f 146):oQ P φ g aot:=by
 refine oQ.mK ⟨_,by rw[hφ];exact L.f146,fun h=>bG ((show(Body.n146 ρ).name= "strings.Split" from rfl).symm.trans h) (by decide),rfl⟩ rfl rfl fun x y hy0=> ?_;obtain⟨a,b,⟨⟩⟩:=x;have hy:(if ao (ae (α:=ay) a<4294967281)&&ao (1<=ae (α:=ay) b)then ai (Aw b 0 (WI a b) a)else au)=ai y:=hy0;split at hy
 .rename_i hc;obtain⟨c1,c2⟩:=rM.1 hc;have h0:=dY c1;have h1:=dY c2;obtain rfl:=cA hy;show dx P φ g [A.str a,A.str b] [A.tok 0 1 ((Aw b 0 (WI a b) a).map A.str)] [];have hn:([A.str a,A.str b]:ah A).any Ga=aA:=rfl;refine dx.A8 hn λw K vs hr hK hG=> ?_;rw[are hr,hφ];obtain⟨m,hm⟩:=aiI L.s1_3 hg hG;refine(Any.strings_Split {L with} L.i9 ⟨a.toArray⟩ ⟨b.toArray⟩ m w (by rw[Tw];exact h0) hm (by rw[Tw];exact h1)).mono λe w' hh=> ?_;obtain⟨rfl,hw⟩:=hh;have eJ:=Lib.splitB_all ⟨b.toArray⟩ (by rw[Tw];exact h1) 0 _ (⟨a.toArray⟩:nD) rfl;have hd:=Lib.splitB_data ⟨b.toArray⟩ 0 (DE ⟨a.toArray⟩ ⟨b.toArray⟩) (⟨a.toArray⟩:nD);have hd:(Lib.splitB ⟨b.toArray⟩ 0 (DE ⟨a.toArray⟩ ⟨b.toArray⟩) ⟨a.toArray⟩).map (λx:nD=>x.data.toList)=Aw b 0 (WI a b) a:=hd;generalize LD:Aw b 0 (WI a b) a=xs at hd⊢;generalize Lib.splitB ⟨b.toArray⟩ 0 (DE ⟨a.toArray⟩ ⟨b.toArray⟩) ⟨a.toArray⟩=bs at hd hw eJ;have hxl:ae xs=DE ⟨a.toArray⟩ ⟨b.toArray⟩+1:=by rw[<-hd,bf,eJ]
  have oz:bs.map AT=xs.map λs=>AT ⟨s.toArray⟩:=by rw[<-hd,Ax];exact kx λx _=>by simp
  have azx:w'.heap=w.heap.push (.cells (xs.map λs=>AT ⟨s.toArray⟩).toArray (ρ.t 9)):=by rw[hw,oz];rfl
  have aKG:w'.os=w.os/\w'.output=w.output:=by rw[hw];exact⟨rfl,rfl⟩
  have af8:=L9 azx aKG;have aOg:w'.tape=w.tape:=by rw[hw];rfl
  refine⟨[_],K,[w.heap.size],rfl,⟨aKG.1,aOg,aKG.2,af8.size,λk hk=>af8.same k hk⟩,λ_ h=>h,λb h=>.inl h,?_,by simp,λc hc=> ?_⟩
  ·(have Aq:(xs.map λs=>AT ⟨s.toArray⟩).toArray.size=ae xs:=by simp);have gM:=He (z:=1) azx;rw[Aq]at gM;have j7:=uw azx
   have ly:eL φ w' K (.slice (ai ⟨w.heap.size,0,au⟩) (ae (xs.map A.str)) (DE ⟨a.toArray⟩ ⟨b.toArray⟩+1)) 1 (xs.map A.str) (ai w.heap.size):=
    .mk w.heap.size 0 (DE ⟨a.toArray⟩ ⟨b.toArray⟩+1) 1 (xs.map A.str) (xs.map λs=>AT ⟨s.toArray⟩) (by simp[hxl]) (by omega) (λx hx=>by obtain⟨s,_,rfl⟩:=dF.1 hx;rfl)
     (by rw[aqC];exact arf xs) (by simpa using j7) (by rw[atN,dL,<-hxl];exact gM)
   (have hl2:ae (xs.map A.str)=DE ⟨a.toArray⟩ ⟨b.toArray⟩+1:=by simp[hxl]);rw[hl2]at ly;have au1:xD φ w' K (.slice (ai ⟨w.heap.size,0,au⟩) (DE ⟨a.toArray⟩ ⟨b.toArray⟩+1) (DE ⟨a.toArray⟩ ⟨b.toArray⟩+1)) (A.tok 0 1 (xs.map A.str)) [w.heap.size]:= .tok _ 0 1 _ (ai w.heap.size) ly;exact gz.cons _ _ [w.heap.size] _ _ [] au1 .nil
  .simp only[aT]at hc;subst hc;refine⟨λhk=>bG (hK _ hk) (xB _),?_,bx _⟩;rw[azx];simp
 .cases hy
def aHC(L:aAv P ρ)(X:aao P ρ)(hφ:φ g=ρ.f 156):oQ P φ g aJr:=by
 refine oQ.mK ⟨_,by rw[hφ];exact L.f156,fun h=>bG ((show(Body.n156 ρ).name= "strings.Join" from rfl).symm.trans h) (by decide),rfl⟩ rfl rfl fun x y hy0=> ?_;obtain⟨xs,b,⟨⟩⟩:=x;have hy:(if ao (ae (α:=ah ay) xs<=140737488355328)&&ao (ae (jT xs b)<=140737488355328)then ai (jT xs b)else au)=ai y:=hy0;split at hy;·rename_i hc;obtain⟨c1,c2⟩:=rM.1 hc;have h0:=dY c1;have h1:=dY c2;obtain rfl:=cA hy;show dx P φ g [A.sl 1 (xs.map A.str),A.str b] [A.str (jT xs b)] [];have hn:([A.sl 1 (xs.map A.str),A.str b]:ah A).any Ga=aA:=rfl;refine dx.XD hn λw K vs hr hK hG=> ?_;rw[hφ];cases hr with|cons v _ vs _ hv t=>cases t with|cons u _ us _ hu t=>cases t;cases hu;generalize OU:xs.map A.str=ys at hv;cases hv with|Rx ad cap z=>(have:xs=[]:=by cases xs with|nil=>rfl|cons=>simp at OU);subst this;refine(Any.strings_Join_none L X ad cap ⟨b.toArray⟩ w).mono λe w' hh=> ?_;obtain⟨rfl,rfl⟩:=hh;exact⟨[_],rfl,DJ _ _,.cons _ _ _ _ (.str _) .nil⟩|sl bk o cap z _ cs hb hz ajb h rW=>subst OU;rw[aqC]at h;(have oz:cs=xs.map λs=>AT ⟨s.toArray⟩:=by clear rW ajb hz h0 h1 c1 c2 hc hn hy hy0;induction xs generalizing cs with|nil=>cases h;rfl|cons s xs ih=>cases h with|cons v _ vs _ h t=>cases h;rw[ih _ t,aY]);subst oz;(have wi:((xs.map λs=>(⟨s.toArray⟩:nD)).map λx=>x.data.toList)=xs:=by(rw[Ax];conv=>rhs;rw[<-List.map_id xs]);exact kx λx _=>by simp);have hc:=Any.strings_Join L X bk o cap (xs.map λs=>(⟨s.toArray⟩:nD)) ⟨b.toArray⟩ w (λj x hx=>by rw[cC]at hx;obtain⟨s,hs,rfl⟩:=aM.1 hx;exact rW j _ (by rw[cC,hs];rfl)) (hK bk hb) (by simpa using h0) (by simpa using ajb) (by rw[wi];exact h1);rw[wi]at hc;(have hl:ae (xs.map A.str)=ae (xs.map λs=>(⟨s.toArray⟩:nD)):=by simp);rw[hl];refine hc.mono λe w' hh=> ?_;obtain⟨rfl,hbw⟩:=hh;exact⟨[_],rfl,hbw,.cons _ _ _ _ (.str _) .nil⟩
 .cases hy
def aBJ{w:aU}{K:ax->Prop}{vs:ah aL}{a:ah ay}(h:dp φ w K vs [.str a]):vs=[.string ⟨a.toArray⟩]:=by cases h with|cons v _ vs _ h t=>cases h;cases t;rfl
structure aDh(P:bV)(r p f:ax):Prop where
 en:lA P r
 long:∀(s:nD) (w:aU),18<ae (iY s.data.toList [45])->
  fF P r #[.string s] w λe w'=>e=.returned (.tuple #[.int .i64 0,.bool aA])/\Below w.heap.size w w'
 bad:∀(s:nD) (w:aU),¬18<ae (iY s.data.toList [45])->∀(m:aw) (u:bO),
  (fF P p #[.string s,.int .i64 10,.int .i64 64] w λe w'=>∃x,e=.returned (.tuple #[.int .i64 m,.iface u x])/\Below w.heap.size w w')->
  fF P r #[.string s] w λe w'=>e=.returned (.tuple #[.int .i64 0,.bool aA])/\Below w.heap.size w w'
 ok:∀(s:nD) (w:aU),¬18<ae (iY s.data.toList [45])->∀(v:aw),bT v=s.data.toList->
  (fF P p #[.string s,.int .i64 10,.int .i64 64] w λe w'=>e=.returned (.tuple #[.int .i64 v,.nilIface])/\Below w.heap.size w w')->
  (∀w',Below w.heap.size w w'->fF P f #[.int .i64 v,.int .i64 10] w' λe w''=>e=.returned (.string ⟨(bT v).toArray⟩)/\Below w'.heap.size w' w'')->
  fF P r #[.string s] w λe w'=>e=.returned (.tuple #[.int .i64 v,.bool aB])/\Below w.heap.size w w'
 no:∀(s:nD) (w:aU),¬18<ae (iY s.data.toList [45])->∀(v:aw),bT v≠s.data.toList->
  (fF P p #[.string s,.int .i64 10,.int .i64 64] w λe w'=>e=.returned (.tuple #[.int .i64 v,.nilIface])/\Below w.heap.size w w')->
  (∀w',Below w.heap.size w w'->fF P f #[.int .i64 v,.int .i64 10] w' λe w''=>e=.returned (.string ⟨(bT v).toArray⟩)/\Below w'.heap.size w' w'')->
  fF P r #[.string s] w λe w'=>e=.returned (.tuple #[.int .i64 0,.bool aA])/\Below w.heap.size w w'
def ayH{l:ah ay}(h:¬18<ae (iY l [45])):ae l<=19:=by
 unfold iY at h;split at h;·simp at h;omega
 .omega
def anO{ρ':xo}{r:ax}(L:awY P ρ)(L':alP P ρ')(hg:∃i,P.globalNamed zH=ai i)
 (h15:P.globalNamed "strconv.ErrSyntax" =ai (ρ.g 15)) (h16:P.globalNamed "strconv.ErrRange" =ai (ρ.g 16))
 (h:aDh P r (ρ.f 174) (ρ'.f 173)) (hφ:φ g=r):oQ P φ g avN:=by
 refine oQ.mK (by rw[hφ];exact h.en) rfl rfl λx y hy0=> ?_
 obtain⟨a,⟨⟩⟩:=x
 have hy:ai (cW a)=ai y:=hy0
 obtain rfl:=cA hy
 show dx P φ g [A.str a] [A.int .i64 (cW a).1,A.bool (cW a).2] []
 have hn:([A.str a]:ah A).any Ga=aA:=rfl
 refine dx.XD hn λw K vs hr hK hG=> ?_
 rw[aBJ hr,hφ]
 obtain⟨i,hi⟩:=hg
 have aK1:=(hG.tab i hi).2
 have dE:i<w.heap.size:=hK _ (hG.tab i hi).1
 have fin:∀(n:aw) (b:aW),(fF P r #[.string ⟨a.toArray⟩] w λe w'=>e=.returned (.tuple #[.int .i64 n,.bool b])/\Below w.heap.size w w')->
  fF P r #[.string ⟨a.toArray⟩] w λe w'=>∃qQ,e=.returned (IQ qQ)/\Below w.heap.size w w'/\dp φ w (λ_=>JW) qQ [A.int .i64 n,A.bool b]:=λn b hc=>
  hc.mono λe w' hh=>⟨[_,_],hh.1,hh.2,.cons _ _ _ _ (.int _ _) (.cons _ _ _ _ (.bool _) .nil)⟩
 have e1:(⟨a.toArray⟩:nD).data.toList=a:=rfl
 unfold cW
 split
 .rename_i hl
  exact fin _ _ (h.long ⟨a.toArray⟩ w hl)
 .rename_i hl
  have hs:(⟨a.toArray⟩:nD).size<=19:=by rw[Tw];exact ayH hl
  split
  .rename_i v hv
   have hb:=Lib.parseIntB_bounds hv
   have e:((2^(64-1):ax):aw)=9223372036854775808:=by decide
   rw[e]at hb
   have hb1: -9223372036854775808<=v:=hb.1
   have hb2:v<=9223372036854775807:=by have:=hb.2;omega
   have hP:fF P (ρ.f 174) #[.string ⟨a.toArray⟩,.int .i64 10,.int .i64 64] w λe w'=>e=.returned (.tuple #[.int .i64 v,.nilIface])/\Below w.heap.size w w':=
    (Any.strconv_ParseInt_10_at64_ok L ⟨a.toArray⟩ (by omega) v hv w).mono λe w' hh=>⟨hh.1,by(rcases hh.2 with rfl|⟨t,rfl⟩);(·exact DJ _ _);·exact Lib.bytesWorld_below _ _ _⟩
   have hF:∀w',Below w.heap.size w w'->fF P (ρ'.f 173) #[.int .i64 v,.int .i64 10] w' λe w''=>e=.returned (.string ⟨(bT v).toArray⟩)/\Below w'.heap.size w' w'':=λw' hw=>
    (at2 L' v hb1 hb2 w' (Go.Joins.tab_stays hi aK1 hw (bx _))).mono λe w'' hh=>by obtain⟨rfl,k,os,rfl⟩:=hh;exact⟨rfl,alV k os⟩
   split
   .rename_i hc
    exact fin _ _ (h.ok ⟨a.toArray⟩ w hl v hc hP hF)
   .rename_i hc
    exact fin _ _ (h.no ⟨a.toArray⟩ w hl v hc hP hF)
  .rename_i hv
   cases hp:Lib.parseIntB 64 a with
   |ok v=>exact bG hp (hv v)
   |range=>
    obtain⟨u,x,hx⟩:=(hG.err "strconv.ErrRange" (by decide) _ h16).2
    have hc:=(aGm h16 hx 0).trans (show(#[aMu u x]:kZ aL)[0]? =ai (.iface u x)from rfl)
    exact fin _ _ (h.bad ⟨a.toArray⟩ w hl _ _ ((Any.strconv_ParseInt_10_at64_range L ⟨a.toArray⟩ (by omega) hp _ w hc (.inr ⟨_,_,rfl⟩)).mono λe w' hh=>by obtain⟨N,rfl,_,_,hb⟩:=hh;exact⟨_,rfl,hb⟩))
   |_=>
    obtain⟨u,x,hx⟩:=(hG.err "strconv.ErrSyntax" (by decide) _ h15).2
    have hc:=(aGm h15 hx 0).trans (show(#[aMu u x]:kZ aL)[0]? =ai (.iface u x)from rfl)
    exact fin _ _ (h.bad ⟨a.toArray⟩ w hl 0 _ ((Any.strconv_ParseInt_10_at64_syntax L ⟨a.toArray⟩ (by omega) hp _ w hc (.inr ⟨_,_,rfl⟩)).mono λe w' hh=>by obtain⟨N,rfl,_,_,hb⟩:=hh;exact⟨_,rfl,hb⟩))
end
end Go.Ab
namespace Go.Proofs
def ma{α:Type _}{a:aq α}{b c:α}(h:a=ai b)(e:b=c:=by kernel_rfl):a=ai c:=h.trans (wE ai e)
open Go.Shelf
def Tryz.aiG:xo:=⟨λ|156=>324|165=>370|166=>371|169=>372|240=>401|241=>402|276=>435|277=>436|n=>n,λ|31=>25|9=>9|3=>3|4=>4|0=>0|20=>20|72=>337|76=>339|70=>335|37=>230|75=>274|127=>372|164=>404|5=>5|80=>341|n=>n,λ|n=>n⟩
def Tryz.aHF:aAv aO Tryz.aiG:={
 mixed:=by kernel_rfl
 f156:=ma Tryz.func324
 f165:=ma aL5
 f166:=ma aL6
 f169:=ma aL7
 f240:=ma aMb
 f241:=ma aMc
 f276:=ma aMi
 f277:=ma aMj
 t0:=AQ
 a0:=RD
 z0:=Ol
 v0:=Dw
 t3:=er
 a3:=DF
 z3:=AM
 v3:=qR
 t4:=mA
 a4:=DG
 z4:=AN
 v4:=qS
 t9:=ee
 a9:=DI
 z9:=AP
 v9:=qU
 t20:=RE
 a20:=aie
 z20:=ac3
 v20:=U6
 t31:=FL
 a31:=awF
 z31:=atJ
 v31:=aln
 t37:=OL
 a37:=acR
 z37:=aap
 v37:=RF
 t70:=aCt
 a70:=aJN
 z70:=aIM
 v70:=aC4
 t72:=aCu
 a72:=aJO
 z72:=aIN
 v72:=aC5
 t75:=DB
 a75:=atE
 z75:=aqc
 v75:=aii
 t76:=aCv
 a76:=aJP
 z76:=aIO
 v76:=aC6
 t127:=afO
 a127:=atG
 z127:=aqe
 v127:=aik
 t164:=aCy
 a164:=aJS
 z164:=aIR
 v164:=aC9}
def Tryz.acP:aao aO Tryz.aiG:={
 sizeBuilder:=by kernel_rfl
 liesBuilder:=by kernel_rfl
 t5:=pB
 a5:=DH
 z5:=AO
 v5:=qT
 infoByte:=by kernel_rfl
 cellsByte:=by kernel_rfl
 sizeByte:=by kernel_rfl
 neB5:=by decide}
def Tryz.asB:xo:=⟨λ|173=>349|246=>392|283=>431|284=>432|285=>433|286=>434|129=>425|317=>453|318=>454|319=>455|320=>456|337=>461|338=>462|n=>n,λ|2=>2|3=>3|9=>9|4=>4|171=>400|0=>0|53=>357|37=>230|5=>5|173=>402|212=>423|51=>288|20=>20|213=>424|46=>259|232=>431|233=>432|n=>n,λ|17=>5|18=>6|19=>7|n=>n⟩
def Tryz.ava:alP aO Tryz.asB:={
 mixed:=by kernel_rfl
 f129:=ma awE
 f173:=ma Tryz.func349
 f246:=ma aMa
 f283:=ma aMe
 f284:=ma aMf
 f285:=ma aMg
 f286:=ma aMh
 f317:=ma aMk
 f318:=ma aMl
 f319:=ma aMm
 f320:=ma aMn
 f337:=ma aMo
 f338:=ma aMp
 t0:=AQ
 a0:=RD
 z0:=Ol
 v0:=Dw
 t2:=aGj
 a2:=Tryz.isAgg2
 z2:=aMt
 v2:=aGK
 t3:=er
 a3:=DF
 z3:=AM
 v3:=qR
 t4:=mA
 a4:=DG
 z4:=AN
 v4:=qS
 t5:=pB
 a5:=DH
 z5:=AO
 v5:=qT
 t9:=ee
 a9:=DI
 z9:=AP
 v9:=qU
 t20:=RE
 a20:=aie
 z20:=ac3
 v20:=U6
 t37:=OL
 a37:=acR
 z37:=aap
 v37:=RF
 t46:=we
 a46:=Ji
 z46:=FJ
 v46:=xy
 t51:=wg
 a51:=Jj
 z51:=FK
 v51:=xz
 t53:=OM
 a53:=acS
 z53:=aaq
 v53:=RG
 t171:=aCw
 a171:=aJQ
 z171:=aIP
 v171:=aC7
 t173:=aCx
 a173:=aJR
 z173:=aIQ
 v173:=aC8
 t212:=aCz
 a212:=aJT
 z212:=aIS
 v212:=aDa
 t213:=aCA
 a213:=aJU
 z213:=aIT
 t232:=aCB
 a232:=aJV
 z232:=aIU
 v232:=aDb
 t233:=aCC
 a233:=aJW
 z233:=aIV
 v233:=aDc
 g17:=by kernel_rfl
 g18:=by kernel_rfl
 g19:=by kernel_rfl
 i0:=by kernel_rfl
 i2:=by kernel_rfl
 i3:=by kernel_rfl
 i4:=by kernel_rfl
 i5:=by kernel_rfl
 i9:=by kernel_rfl
 i20:=by kernel_rfl
 i37:=by kernel_rfl
 i46:=by kernel_rfl
 i51:=by kernel_rfl
 i53:=by kernel_rfl
 i171:=by kernel_rfl
 i173:=by kernel_rfl
 i212:=by kernel_rfl
 i232:=by kernel_rfl
 i233:=by kernel_rfl
 m17:=by kernel_rfl
 m18:=by kernel_rfl
 m19:=by kernel_rfl}
def Tryz.asy:xo:=⟨λ|174=>280|247=>347|245=>348|287=>387|279=>388|280=>389|281=>390|282=>391|321=>426|322=>427|316=>428|171=>430|205=>429|243=>452|246=>392|283=>431|284=>432|285=>433|286=>434|129=>425|317=>453|318=>454|319=>455|320=>456|337=>461|338=>462|n=>n,λ|9=>9|3=>3|2=>2|75=>274|85=>275|4=>4|167=>356|5=>5|53=>357|175=>358|46=>259|168=>360|37=>230|0=>0|210=>397|21=>21|127=>372|145=>421|143=>419|171=>400|173=>402|212=>423|51=>288|20=>20|213=>424|232=>431|233=>432|80=>341|n=>n,λ|15=>3|16=>4|17=>5|18=>6|19=>7|n=>n⟩
def Tryz.aEG:awY aO Tryz.asy:={
 mixed:=by kernel_rfl
 f129:=ma awE
 f171:=ma Tryz.func430
 f174:=ma Tryz.func280
 f205:=ma Tryz.func429
 f243:=ma Tryz.func452
 f245:=ma Tryz.func348
 f246:=ma aMa
 f247:=ma Tryz.func347
 f279:=ma Tryz.func388
 f280:=ma Tryz.func389
 f281:=ma Tryz.func390
 f282:=ma Tryz.func391
 f283:=ma aMe
 f284:=ma aMf
 f285:=ma aMg
 f286:=ma aMh
 f287:=ma Tryz.func387
 f316:=ma Tryz.func428
 f317:=ma aMk
 f318:=ma aMl
 f319:=ma aMm
 f320:=ma aMn
 f321:=ma Tryz.func426
 f322:=ma Tryz.func427
 f337:=ma aMo
 f338:=ma aMp
 t0:=AQ
 a0:=RD
 z0:=Ol
 v0:=Dw
 t2:=aGj
 a2:=Tryz.isAgg2
 z2:=aMt
 v2:=aGK
 t3:=er
 a3:=DF
 z3:=AM
 v3:=qR
 t4:=mA
 a4:=DG
 z4:=AN
 v4:=qS
 t5:=pB
 a5:=DH
 z5:=AO
 v5:=qT
 t9:=ee
 a9:=DI
 z9:=AP
 v9:=qU
 t20:=RE
 a20:=aie
 z20:=ac3
 v20:=U6
 t21:=aC3
 a21:=aMq
 z21:=aJ2
 v21:=aGk
 t37:=OL
 a37:=acR
 z37:=aap
 v37:=RF
 t46:=we
 a46:=Ji
 z46:=FJ
 v46:=xy
 t51:=wg
 a51:=Jj
 z51:=FK
 v51:=xz
 t53:=OM
 a53:=acS
 z53:=aaq
 v53:=RG
 t75:=DB
 a75:=atE
 z75:=aqc
 v75:=aii
 t85:=Tryz.underlying275
 a85:=Tryz.isAgg275
 z85:=Tryz.sizeOf275
 v85:=Tryz.zeroValue275
 t127:=afO
 a127:=atG
 z127:=aqe
 v127:=aik
 t143:=Tryz.underlying419
 a143:=Tryz.isAgg419
 z143:=Tryz.sizeOf419
 v143:=Tryz.zeroValue419
 t145:=Tryz.underlying421
 a145:=Tryz.isAgg421
 z145:=Tryz.sizeOf421
 v145:=Tryz.zeroValue421
 t167:=Tryz.underlying356
 a167:=Tryz.isAgg356
 z167:=Tryz.sizeOf356
 v167:=Tryz.zeroValue356
 t168:=Tryz.underlying360
 a168:=Tryz.isAgg360
 z168:=Tryz.sizeOf360
 v168:=Tryz.zeroValue360
 t171:=aCw
 a171:=aJQ
 z171:=aIP
 v171:=aC7
 t173:=aCx
 a173:=aJR
 z173:=aIQ
 v173:=aC8
 t175:=Tryz.underlying358
 a175:=Tryz.isAgg358
 z175:=Tryz.sizeOf358
 v175:=Tryz.zeroValue358
 t210:=Tryz.underlying397
 a210:=Tryz.isAgg397
 z210:=Tryz.sizeOf397
 v210:=Tryz.zeroValue397
 t212:=aCz
 a212:=aJT
 z212:=aIS
 v212:=aDa
 t213:=aCA
 a213:=aJU
 z213:=aIT
 t232:=aCB
 a232:=aJV
 z232:=aIU
 v232:=aDb
 t233:=aCC
 a233:=aJW
 z233:=aIV
 v233:=aDc
 g15:=by kernel_rfl
 g16:=by kernel_rfl
 g17:=by kernel_rfl
 g18:=by kernel_rfl
 g19:=by kernel_rfl
 t80:=Tryz.underlying341
 a80:=Tryz.isAgg341
 z80:=Tryz.sizeOf341
 v80:=Tryz.zeroValue341
 i0:=by kernel_rfl
 i2:=by kernel_rfl
 i3:=by kernel_rfl
 i4:=by kernel_rfl
 i5:=by kernel_rfl
 i9:=by kernel_rfl
 i20:=by kernel_rfl
 i21:=by kernel_rfl
 i37:=by kernel_rfl
 i46:=by kernel_rfl
 i51:=by kernel_rfl
 i53:=by kernel_rfl
 i75:=by kernel_rfl
 i80:=by kernel_rfl
 i85:=by kernel_rfl
 i127:=by kernel_rfl
 i143:=by kernel_rfl
 i145:=by kernel_rfl
 i167:=by kernel_rfl
 i168:=by kernel_rfl
 i171:=by kernel_rfl
 i173:=by kernel_rfl
 i175:=by kernel_rfl
 i210:=by kernel_rfl
 i212:=by kernel_rfl
 i232:=by kernel_rfl
 i233:=by kernel_rfl
 m15:=by kernel_rfl
 m16:=by kernel_rfl
 m17:=by kernel_rfl
 m18:=by kernel_rfl
 m19:=by kernel_rfl
 c0:=by kernel_rfl
 c2:=by kernel_rfl
 c3:=by kernel_rfl
 c4:=by kernel_rfl
 c5:=by kernel_rfl
 c9:=by kernel_rfl
 c20:=by kernel_rfl
 c21:=by kernel_rfl
 c37:=by kernel_rfl
 c46:=by kernel_rfl
 c51:=by kernel_rfl
 c53:=by kernel_rfl
 c75:=by kernel_rfl
 c80:=by kernel_rfl
 c85:=by kernel_rfl
 c127:=by kernel_rfl
 c143:=by kernel_rfl
 c145:=by kernel_rfl
 c167:=by kernel_rfl
 c168:=by kernel_rfl
 c171:=by kernel_rfl
 c173:=by kernel_rfl
 c175:=by kernel_rfl
 c210:=by kernel_rfl
 c212:=by kernel_rfl
 c213:=by kernel_rfl
 c232:=by kernel_rfl
 c233:=by kernel_rfl}
def Tryz.asz:xo:=⟨λ|145=>68|220=>141|219=>130|217=>234|225=>235|224=>236|267=>237|266=>297|314=>298|n=>n,λ|9=>9|4=>4|59=>125|3=>3|5=>5|46=>259|146=>289|51=>288|n=>n,λ|1=>0|n=>n⟩
def Tryz.aEH:awZ aO Tryz.asz:={
 mixed:=by kernel_rfl
 f145:=ma Tryz.func68
 f217:=ma aLV
 f219:=ma aLR
 f220:=ma Tryz.func141
 f224:=ma aLX
 f225:=ma aLW
 f266:=ma aL1
 f267:=ma aLY
 f314:=ma aL2
 t3:=er
 a3:=DF
 z3:=AM
 v3:=qR
 t4:=mA
 a4:=DG
 z4:=AN
 v4:=qS
 t5:=pB
 a5:=DH
 z5:=AO
 v5:=qT
 t9:=ee
 a9:=DI
 z9:=AP
 v9:=qU
 t46:=we
 a46:=Ji
 z46:=FJ
 v46:=xy
 t51:=wg
 a51:=Jj
 z51:=FK
 v51:=xz
 t59:=Tryz.underlying125
 a59:=Tryz.isAgg125
 z59:=Tryz.sizeOf125
 v59:=Tryz.zeroValue125
 t146:=afN
 a146:=atF
 z146:=aqd
 v146:=aij
 g1:=by kernel_rfl
 i3:=by kernel_rfl
 i4:=by kernel_rfl
 i5:=by kernel_rfl
 i9:=by kernel_rfl
 i46:=by kernel_rfl
 i51:=by kernel_rfl
 i59:=by kernel_rfl
 i146:=by kernel_rfl
 m1:=by kernel_rfl
 s1_3:=λw h=>aba (zero:= #[.int .i64 0]) (t:=3) h (dY (by kernel_rfl)) (by kernel_rfl) rfl (by kernel_rfl) (by kernel_rfl) er}
def Tryz.au8:xo:=⟨λ|101=>279|208=>346|206=>386|n=>n,λ|9=>9|4=>4|3=>3|n=>n,λ|n=>n⟩
def Tryz.aHD:aLP aO Tryz.au8:={
 mixed:=by kernel_rfl
 f101:=ma Tryz.func279
 f206:=ma aL9
 f208:=ma Tryz.func346
 t3:=er
 a3:=DF
 z3:=AM
 v3:=qR
 t4:=mA
 a4:=DG
 z4:=AN
 v4:=qS
 t9:=ee
 a9:=DI
 z9:=AP
 v9:=qU}
open Go.RowKit Go.Lib in
def Tryz.strings_TrimPrefix(s p:nD)(w:aU):
 fF aO 279 #[.string s,.string p] w λe w'=>e=.returned (.string ⟨(iY s.data.toList p.data.toList).toArray⟩)/\w'=w:=Any.strings_TrimPrefix Tryz.aHD s p w
def Tryz.asA:xo:=⟨λ|146=>9|221=>17|268=>48|138=>49|143=>50|195=>127|197=>128|218=>129|219=>130|260=>233|217=>234|225=>235|224=>236|267=>237|266=>297|314=>298|n=>n,λ|9=>9|31=>25|3=>3|4=>4|0=>0|105=>201|21=>21|5=>5|46=>259|119=>284|139=>287|138=>286|146=>289|51=>288|n=>n,λ|1=>0|3=>1|4=>2|n=>n⟩
def Tryz.aEI:aw0 aO Tryz.asA:={
 mixed:=by kernel_rfl
 f138:=ma Tryz.func49
 f143:=ma Tryz.func50
 f146:=ma Tryz.func9
 f195:=ma Tryz.func127
 f197:=ma Tryz.func128
 f217:=ma aLV
 f218:=ma Tryz.func129
 f219:=ma aLR
 f221:=ma Tryz.func17
 f224:=ma aLX
 f225:=ma aLW
 f260:=ma Tryz.func233
 f266:=ma aL1
 f267:=ma aLY
 f268:=ma Tryz.func48
 f314:=ma aL2
 t0:=AQ
 a0:=RD
 z0:=Ol
 v0:=Dw
 t3:=er
 a3:=DF
 z3:=AM
 v3:=qR
 t4:=mA
 a4:=DG
 z4:=AN
 v4:=qS
 t5:=pB
 a5:=DH
 z5:=AO
 v5:=qT
 t9:=ee
 a9:=DI
 z9:=AP
 v9:=qU
 t21:=aC3
 a21:=aMq
 z21:=aJ2
 v21:=aGk
 t31:=FL
 a31:=awF
 z31:=atJ
 v31:=aln
 t46:=we
 a46:=Ji
 z46:=FJ
 v46:=xy
 t51:=wg
 a51:=Jj
 z51:=FK
 v51:=xz
 t105:=Tryz.underlying201
 a105:=Tryz.isAgg201
 z105:=Tryz.sizeOf201
 v105:=Tryz.zeroValue201
 t119:=Tryz.underlying284
 a119:=Tryz.isAgg284
 z119:=Tryz.sizeOf284
 t138:=Tryz.underlying286
 a138:=Tryz.isAgg286
 z138:=Tryz.sizeOf286
 v138:=Tryz.zeroValue286
 t139:=Tryz.underlying287
 a139:=Tryz.isAgg287
 z139:=Tryz.sizeOf287
 v139:=Tryz.zeroValue287
 t146:=afN
 a146:=atF
 z146:=aqd
 v146:=aij
 g1:=by kernel_rfl
 g3:=by kernel_rfl
 g4:=by kernel_rfl
 i0:=by kernel_rfl
 i3:=by kernel_rfl
 i4:=by kernel_rfl
 i5:=by kernel_rfl
 i9:=by kernel_rfl
 i21:=by kernel_rfl
 i31:=by kernel_rfl
 i46:=by kernel_rfl
 i51:=by kernel_rfl
 i105:=by kernel_rfl
 i138:=by kernel_rfl
 i139:=by kernel_rfl
 i146:=by kernel_rfl
 m1:=by kernel_rfl
 s1_3:=λw h=>aba (zero:= #[.int .i64 0]) (t:=3) h (dY (by kernel_rfl)) (by kernel_rfl) rfl (by kernel_rfl) (by kernel_rfl) er
 m3:=by kernel_rfl
 m4:=by kernel_rfl}
def Tryz.aiF:xo:=⟨λ|105=>381|212=>407|99=>408|165=>370|166=>371|170=>409|169=>372|263=>438|264=>439|206=>386|240=>401|241=>402|276=>435|277=>436|n=>n,λ|9=>9|3=>3|4=>4|20=>20|0=>0|46=>259|109=>374|5=>5|72=>337|76=>339|51=>288|146=>289|53=>357|148=>409|70=>335|37=>230|75=>274|127=>372|164=>404|80=>341|n=>n,λ|n=>n⟩
def Tryz.aHE:aAu aO Tryz.aiF:={
 mixed:=by kernel_rfl
 f99:=ma Tryz.func408
 f105:=ma Tryz.func381
 f165:=ma aL5
 f166:=ma aL6
 f169:=ma aL7
 f170:=ma Tryz.func409
 f206:=ma aL9
 f212:=ma Tryz.func407
 f240:=ma aMb
 f241:=ma aMc
 f263:=ma Tryz.func438
 f264:=ma Tryz.func439
 f276:=ma aMi
 f277:=ma aMj
 t0:=AQ
 a0:=RD
 z0:=Ol
 v0:=Dw
 t3:=er
 a3:=DF
 z3:=AM
 v3:=qR
 t4:=mA
 a4:=DG
 z4:=AN
 v4:=qS
 t5:=pB
 a5:=DH
 z5:=AO
 v5:=qT
 t9:=ee
 a9:=DI
 z9:=AP
 v9:=qU
 t20:=RE
 a20:=aie
 z20:=ac3
 v20:=U6
 t37:=OL
 a37:=acR
 z37:=aap
 v37:=RF
 t46:=we
 a46:=Ji
 z46:=FJ
 v46:=xy
 t51:=wg
 a51:=Jj
 z51:=FK
 v51:=xz
 t53:=OM
 a53:=acS
 z53:=aaq
 v53:=RG
 t70:=aCt
 a70:=aJN
 z70:=aIM
 v70:=aC4
 t72:=aCu
 a72:=aJO
 z72:=aIN
 v72:=aC5
 t75:=DB
 a75:=atE
 z75:=aqc
 v75:=aii
 t76:=aCv
 a76:=aJP
 z76:=aIO
 v76:=aC6
 t109:=Tryz.underlying374
 a109:=Tryz.isAgg374
 z109:=Tryz.sizeOf374
 v109:=Tryz.zeroValue374
 t127:=afO
 a127:=atG
 z127:=aqe
 v127:=aik
 t146:=afN
 a146:=atF
 z146:=aqd
 v146:=aij
 t148:=Tryz.underlying409
 a148:=Tryz.isAgg409
 z148:=Tryz.sizeOf409
 v148:=Tryz.zeroValue409
 t164:=aCy
 a164:=aJS
 z164:=aIR
 v164:=aC9}
def Tryz.acO:aao aO Tryz.aiF:={
 sizeBuilder:=by kernel_rfl
 liesBuilder:=by kernel_rfl
 t5:=pB
 a5:=DH
 z5:=AO
 v5:=qT
 infoByte:=by kernel_rfl
 cellsByte:=by kernel_rfl
 sizeByte:=by kernel_rfl
 neB5:=by decide}
def Tryz.au9:xo:=⟨λ|190=>345|125=>385|258=>384|128=>424|129=>425|302=>415|303=>416|304=>417|305=>418|306=>419|307=>420|308=>421|309=>422|310=>423|333=>446|329=>447|330=>448|334=>449|335=>450|336=>451|344=>460|n=>n,λ|31=>25|9=>9|3=>3|46=>259|0=>0|51=>288|53=>357|4=>4|183=>386|182=>385|131=>390|5=>5|218=>413|222=>417|228=>427|229=>428|n=>n,λ|n=>n⟩
def Tryz.aHG:aLQ aO Tryz.au9:={
 mixed:=by kernel_rfl
 f125:=ma Tryz.func385
 f128:=ma Tryz.func424
 f129:=ma awE
 f190:=ma Tryz.func345
 f258:=ma Tryz.func384
 f302:=ma Tryz.func415
 f303:=ma Tryz.func416
 f304:=ma Tryz.func417
 f305:=ma Tryz.func418
 f306:=ma Tryz.func419
 f307:=ma Tryz.func420
 f308:=ma Tryz.func421
 f309:=ma Tryz.func422
 f310:=ma Tryz.func423
 f329:=ma Tryz.func447
 f330:=ma Tryz.func448
 f333:=ma Tryz.func446
 f334:=ma Tryz.func449
 f335:=ma Tryz.func450
 f336:=ma Tryz.func451
 f344:=ma Tryz.func460
 t0:=AQ
 a0:=RD
 z0:=Ol
 v0:=Dw
 t3:=er
 a3:=DF
 z3:=AM
 v3:=qR
 t4:=mA
 a4:=DG
 z4:=AN
 v4:=qS
 t5:=pB
 a5:=DH
 z5:=AO
 v5:=qT
 t9:=ee
 a9:=DI
 z9:=AP
 v9:=qU
 t31:=FL
 a31:=awF
 z31:=atJ
 v31:=aln
 t46:=we
 a46:=Ji
 z46:=FJ
 v46:=xy
 t51:=wg
 a51:=Jj
 z51:=FK
 v51:=xz
 t53:=OM
 a53:=acS
 z53:=aaq
 v53:=RG
 t131:=Tryz.underlying390
 a131:=Tryz.isAgg390
 z131:=Tryz.sizeOf390
 v131:=Tryz.zeroValue390
 t182:=Tryz.underlying385
 a182:=Tryz.isAgg385
 z182:=Tryz.sizeOf385
 v182:=Tryz.zeroValue385
 t183:=Tryz.underlying386
 a183:=Tryz.isAgg386
 z183:=Tryz.sizeOf386
 v183:=Tryz.zeroValue386
 t218:=Tryz.underlying413
 a218:=Tryz.isAgg413
 z218:=Tryz.sizeOf413
 v218:=Tryz.zeroValue413
 t222:=Tryz.underlying417
 a222:=Tryz.isAgg417
 z222:=Tryz.sizeOf417
 v222:=Tryz.zeroValue417
 t228:=Tryz.underlying427
 a228:=Tryz.isAgg427
 z228:=Tryz.sizeOf427
 v228:=Tryz.zeroValue427
 t229:=Tryz.underlying428
 a229:=Tryz.isAgg428
 z229:=Tryz.sizeOf428
 v229:=Tryz.zeroValue428}
end Go.Proofs
namespace Go.Proofs.YtoifpbonojhjfaaGreatDoor.fnExactRunDesk
open Go.Ab Go.Ab.P
open Go.ChangeShapes Go.WideShapes Go.ChangeAt Go.RowKit
def aTu:ah (ax×ax):=[(841,6),(576,7),(11,287),(12,95),(13,199),(1,105),(645,285),(912,193),(640,73),(639,194),(1154,74),(1102,23),(1155,75),(1101,24),(726,76),(627,78),(988,286),(822,195),(516,77),(299,25),(1103,26),(490,99),(850,200),(851,100),(492,80),(942,98),(962,201),(764,83),(943,196),(968,202),(777,84),(844,203),(451,85),(495,108),(800,86),(497,106),(14,212),(15,214),(20,114),(53,110),(1012,227),(848,204),(474,197),(1054,288),(1055,289),(976,205),(790,198),(712,79),(397,27),(433,28),(1011,14),(1116,38),(1119,42),(1167,96),(1196,206),(1166,97),(1117,39),(1106,29),(1156,81),(1105,30),(1157,82),(1108,31),(1107,32),(1109,33),(1110,34),(1112,35),(1111,36),(1159,87),(1158,88),(1161,89),(1160,90),(1163,91),(1162,92),(1165,93),(1164,94),(1104,37),(1010,15),(491,101),(16,216),(853,208),(488,103),(852,207),(489,102),(1115,40),(963,104),(1114,41),(496,107),(17,215),(799,209),(855,210),(854,211),(494,109),(125,43),(1170,111),(1169,112),(50,213),(1168,113),(1118,44),(19,115),(18,116),(33,45),(1120,46),(1199,217),(1198,218),(1214,290),(1197,219),(1171,117),(776,220),(775,221),(361,118),(996,222),(1172,119),(779,223),(778,224),(360,120),(1200,225),(450,226),(1173,121),(476,229),(783,228),(1175,122),(477,230),(1174,123),(1176,124),(1201,231),(1177,125),(1217,294),(805,295),(1216,296),(1202,232),(1178,126),(1113,47),(1009,16),(840,8),(437,4),(683,9),(21,10),(196,11),(22,299),(24,238),(23,134),(483,239),(682,240),(485,131),(713,51),(762,132),(509,52),(944,133),(714,53),(444,54),(500,241),(796,135),(468,55),(25,242),(26,243),(30,136),(57,56),(545,244),(551,137),(472,57),(977,245),(978,246),(791,138),(715,58),(809,139),(635,59),(288,18),(1002,60),(758,61),(624,140),(1003,62),(1004,63),(1005,64),(473,65),(1006,66),(1305,67),(837,19),(484,316),(27,328),(452,400),(486,363),(849,364),(482,317),(414,259),(864,349),(524,281),(630,324),(460,315),(1079,262),(1078,258),(1312,173),(508,318),(507,319),(510,365),(506,320),(134,260),(1313,174),(772,325),(465,373),(464,369),(771,326),(362,265),(1080,264),(1314,176),(449,327),(447,329),(317,266),(1315,177),(501,330),(795,374),(499,331),(122,267),(1316,178),(29,332),(28,333),(32,268),(1317,179),(556,334),(555,335),(54,375),(554,336),(179,269),(1318,180),(475,338),(448,337),(169,270),(4,192),(5,72),(170,271),(1319,181),(102,272),(1320,182),(369,339),(370,273),(1321,183),(641,379),(980,406),(1264,437),(1265,405),(803,377),(979,378),(802,340),(394,274),(1322,184),(632,380),(518,381),(911,410),(631,382),(1024,445),(872,444),(1237,459),(1238,443),(566,414),(517,383),(219,343),(296,276),(1323,186),(810,344),(396,277),(1324,187),(432,278),(1325,188),(774,321),(773,322),(971,368),(967,367),(1270,366),(770,323),(363,261),(353,263),(1326,175),(638,67),(636,341),(637,342),(233,275),(1327,185),(458,247),(522,189),(457,190),(673,282),(680,350),(681,351),(262,283),(263,352),(668,353),(260,284),(261,191),(459,300),(412,248),(413,143),(1083,249),(1082,145),(1306,144),(1328,142),(523,68),(747,250),(340,147),(1086,251),(1085,149),(1307,148),(1329,146),(354,151),(1330,150),(311,153),(1331,152),(376,155),(1089,252),(1088,157),(1308,156),(1332,154),(326,159),(1092,253),(1091,161),(1309,160),(1333,158),(1095,163),(1096,254),(1094,165),(1310,164),(1334,162),(367,167),(1099,255),(1098,169),(1311,168),(1335,166),(387,256),(388,171),(808,257),(389,172),(1336,170),(1007,71),(839,20),(838,21),(836,22),(434,12),(825,13),(435,5),(1338,3)]
def Jh(n:ax):ax:=(aTu.lookup n).getD 1000000
def hm:aO.follows .mixedOrders=aB:=by kernel_rfl
def rk(r:Rec)(hD:DOk aO Jh r.D)(hc:WR aO Jh r.id r.dec.1=aB:=by kernel_rfl):oQ aO Jh r.id r.c:=ado hm hD hc _ _ _ _
def kk{D:ah (ax×Go.Ab.Callee)}{g:ax}{c:Go.Ab.Callee}(h:oQ aO Jh g c)(t:DOk aO Jh D):DOk aO Jh ((g,c)::D):=.cons h t
def zz:DOk aO Jh []:=.nil
def lV:=rk jj zz
section
open Go.Ab Go.Proofs
def ndV(a:ax):aL:=.agg #[.slice au 0 0,.slice au 0 0,.slice (ai ⟨a,0,au⟩) 2 2,.int .i64 1300,.int .i64 1950,.int .i64 60,.int .i64 110,.slice au 0 0,.slice au 0 0,.slice au 0 0,.slice au 0 0,.slice au 0 0]
def aHK(w:aU):fF aO 7 #[] w λe w'=>∃a b c,e=.returned (ndV a)/\Lo w.heap.size w w'/\(w.heap.size<=a/\a<w'.heap.size)/\(w.heap.size<=b/\b<w'.heap.size)/\(w.heap.size<=c/\c<w'.heap.size)/\ w'.heap[a]? =ai (.cells #[.slice (ai ⟨b,0,au⟩) 2 2,.slice (ai ⟨c,0,au⟩) 2 2] 48)/\w'.heap[b]? =ai (.cells #[.int .i64 30,.int .i64 32] 2)/\w'.heap[c]? =ai (.cells #[.int .i64 31,.int .i64 33] 2):=by
 go_enter Tryz.func7,Tryz.ntmps7;go_wp2_with (fail);refine bodyPost_ret (v:=ndV (w.heap.size+1+1+1)) (by simp[results,Tryz.results7,go_sem,ndV]) rfl ⟨w.heap.size+1+1+1,w.heap.size+1,w.heap.size+1+1,rfl,?_,⟨by omega,by simp⟩,⟨by omega,by simp⟩,⟨by omega,by simp⟩,HB _ _ (by simp),?_,?_⟩;·exact((((Lo.refl _ w).alloc (bx _) _).alloc (by simp) _).alloc (by simp;omega) _).alloc (by simp;omega) _
 .exact(iN _ _ (by simp)).trans ((iN _ _ (by simp)).trans (HB _ _ (by simp)))
 .exact(iN _ _ (by simp)).trans (HB _ _ (by simp))
def aEN{φ:ax->ax}{w:aU}{K:ax->Prop}{b:ax}{x y:aw}{t:bO}(h:w.heap[b]? =ai (.cells #[.int .i64 x,.int .i64 y] t))(hK:K b):gY φ w K (.slice (ai ⟨b,0,au⟩) 2 2) (.sl 1 [.int .i64 x,.int .i64 y]):=by
 refine .sl b 0 2 1 [.int .i64 x,.int .i64 y] [.int .i64 x,.int .i64 y] hK (λz hz=> ?_) (bx _) (.cons _ _ _ _ (.int _ _) (.cons _ _ _ _ (.int _ _) .nil)) λj u hj=> ?_
 .rcases bP.1 hz with rfl|hz
  .rfl
  .rw[aT.1 hz];rfl
 .match j with|0=>cases hj;simp only[b9,h];rfl|1=>cases hj;simp only[b9,h];rfl|j+2=>cases hj
def aOy{φ:ax->ax}{g:ax}(hφ:φ g=7):oQ aO φ g am4:=by
 refine oQ.mK (by rw[hφ];exact⟨_,Tryz.func7,by decide+kernel,rfl⟩) rfl rfl λx y hy=> ?_;obtain rfl:aec=y:=cA hy;have e2:JD am4 aec=([.agg [.own 4 [],.own 3 [],.sl 1 [.sl 1 [.int .i64 30,.int .i64 32],.sl 1 [.int .i64 31,.int .i64 33]],.int .i64 1300,.int .i64 1950,.int .i64 60,.int .i64 110,.own 4 [],.own 5 [],.own 3 [],.own 4 [],.sl 5 []]],[]):=by kernel_rfl
 rw[e2];intro w K vs bs ha Jg hKb hKz hG;cases ha;rw[hφ];refine(aHK w).mono λe w' hq=> ?_;obtain⟨a,b,c,rfl,hb,⟨ka,la⟩,⟨kb,lb⟩,⟨kc,lc⟩,ga,gb,gc⟩:=hq;refine⟨_,rfl,hb.size,λb hb' _=>hb.block b hb',⟨hb.os,hb.output⟩,λb off hb'=>kC (hb.block b hb') off,λb n hr=>hr.of_block (hb.block b hr.lt),?_⟩;refine⟨[ndV a],λb=>K b\/(w.heap.size<=b/\b<w'.heap.size),[],[],rfl,λ_ h=>.inl h,λ_ h=>h.elim .inl λh=>.inr (.inr h),?_,.nil,by simp,λb hb'=>by simp at hb'⟩;refine .cons _ _ [] _ _ [] (.str _ _ _ _ rfl ?_) .nil;have o:∀z,BB φ w' (λb=>K b\/(w.heap.size<=b/\b<w'.heap.size)) (.slice au 0 0) (.own z []) au:=λz=>.own _ _ _ _ (.empty au z);have n:∀i:aw,BB φ w' (λb=>K b\/(w.heap.size<=b/\b<w'.heap.size)) (.int .i64 i) (.int .i64 i) au:=λi=>.data _ _ (.int _ _) (λ_ h=>by cases h);have p:gY φ w' (λb=>K b\/(w.heap.size<=b/\b<w'.heap.size)) (.slice (ai ⟨a,0,au⟩) 2 2) (.sl 1 [.sl 1 [.int .i64 30,.int .i64 32],.sl 1 [.int .i64 31,.int .i64 33]]):=by refine .sl a 0 2 1 [.sl 1 [.int .i64 30,.int .i64 32],.sl 1 [.int .i64 31,.int .i64 33]] [.slice (ai ⟨b,0,au⟩) 2 2,.slice (ai ⟨c,0,au⟩) 2 2] (.inr ⟨ka,la⟩) (λz hz=> ?_) (bx _) (.cons _ _ _ _ (aEN gb (.inr ⟨kb,lb⟩)) (.cons _ _ _ _ (aEN gc (.inr ⟨kc,lc⟩)) .nil)) λj u hj=> ?_;(·(rcases bP.1 hz with rfl|hz);(·rfl);·rw[aT.1 hz];rfl);·match j with|0=>cases hj;simp only[b9,ga];rfl|1=>cases hj;simp only[b9,ga];rfl|j+2=>cases hj
 exact .cons _ _ au _ _ [] (o 4) (.cons _ _ au _ _ [] (o 3) (.cons _ _ au _ _ [] (.data _ _ p (λ_ h=>by cases h)) (.cons _ _ au _ _ [] (n _) (.cons _ _ au _ _ [] (n _) (.cons _ _ au _ _ [] (n _) (.cons _ _ au _ _ [] (n _)
  (.cons _ _ au _ _ [] (o 4) (.cons _ _ au _ _ [] (o 5) (.cons _ _ au _ _ [] (o 3) (.cons _ _ au _ _ [] (o 4) (.cons _ _ au _ _ [] (.data _ _ (.Rx au 0 5) (λ_ h=>by cases h)) .nil)))))))))))
end
def anB:oQ aO Jh 576 Rl:=aOy (by kernel_rfl)
def ag2:=rk JJ zz
def Hc:=rk vV zz
def nB:=rk jg (kk ag2<|kk Hc zz)
def cE:=rk cN zz
def akt:=rk NZ (kk cE zz)
def M1:=rk Bw (kk cE<|kk nB<|kk akt zz)
def Bb:=rk qM (kk M1 zz)
def S5:=rk Cl zz
def ag8:=rk vY (kk S5 zz)
def ZZ:=rk uV (kk Bb<|kk ag8 zz)
def ag0:=rk JE (kk cE zz)
def yw:=rk rG (kk ag0 zz)
def yu:=rk jR zz
def ag9:=rk jk zz
def akv:=rk Fl zz
def apI:=rk Lr (kk akv zz)
def aku:=rk N8 (kk apI zz)
def Z2:=rk uX (kk aku<|kk ag9<|kk Bb<|kk yu zz)
def EC:=rk rF (kk yw zz)
def S1:=rk Cb (kk cE zz)
def ag4:=rk JL (kk cE zz)
def XP:=rk HW (kk cE zz)
def XQ:=rk HX (kk nB<|kk S1<|kk ag4<|kk XP zz)
def aaK:=rk EY (kk XQ zz)
def aj9:=rk Nz (kk cE zz)
def XR:=rk HZ (kk nB<|kk aj9 zz)
def aaL:=rk E0 (kk XR zz)
def S2:=rk Ch (kk cE zz)
def Ba:=rk mu (kk S2 zz)
def akg:=rk NJ (kk cE zz)
def Q0:=rk E8 (kk cE<|kk akg zz)
def VE:=rk Fa (kk cE zz)
def XT:=rk H6 (kk cE<|kk nB<|kk VE zz)
def aaM:=rk Fb (kk XT zz)
def S4:=rk Cj (kk cE zz)
def akj:=rk NM (kk cE zz)
def M0:=rk Bs (kk cE<|kk nB<|kk S4<|kk akj zz)
def aaN:=rk Fe (kk M0 zz)
def VF:=rk Fh (kk cE zz)
def XU:=rk H7 (kk cE<|kk nB<|kk VF zz)
def aaO:=rk Fg (kk XU zz)
def akp:=rk NT (kk cE zz)
def anA:=rk Rh (kk cE zz)
def XV:=rk H8 (kk nB<|kk akp<|kk anA zz)
def aaP:=rk Fj (kk XV zz)
def apK:=rk US (kk aaN<|kk Q0<|kk aaO<|kk aaM<|kk Bb<|kk Ba<|kk aaP<|kk aaK<|kk aaL zz)
def abV:=rk xf (kk apK<|kk yu zz)
def XO:=rk AI zz
def aha:=rk Cn (kk Z2<|kk abV<|kk XO<|kk yw<|kk ZZ<|kk EC zz)
def EB:=rk km (kk Hc zz)
def oF:=rk jX (kk cE<|kk lV<|kk EB zz)
def aeG:=rk zQ (kk Hc zz)
def aeH:=rk Hn zz
def aeI:=rk oJ (kk cE<|kk aeH zz)
def VD:=rk tv (kk aeI<|kk aeG zz)
def aj7:=rk EZ (kk XQ<|kk lV<|kk VD<|kk oF zz)
def oG:=rk il zz
def ahb:=rk Cp (kk oG zz)
def yv:=rk ot (kk lV<|kk oF zz)
def aj8:=rk Ny (kk XR<|kk yv zz)
def anE:=rk Ig (kk oG zz)
def akc:=rk E7 (kk Ba<|kk lV<|kk oF zz)
def akf:=rk E9 (kk Q0<|kk oF zz)
def akh:=rk NK (kk XT<|kk yv zz)
def anC:=rk Ie (kk oG zz)
def akl:=rk NP (kk M0<|kk yv zz)
def anD:=rk If (kk oG zz)
def ako:=rk NS (kk XU<|kk yv zz)
def akw:=rk Fp (kk oG zz)
def akq:=rk NU (kk XV<|kk yv zz)
def akz:=rk Fw (kk oG zz)
def aks:=rk Fk (kk lV<|kk M1<|kk oF zz)
def agZ:=rk p8 (kk Bb<|kk M1 zz)
def akx:=rk Fs (kk yw<|kk anD<|kk akl<|kk akw<|kk ako<|kk akz<|kk akq<|kk agZ<|kk aks zz)
def aky:=rk N9 (kk yw<|kk akx<|kk ahb<|kk aj7<|kk anE<|kk aj8<|kk akc<|kk akf<|kk anC<|kk akh zz)
def aj5:=rk Nx (kk cE zz)
def pd:=rk kD zz
def aj4:=rk ES (kk pd zz)
def aj6:=rk EX (kk aj4 zz)
def aeJ:=rk Ho (kk pd zz)
def ag3:=rk Ca (kk aeJ zz)
def Z3:=rk pq (kk aj6<|kk ag3<|kk S1<|kk aj5<|kk XP<|kk aaK zz)
def VC:=rk tp (kk yu zz)
def VG:=rk Fo (kk VC<|kk EC zz)
def anz:=rk Ra (kk cE zz)
def Ez:=rk wA zz
def apH:=rk Lh (kk Ez zz)
def anu:=rk Bf zz
def EA:=rk oq zz
def WS(n:ax):WR aO Jh 494 (wB n).dec.1=aB:=by kernel_rfl
def S3:∀n,oQ aO Jh 494 (aaY n)
 |0=>oQ.none (ado hm (D:=[]) DOk.nil (WS 0) [] [] [] []).1
 |n+1=>by rw[ahG];exact rk (wB n) (kk (S3 n)<|kk apH<|kk EA<|kk anu zz) (WS n)
def anx:oQ aO Jh 494 aaZ:=S3 1000
def aj0:=rk yD (kk anx<|kk VE<|kk anz<|kk aaM zz)
def ag6:=rk Ck (kk S4 zz)
def aki:=rk Fc zz
def aeL:=rk zU (kk pd<|kk Ez zz)
def FO(n:ax):WR aO Jh 1168 (kn n).dec.1=aB:=by kernel_rfl
def Dm:∀n,oQ aO Jh 1168 (I5 n)
 |0=>oQ.none (ado hm (D:=[]) DOk.nil (FO 0) [] [] [] []).1
 |n+1=>by rw[Ti];exact rk (kn n) (kk aeL<|kk EA<|kk (Dm n) zz) (FO n)
def Wn:oQ aO Jh 1168 I6:=Dm 1000
def abW:=rk xg (kk cE<|kk aaN<|kk Wn<|kk aki<|kk ag6 zz)
def akm:=rk NQ (kk cE zz)
def akk:=rk NO (kk pd<|kk Ez zz)
def Z1:=rk CU (kk akk<|kk akm<|kk M0 zz)
def PV:=rk zX (kk yu<|kk EC zz)
def anv:=rk Q6 (kk cE<|kk aaL zz)
def ag5:=rk Cd zz
def aka:=rk E5 zz
def FN(n:ax):WR aO Jh 1197 (gR n).dec.1=aB:=by kernel_rfl
def Dl:∀n,oQ aO Jh 1197 (I2 n)
 |0=>oQ.none (ado hm (D:=[]) DOk.nil (FN 0) [] [] [] []).1
 |n+1=>by rw[Tc];exact rk (gR n) (kk (Dl n)<|kk aka zz) (FN n)
def Wl:oQ aO Jh 1197 I3:=Dl 1000
def ajZ:=rk pn (kk cE<|kk Wl<|kk ag5<|kk anv zz)
def apG:=rk UD (kk cE<|kk S2 zz)
section
open Go.Ab
def aDw(w:aU)(a b:aw):fF aO 215 #[.int .i64 a,.int .i64 b] w λe w'=>e=.returned (.int .i64 (if a<b then b else a))/\w'=w:=by
 by_cases h:b<a;·rw[aP (by omega)];go_enter aLS,aJX;go_wp2_with (fail);go_ret;exact⟨rfl,rfl⟩
 .have e:(if a<b then b else a)=b:=by split<;>omega
  rw[e];go_enter aLS,aJX;go_wp2_with (fail);go_ret;exact⟨rfl,rfl⟩
def aGW(w:aU)(n b le:aw)(h1: -1000000<=n)(h2:n<=1000000)(h3: -1000000<=b)(h4:b<=1000000):fF aO 292 #[.int .i64 n,.int .i64 b,.int .i64 le] w λe w'=>e=.returned (.int .i64 (px b le n))/\w'=w:=by
 unfold px;by_cases h:n<=le;·rw[aQ h];go_enter awD,atI;go_wp2_with (fail);go_ret;exact⟨rfl,rfl⟩
 .rw[aP h];rcases Int.lt_or_le (n-b) le with h5|h5
  .rw[aQ h5];have e:(if le<n-b then n-b else le)=le:=aP (by omega);have hm:=aDw w le (n-b);rw[e]at hm;go_enter awD,atI;go_wp2_with (fail);go_at_call 215;refine hm.mono ?_;rintro r w' ⟨rfl,rfl⟩;go_wp2_with (fail);go_ret;exact⟨rfl,rfl⟩
  .rw[aP (by omega)];(have e:(if le<n-b then n-b else le)=n-b:=by split<;>omega);have hm:=aDw w le (n-b);rw[e]at hm;go_enter awD,atI;go_wp2_with (fail);go_at_call 215;refine hm.mono ?_;rintro r w' ⟨rfl,rfl⟩;go_wp2_with (fail);go_ret;exact⟨rfl,rfl⟩
def aDv:(aO.info? 48).map (λi=>(i.zero,i.size,i.bytes))=ai (ai (.slice au 0 0),1,24):=by kernel_rfl
set_option maxHeartbeats 3200000 in
def aKc{φ:ax->ax}{go:ax}{own:ah aw->aq (ah aw)}(ho:φ go=211) (hO:∀r r',own r=ai r'->dx aO φ go [.sl 1 (r.map kY.enc)] [.tok 0 1 (r'.map kY.enc)] []) {xs ys:ah (ah aw)} (hY:Y9 own xs=ai ys) (hl:ae xs<=1000) {w:aU} {K:ax->Prop} {v:aL} (hr:gY φ w K v (.sl 1 (xs.map nO.enc))) (hK:∀b,K b->b<w.heap.size) (hG:Dv aO K w): fF aO 291 #[v] w λr w'=>∃vo O,r=.returned vo/\Lo w.heap.size w w'/\qf φ 48 ys vo O w'/\∀b,O b->w.heap.size<=b/\b<w'.heap.size:=by
 obtain⟨⟨av,cv,rfl⟩,Jm⟩:=aH7 hr;obtain⟨iR,hiR,heR⟩:=aM.1 aDv;simp only[bS]at heR;obtain⟨zR,sR,bR⟩:=heR;go_enter Tryz.func291,Tryz.ntmps291;go_wp2_with (fail);have L0:Lo w.heap.size w (w.alloc (.cells #[] 48)):=(Lo.refl _ _).alloc (bx _) _;go_loopw [3,4] (λvo iv wr=>∃(i:ax) (done rest:ah (ah aw)) (O:ax->Prop),iv=.int .i64 i/\i<=ae xs/\ae done=i/\Y9 own (xs.drop i)=ai rest/\done++rest=ys/\qf φ 48 done vo O wr/\(∀b,O b->w.heap.size<=b/\b<wr.heap.size)/\Lo w.heap.size w wr) (λ_ iv _=>((ae xs:aw)-intOf iv).toNat)
 case atStart=>
  exact⟨0,[],ys,λ_=>JW,rfl,by omega,rfl,hY,rfl,.nil _ _ _,λb hb=>hb.elim,L0⟩
 case round=>
  clear L0 hY;obtain⟨i,done,rest,O,rfl,hi,Zu,hw,OU,N,hO1,L⟩:=hrel;have hi9:(i:aw)<=1000:=by omega
  have hxl:(ae xs:aw)<=1000:=by omega
  rcases bL i (ae xs)with dE|hge
  ·(have ajd:(i:aw)<(ae xs:aw):=by omega);obtain⟨b,o,cap,a,n,c,e1,hc1,hKb,R8⟩:=Jm i xs[i] (aE dE);injection e1 with e1 _ e2;subst e1 e2;rw[ba dE]at hw;obtain⟨r',hr',hw1⟩:=aI.1 hw;obtain⟨aOL,hw2,rfl⟩:=aM.1 hw1;clear hw hw1;(have hc2:wr.cell? ⟨b,o+i,au⟩=ai (.slice a n c):=by rw[<-hc1];simp only[b9,L.block b (hK b hKb)]);have aSp:gY φ wr K (.slice a n c) (.sl 1 (xs[i].map kY.enc)):=R8.mono (λb hb=>L.block b (hK b hb)) λ_ h=>h;have Ip:=(hO _ _ hr').own (.cons _ _ _ _ aSp .nil) (λb hb=>bX (hK b hb) L.size) (hG.on (λ_ h=>h) λb hb=>L.block b (hK b hb));rw[ho]at Ip;go_wp2_with (fail);refine Ip.mono ?_;rintro e w5 ⟨a5,n5,c5,rfl,L5,⟨hz5,Md,ob5,aN9,asr⟩⟩;(have hz6:(w5.alloc (.cells #[.slice a5 n5 c5] 48)).heap.size=w5.heap.size+1:=by simp);have N5:=N.fI (w':=w5) λc hc=>L5.block c (hO1 c hc).2;have L6:Lo w.heap.size w (w5.alloc (.cells #[.slice a5 n5 c5] 48)):=(L.trans (L5.mono L.size)).alloc (dQ L.size L5.size) _;obtain⟨ad,n7,cp,w7,jn,hz7,hos,amn,Vh,N7⟩:=(N5.fI (w':=w5.alloc (.cells #[.slice a5 n5 c5] 48)) λc hc=>iN _ _ (bX (hO1 c hc).2 L5.size)).aOF (aN9.aiE λb hb=>iN _ _ (asr b hb).2) (λb hb=>by have:=(asr b hb).2;omega) (λb hb hn=>by have:=(asr b hb).1;have:=(hO1 b hn).2;omega) (λb hb=>by have:=(hO1 b hb).2;have:=L5.size;omega) (t:=29) aif hiR sR zR rfl (by rw[bR];omega) (by omega) (HB _ _ rfl) rfl 1 29;go_wp2_with (first|(at_builtin;refine wpList_append_run _ rfl _ _ _ _ rfl _ _ rfl rfl jn ?_)|fail);(have hSz:w.heap.size<=w7.heap.size:=by have:=L6.size;omega);refine⟨⟨i+1,done++ [r'],aOL,_,rfl,by omega,by simp[Zu],hw2,by rw[<-OU,df];rfl,N7,λb hb=> ?_,L6.trans ⟨hz7,λb hb=>Vh b (by have:=L6.size;omega) λho=>by have:=(hO1 b ho).1;omega,hos,amn⟩⟩,by simp only[intOf];omega⟩;have q1:=L5.size;have q2:=L.size;(rcases hb with hb|hb|hb);(·have:=hO1 b hb;exact⟨this.1,by omega⟩);(·have:=asr b hb;exact⟨by omega,by omega⟩);·exact⟨by omega,hb.2⟩
  ·(obtain rfl:i=ae xs:=by omega);(have auU:¬((ae xs:ax):aw)<(ae xs:aw):=by omega);rw[ac4]at hw;cases hw;rw[cD]at OU;subst OU;go_wp2_with (fail);go_ret;exact⟨_,rfl,L,O,N,hO1⟩
set_option maxHeartbeats 3200000 in
def aGX:ac6 aO 221 211:=⟨⟨_,aLT,by decide+kernel,rfl⟩,by
 intro φ go own ho hO xs b le zs hY w K v hr hK hG
 unfold aDx at hY
 split at hY
 rotate_left
 .cases hY
 rename_i hc
 obtain⟨hl,hb1,hb2,Vk,hl2⟩:=hc
 obtain⟨ys,OU,hY1⟩:=aI.1 hY
 clear hY
 split at hY1
 rotate_left
 .cases hY1
 rename_i hsm
 cases hY1
 have hyl:ae ys<=1000:=by
  have rh:∀{xs ys:ah (ah aw)},Y9 own xs=ai ys->ae ys=ae xs:=by intro xs;induction xs with|nil=>intro ys h;cases h;rfl|cons x xs ih=>intro ys h;obtain⟨r,_,h1⟩:=aI.1 h;obtain⟨t,h2,rfl⟩:=aM.1 h1;simp[ih h2]
  rw[rh OU];exact hl
 have aKY:∀i (row:ah aw),ys[i]? =ai row->ae row<=1000/\∀(k:ax) y,row[k]? =ai y-> -1000000<=y/\y<=1000000:=λi row hi=>by have:=bz.1 hsm row (cq hi);simp only[an3,az,aG,bz]at this;exact⟨this.1,λk y hk=>this.2 y (cq hk)⟩
 go_enter aLT,Tryz.ntmps221
 go_wp2_with (fail)
 go_at_call 291
 refine(aKc ho hO OU hl hr hK hG).mono ?_
 rintro r w1 ⟨vo,O,rfl,L1,N1,hO1⟩
 have L1s:=L1.size
 obtain⟨av,cv,rfl⟩:=N1.slice
 go_wp2_with (fail)
 go_loopw [8,9] (λiv _ wr=>∃i:ax,iv=.int .i64 i/\i<=ae ys/\qf φ 48 ((ys.take i).map (λr=>r.map (px b le))++ys.drop i) (.slice av (ae ys) cv) O wr/\w1.heap.size<=wr.heap.size/\Lo w.heap.size w wr)
  (λiv _ _=>((ae ys:aw)-intOf iv).toNat)
 case atStart=>
  exact⟨0,rfl,by omega,by simpa using N1,bx _,L1⟩
 case round=>
  obtain⟨i,rfl,hi,N,hz,L⟩:=hrel
  have hi9:(i:aw)<=1000:=by omega
  have aYs:(ae ys:aw)<=1000:=by omega
  rcases bL i (ae ys)with dE|hge
  .have ajd:(i:aw)<(ae ys:aw):=by omega
   have Jm:ys[i]? =ai (Go.Ab.rowAt ys i):=by simp[Go.Ab.rowAt,aE dE]
   obtain⟨hrl,hry⟩:=aKY i _ Jm
   rw[<-axd dE]at N
   have aYb:(ae (Go.Ab.rowAt ys i):aw)<=1000:=by omega
   go_wp2_with (fail)
   go_loopw [9] (λkv w5=>∃k:ax,kv=.int .i64 k/\k<=ae (Go.Ab.rowAt ys i)/\qf φ 48 (LV b le ys i k) (.slice av (ae ys) cv) O w5/\w1.heap.size<=w5.heap.size/\Lo w.heap.size w w5)
    (λkv _=>((ae (Go.Ab.rowAt ys i):aw)-intOf kv).toNat)
   case atStart=>exact⟨0,rfl,by omega,N,hz,L⟩
   case round=>
    clear N hz L
    obtain⟨k,rfl,hk,N,hz,L⟩:=hrel
    have hk9:(k:aw)<=1000:=by omega
    rcases bL k (ae (Go.Ab.rowAt ys i))with hkl|hkg
    .have aXM:(k:aw)<(ae (Go.Ab.rowAt ys i):aw):=by omega
     have hy:=aE hkl
     generalize (Go.Ab.rowAt ys i)[k]=y at hy
     have hyb:=hry k y hy
     have hy1:=hyb.1
     have hy2:=hyb.2
     obtain⟨bo,cap,b0,o0,c0,e1,g1,g2,g3,g4,⟨g5,g6⟩,g7⟩:=N.at (by rw[YX dE];exact dE) (aDu dE hy)
     rw[ac9 dE hk]at g1
     rw[YX dE]at e1
     injection e1 with e1 _ e2
     subst e1 e2
     have g8:=g7 (px b le y)
     rw[axc dE hy]at g8
     clear g7 N
     have g1':wr.drew.cell? ⟨bo,i,au⟩=ai (.slice (ai ⟨b0,o0,au⟩) (ae (Go.Ab.rowAt ys i)) c0):=g1
     have g2':wr.drew.cell? ⟨b0,o0+k,au⟩=ai (.int .i64 y):=g2
     go_wp2_with (fail)
     go_still_tail 15,(by kernel_rfl)
     still_call (aGW _ y b le hy1 hy2 hb1 hb2)
     repeat still_step
     refine wpStill_nil ?_
     change aw1 _ _ _ _ _ wr.drew
     go_wp2_with (fail)
     exact⟨⟨k+1,rfl,by omega,g8.fI λ_ _=>rfl,by show _<=(wr.setCell _ _).heap.size;rw[gC];exact hz,Lo.drew (L.trans (Lo.setCell (Lo.refl _ _) (hO1 _ g4).1))⟩,by simp only[intOf];omega⟩
    .obtain rfl:k=ae (Go.Ab.rowAt ys i):=by omega
     obtain⟨bo,cap,ad0,cp0,e1,g1⟩:=N.aOM (by rw[YX dE];exact dE)
     rw[ac9 dE hk]at g1
     rw[YX dE]at e1
     injection e1 with e1 _ e2
     subst e1 e2
     rw[axb dE]at N
     go_wp2_with (fail)
     exact⟨⟨i+1,rfl,by omega,N,hz,L⟩,by simp only[intOf];omega⟩
  .obtain rfl:i=ae ys:=by omega
   rw[bc,ac4,cD]at N
   go_wp2_with (fail)
   go_ret
   exact⟨_,_,_,rfl,L,N.data λb hb=>⟨(hO1 b hb).1,bX (hO1 b hb).2 hz⟩⟩⟩
end
def anw:oQ aO Jh 775 Q8:=avI (g:=775) (go:=854) aGX (by kernel_rfl) (λr r2 h=>axg EA h)
def aj3:=rk Ni (kk anw<|kk apG<|kk Ba zz)
def akd:=rk yM (kk VC zz)
def aeE:=rk Hk (kk Ba<|kk akd zz)
def abX:=rk E6 (kk cE zz)
def akb:=rk yL (kk pd zz)
def aeD:=rk Hj (kk Ba<|kk akb<|kk abX zz)
def aeK:=rk Hr (kk cE zz)
def ake:=rk NH (kk pd zz)
def aj2:=rk yG (kk cE<|kk pd<|kk ake<|kk Q0<|kk aeK zz)
def Kj:=rk ve zz
def XS:=rk H0 (kk Ez zz)
def ant:=rk HT (kk Kj<|kk XS<|kk VF zz)
def akn:=rk NR (kk cE zz)
def ag1:=rk JH (kk akn<|kk yu zz)
def aeF:=rk tj (kk cE<|kk aaO<|kk Kj<|kk XS zz)
section
open Go.Ab Go.Proofs
def av9{P:bV}{ops:kZ Zp}{o:Zp}{a:alk}{K:alk->aU->Prop}{Q:Exit->alk->aU->Prop}{E:Prop}{w w':aU}{u v r:aL}{t ty:bO}(hr:(fH #[t,t] ty #[u,v]).run P w=.ok r w')(hgd:o.guard=au)(x y:ej)(hty:o.type=ty) (ho:o.op=.call {callee:=.builtin .append,args:= #[x,y],argTypes:= #[t,t]}) (hx:a.eval x=u) (hy:a.eval y=v) (h:K (a.put o.dst r) w'):if acI o (yielded ops a.tmps)=aB then Jf P o a w K Q else E:=by
 have hw:acI o (yielded ops a.tmps)=aB:=by simp[acI,hgd]
 rw[aQ hw];subst hty;unfold Jf;simp only[gS,ho,resolve,invoke,builtin,eP,mg,cZ,List.map_toArray,aY,gJ,hx,hy,hr];exact h
def azY:(aO.info? 48).map (λi=>(i.zero,i.size,i.bytes))=ai (ai (.slice au 0 0),1,24):=by kernel_rfl
def aFf:(aO.info? 2).map (λi=>(i.zero,i.size,i.bytes))=ai (ai (.int .i64 0),1,8):=by kernel_rfl
def azZ(u:aU):(Instr.makeSlice 48 (.int .i64 40) (.int .i64 40)).run aO u=.ok (.slice (ai ⟨u.heap.size,0,au⟩) 40 40) (u.alloc (.cells ((bK 40 (0:aw)).map (fq .i64)).toArray 2)):=by
 obtain⟨i,hi,he⟩:=aM.1 aFf;simp only[bS]at he;have h:=run_make (P:=aO) u 48 2 i _ Tryz.underlying48 hi he.1 .i64 .i64 40 40 (by omega) (gX _) (by rw[he.2.2];omega) (by omega);have e:madeCells (fq .i64 0).cells ((40:aw).toNat*i.size)=((bK 40 (0:aw)).map (fq .i64)).toArray:=by rw[he.2.1];kernel_rfl
 rw[e]at h;exact h
end
section
open Go.Ab Go.Proofs
def X9{p:Prop}(h:p):Hid p:=h
def IT{p:Prop}(h:Hid p):p:=h
def spN{T e tI:bO}{Bp pb n cv:ax}{rb:ax->ax}{lv:aL}{tl:ah aL}{bJ:ah (ah aw)}{left:aw}{w:aU}(h:Oy T e tI Bp pb rb n cv lv tl bJ left w)(q:ax):Oy T e tI Bp pb rb n cv lv tl bJ left (w.drewN q):=h.fI rfl rfl λ_ _=>rfl
def spR{X:ax->Prop}{w u:aU}(h:Rg X w u)(q:ax):Rg X w (u.drewN q):=⟨h.size,h.block,h.os,h.output⟩
def aIf(w:aU)(b:ax)(row:ah aw)(hb:RI 2 b row w)(hl:ae row=40)(a n:ax)(ha:a<=39)(hn:n<=40): fF aO 354 #[.slice (ai ⟨b,0,au⟩) 40 40,.int .i64 a,.int .i64 n] w λe w'=>e=.returned (.bool (Vg row a n))/\w'=w:=by
 by_cases h:(a:aw)+n<=40
 .have h':¬(40<(a:aw)+n):=by omega
  go_enter aL4,aJZ;go_wp2_with (fail);go_loopw [7] (λjv wr=>∃j:ax,jv=.int .i64 (a+j:ax)/\j<=n/\(∀m,m<j->row[a+m]? =ai 0)/\wr=w) (λjv _=>(((a+n:ax):aw)-intOf jv).toNat);case atStart=>exact⟨0,rfl,jJ _,λm hm=>bG hm (yV _),rfl⟩
  case round=>
   obtain⟨j,rfl,hj,hz,rfl⟩:=hrel;(have hn9:((a+n:ax):aw)<=40:=by omega);rcases bL j n with dE|hge
   ·(have ajd:((a+j:ax):aw)<(a:aw)+n:=by omega);(have hat:a+j<40:=by omega);have hx:=aE (show a+j<ae row by omega);generalize row[a+j]'(by omega)=x at hx;have jy:=hb.cell hx;by_cases hx0:x=0
    .subst hx0;go_wp2_with (fail)
     exact⟨⟨j+1,by congr 1,by omega,λm hm=>by
      rcases bL m j with h|h
      .exact hz m h
      .obtain rfl:m=j:=by omega
       exact hx,trivial⟩,by simp only[intOf];omega⟩
    .have hf:Vg row a n=aA:=wh λq=>hx0 (by have:=q.2 j (by simpa using dE);rw[aH,hx]at this;exact cA this);go_wp2_with (fail);go_ret;exact⟨by rw[hf];rfl,rfl⟩
   ·(obtain rfl:j=n:=by omega);(have auU:¬((a+j:ax):aw)<(a:aw)+j:=by omega);have hf:Vg row a j=aB:=cF ⟨h,λm hm=>by rw[aH]at hm⊢;exact hz m hm⟩;go_wp2_with (fail);go_ret;exact⟨rfl,rfl⟩
 .have hf:Vg row a n=aA:=wh λq=>h q.1;rw[hf];go_enter aL4,aJZ;go_wp2_with (fail);go_ret;exact⟨rfl,rfl⟩
def atd(w:aU)(b:ax)(row:ah aw)(hb:RI 2 b row w)(hl:ae row=40)(a n:ax)(ha:a+n<=40)(v:aw): fF aO 355 #[.slice (ai ⟨b,0,au⟩) 40 40,.int .i64 a,.int .i64 n,.int .i64 v] w λe w'=>e=.returned (.tuple #[])/\RI 2 b (xJ row a n v) w'/\Rg (λc=>c=b) w w':=by
 go_enter Tryz.func355,Tryz.ntmps355;go_wp2_with (fail);go_loopw [8] (λiv wr=>∃t:ax,iv=.int .i64 (a+t:ax)/\t<=n/\RI 2 b (xJ row a t v) wr/\Rg (λc=>c=b) w wr) (λiv _=>(((a+n:ax):aw)-intOf iv).toNat);case atStart=>exact⟨0,rfl,by omega,by rw[amc];exact hb,Rg.refl _ _⟩
 case round=>
  obtain⟨t,rfl,ht,B,R⟩:=hrel;have ha9:((a+n:ax):aw)<=40:=by omega
  rcases bL t n with dE|hge
  ·(have ajd:((a+t:ax):aw)<(a:aw)+n:=by omega);(have hat:a+t<40:=by omega);(have eJ:ae (xJ row a t v)=40:=by rw[Db (by omega)];exact hl);have jy:=B.cell (k:=a+t) (aE (by omega));have hfz:=B.frozen (a+t);have B2:=B.set (a+t) v;rw[amb (by omega)]at B2;go_wp2_with (fail);exact⟨⟨t+1,by congr 1,by omega,B2,R.setCell rfl⟩,by simp only[intOf];omega⟩
  ·(obtain rfl:t=n:=by omega);(have auU:¬((a+t:ax):aw)<(a:aw)+t:=by omega);go_wp2_with (fail);refine bodyPost_end (results_none rfl _ _ _) rfl ⟨rfl,B,R⟩
end
section
open Go.Ab Go.Proofs
section
variable {S n cv Bp pb:ax} {rb:ax->ax} {rj:ah iz.ty} {w0:aU} {av:aq afQ} {cp:ax} {c:aw}
set_option maxHeartbeats 6400000 in
def aBV(hD:PwD n Bp pb rb)(hX:S<=Bp/\S<=pb/\∀j,j<n->S<=rb j)(hn:n<=6)(hc:c<=20000)(hll:ae rj<=1000)(hsm:rj.all Uv=aB) (hls:∀(i:ax) (x:iz.ty),rj[i]? =ai x->∃b o cap,U7 av (ae rj) cp=.slice (ai ⟨b,o,au⟩) (ae rj) cap/\b<S/\ w0.cell? ⟨b,o+i*4,au⟩=ai (.string ⟨x.1.toArray⟩)/\w0.cell? ⟨b,o+i*4+1,au⟩=ai (.int .i64 (wkD x))/\w0.cell? ⟨b,o+i*4+2,au⟩=ai (.int .i64 (wkF x))/\w0.cell? ⟨b,o+i*4+3,au⟩=ai (.int .i64 (wkL x))): ∀(xs:ah iz.ty) (k:ax) (kI:aw),kI=k->k<=ae rj->rj.drop k=xs->∀(w:aU) (bJ:ah (ah aw)) (left nd:aw) (r:PwR),JR xs kI bJ left=r->Lo S w0 w->S<=w.heap.size->nd+left=c->0<=left->0<=nd-> Oy 281 48 2 Bp pb rb n cv (.slice av (ae rj) cp) [.int .i64 c,.bool aA] bJ nd w-> fF aO 293 #[.pointer (ai ⟨Bp,0,au⟩),.int .i64 kI] w λe w'=>Rg (λc=>c=Bp\/∃j,j<n/\c=rb j) w w'/\ ((r.2.1=aB/\e=.returned (.bool r.1)/\∃nd,Oy 281 48 2 Bp pb rb n cv (.slice av (ae rj) cp) [.int .i64 c,.bool aA] r.2.2.1 nd w'/\nd+r.2.2.2=c/\0<=r.2.2.2/\0<=nd)\/ ((r.1=aA/\r.2.1=aA)/\e=.returned (.bool aA)/\∃bJ,Oy 281 48 2 Bp pb rb n cv (.slice av (ae rj) cp) [.int .i64 c,.bool aB] bJ c w')):=by
 intro xs
 induction xs with
 |nil=>
  intro k kI hk hkl hdr w bJ left nd r hr L0 hS0 Gy WW Vk N;subst hk;have hke:k=ae rj:=by have:=wE ae hdr;simp at this;omega
  have hk9:(k:aw)<=1000:=by omega
  have aRN:(k:aw)=(ae rj:aw):=by omega
  rw[JR]at hr;have b0:=N.c0;have b1:=N.c1;have b2:=N.c2;go_enter aL0,aJY;go_wp2_with (fail);go_ret;subst hr;exact⟨Rg.refl _ _,.inl ⟨rfl,rfl,nd,N,Gy,WW,Vk⟩⟩
 |cons x xs ih=>
  intro k kI hk hkl hdr w bJ left nd r hr L0 hS0 Gy WW Vk N;subst hk;have dE:k<ae rj:=by have:=wE ae hdr;simp at this;omega
  rw[ba dE]at hdr;injection hdr with hx hdr;have hxk:rj[k]? =ai x:=by rw[aE dE,hx]
  have hs:=bz.1 hsm x (cq hxk);obtain⟨lb,lo,aTn,e1,hlb,c0,c1,c2,c3⟩:=hls k x hxk;injection e1 with e1 _ e2;subst e1 e2;rw[arv]at hr;simp only[Uv,az,aG]at hs;obtain⟨⟨⟨⟨⟨s1,s2⟩,s3⟩,s4⟩,s5⟩,s6⟩:=hs;obtain⟨dn,hdn⟩:∃m:ax,wkD x=(m:aw):=⟨(wkD x).toNat,by omega⟩;obtain⟨fn,hfn⟩:∃m:ax,wkF x=(m:aw):=⟨(wkF x).toNat,by omega⟩;obtain⟨ln,hln⟩:∃m:ax,wkL x=(m:aw):=⟨(wkL x).toNat,by omega⟩;rw[hdn]at c1 s1 s2 hr;rw[hfn]at c2 s3 s4 hr;rw[hln]at c3 s5 s6 hr;clear hx hxk hdn hfn hln hls c0;rw[N.len]at hr;have b0:=N.c0;have b1:=N.c1;have hk9:(k:aw)<1000:=by omega
  have hke:¬(k:aw)=(ae rj:aw):=by omega
  have hXS:∀c,(c=Bp\/∃j,j<n/\c=rb j)->S<=c:=by rintro c (rfl|⟨j,hj,rfl⟩);(·exact hX.1);·exact hX.2.2 j hj
  have af2:∀{u:aU},Rg (λc=>c=Bp\/∃j,j<n/\c=rb j) w u->u.cell? ⟨lb,lo+k*4+1,au⟩=ai (.int .i64 dn)/\u.cell? ⟨lb,lo+k*4+2,au⟩=ai (.int .i64 fn)/\u.cell? ⟨lb,lo+k*4+3,au⟩=ai (.int .i64 ln):=λ{u} h=>by(have e:∀o,u.cell? ⟨lb,o,au⟩=w0.cell? ⟨lb,o,au⟩:=λo=>by simp only[b9,(L0.rg h hXS hS0).block lb hlb]);exact⟨(e _).trans c1,(e _).trans c2,(e _).trans c3⟩
  clear c1 c2 c3;go_enter aL0,aJY;go_wp2_with (fail);go_loopw [6,7] (λiv _ wr=>∃(i:ax) (bJ:ah (ah aw)) (left nd:aw) (fl:aW),iv=.int .i64 i/\i<=n/\(fl=aA->axq (as9 (JR xs (k+1)) fn dn ln k (n-i) i bJ left)=r)/\(fl=aB->(r.1=aA/\r.2.1=aA)/\left=0)/\Oy 281 48 2 Bp pb rb n cv (.slice (ai ⟨lb,lo,au⟩) (ae rj) cp) [.int .i64 c,.bool fl] bJ nd wr/\Rg (λc=>c=Bp\/∃j,j<n/\c=rb j) w wr/\nd+left=c/\0<=left/\0<=nd) (λiv _ _=>((n:aw)-intOf iv).toNat);case atStart=>exact⟨0,bJ,left,nd,aA,rfl,jJ _,λ_=>hr,λh=>bG h DA,N,Rg.refl _ _,Gy,WW,Vk⟩
  case round=>
   clear hr N b0 b1 Gy WW Vk;obtain⟨i,bJ,left,nd,fl,rfl,hi,h1,h2,N,R,Gy,WW,Vk⟩:=hrel;rcases bL i n with xp|hge
   ·(have ajd:(i:aw)<n:=by omega);obtain⟨m,hm⟩:∃m,n-i=m+1:=⟨n-i-1,by omega⟩;rw[hm,arl]at h1;have b1:=N.c1;obtain⟨_,g2,_⟩:=af2 R;(have hn9:(n:aw)<=6:=by omega);go_wp2_with (fail);go_loopw [7] (λdv wr=>∃(d f:ax) (bJ:ah (ah aw)) (left nd:aw) (fl:aW),dv=.int .i64 d/\d<=40/\ln+1<=d+f/\(fl=aA->axq (aDG (JR xs (k+1)) fn dn ln k m i (af4 (JR xs (k+1)) i dn ln k f d bJ left))=r)/\(fl=aB->(r.1=aA/\r.2.1=aA)/\left=0)/\Oy 281 48 2 Bp pb rb n cv (.slice (ai ⟨lb,lo,au⟩) (ae rj) cp) [.int .i64 c,.bool fl] bJ nd wr/\Rg (λc=>c=Bp\/∃j,j<n/\c=rb j) w wr/\nd+left=c/\0<=left/\0<=nd) (λdv _=>((ln:aw)+1-intOf dv).toNat);case atStart=>exact⟨fn,((ln:aw)+1-fn).toNat,bJ,left,nd,fl,rfl,by omega,by omega,h1,h2,N,R,Gy,WW,Vk⟩
    case round=>
     clear h1 h2 N R Gy WW Vk b1 g2;obtain⟨d,f,bJ,left,nd,fl,rfl,hd,hf,h1,h2,N,R,Gy,WW,Vk⟩:=hrel;obtain⟨g1,_,g3⟩:=af2 R;(have hd9:(d:aw)<=40:=by omega);have b1:=N.c1;have jy:=N.cell xp;(have w1:aj ak ((d:aw)+dn)=(d:aw)+dn:=by rw[Gr];omega);(have w2:aj ak ((d:aw)+dn-1)=(d:aw)+dn-1:=by rw[Gr];omega);by_cases aD0:(d:aw)+dn-1<=ln;·obtain⟨f,rfl⟩:∃f',f=f'+1:=⟨f-1,by omega⟩;rw[af4,aQ aD0]at h1;go_wp2_with (fail);go_quiet (fail);have N1:=spN N nq;have R1:=spR R nq;generalize wr.drewN nq=wx at N1 R1⊢;clear N R g1 g3 b1 jy w1 w2 nq;replace N1:=X9 N1;go_wp2_with (fail);replace N1:=IT N1;obtain⟨g1,_,_⟩:=af2 R1;have b1:=N1.c1;have jy:=N1.cell xp;obtain⟨hRB,hRl⟩:=N1.row i xp;have Vi:∀q,fF aO 354 #[.slice (ai ⟨rb i,0,au⟩) 40 40,.int .i64 d,.int .i64 dn] (wx.drewN q) λe w'=>e=.returned (.bool (Vg (Go.Ab.rowAt bJ i) d dn))/\w'=wx.drewN q:=λq=>aIf (wx.drewN q) (rb i) (Go.Ab.rowAt bJ i) hRB hRl d dn (by omega) (by omega);cases hfb:Vg (Go.Ab.rowAt bJ i) d dn with|false=>rw[hfb]at Vi h1;simp only[ar,aJ]at h1;clear hfb;go_quiet ((go_at_call 354;exact ayZ (Vi _)));have N2:=spN N1 nq;have R2:=spR R1 nq;generalize wx.drewN nq=wy at N2 R2⊢;go_wp2_with (fail);exact⟨⟨d+1,f,bJ,left,nd,fl,by congr 1,by omega,by omega,h1,h2,N2,R2,Gy,WW,Vk⟩,by simp only[intOf];omega⟩|true=>rw[hfb]at Vi;rw[aQ hfb]at h1;clear hfb;go_quiet ((go_at_call 354;exact ayZ (Vi _)));have N2:=spN N1 nq;have R2:=spR R1 nq;generalize wx.drewN nq=wy at N2 R2⊢;clear N1 R1 Vi g1 b1 jy hRB nq;replace N2:=X9 N2;go_wp2_with (fail);replace N2:=IT N2;have b2:=N2.c2;(have b3:wy.cell? ⟨Bp,3,au⟩=ai (.int .i64 c):=by simp[b9,N2.box]);by_cases hl:left=0;(·rw[aQ hl]at h1;subst hl;(obtain rfl:nd=c:=by omega);(have hq:r.1=aA/\r.2.1=aA:=by cases fl with|false=>rw[<-h1 rfl];exact⟨rfl,rfl⟩|true=>exact(h2 rfl).1);clear h1 h2;go_quiet (fail);have N3:=spN N2 nq;have R3:=spR R2 nq;generalize wy.drewN nq=wz at N3 R3⊢;clear N2 R2 b2 b3 nq;have hfz:=N3.fz 4;(have b4:wz.cell? ⟨Bp,4,au⟩=ai (.bool fl):=by simp[b9,N3.box]);have N4:=N3.tail hD 1 (.bool aB);(have b5:(wz.setCell ⟨Bp,4,au⟩ (.bool aB)).cell? ⟨Bp,4,au⟩=ai (.bool aB):=by simp[b9,N4.box]);have R4:=R3.setCell (b:=Bp) (j:=4) (v:=(.bool aB)) (.inl rfl);go_wp2_with (fail);go_ret;exact⟨R4,.inr ⟨hq,rfl,bJ,N4⟩⟩);·(obtain rfl:fl=aA:=by cases fl with|false=>rfl|true=>exact bG (h2 rfl).2 hl);have hr:=h1 rfl;clear h1 h2;rw[aP hl]at hr;simp only[aH]at hr;(have iS:¬nd=c:=by omega);(have aXT:nd<=20000:=by omega);generalize WY:JR xs ((k:aw)+1) (bJ.set i (xJ (Go.Ab.rowAt bJ i) d dn ((k:aw)+1))) (left-1)=r0 at hr;go_quiet (fail);have N3:=spN N2 nq;have R3:=spR R2 nq;generalize wy.drewN nq=wz at N3 R3⊢;clear N2 R2 b2 b3 nq;have hfz:=N3.fz 2;have b2:=N3.c2;(have b4:wz.cell? ⟨Bp,4,au⟩=ai (.bool aA):=by simp[b9,N3.box]);have N4:=N3.aaF hD (nd+1);have R4:=R3.setCell (b:=Bp) (j:=2) (v:=(.int .i64 (nd+1))) (.inl rfl);clear N3 R3;go_wp2_with (fail);generalize wz.setCell ⟨Bp,2,au⟩ (.int .i64 (nd+1))=wu at N4 R4⊢;clear hfz b2 b4;have g1:=(af2 R4).1;have b1:=N4.c1;have jy:=N4.cell xp;(have w1:aj ak ((k:aw)+1)=(k:aw)+1:=by rw[Gr];omega);go_still_tail 14,(by kernel_rfl);change aw1 _ _ _ _ _ (wu.drewN 1);have N5:=spN N4 1;have R5:=spR R4 1;generalize wu.drewN 1=wv at N5 R5⊢;clear N4 R4 g1 b1 jy w1;have JZ:=atd wv (rb i) (Go.Ab.rowAt bJ i) (N5.row i xp).1 hRl d dn (by omega) (k+1);replace N5:=X9 N5;go_wp2_with (fail);replace N5:=IT N5;go_at_call 355;refine JZ.mono ?_;clear JZ;rintro e w3 ⟨rfl,B3,R3⟩;have N3:=N5.aFF hD xp B3 (by rw[Db (by omega)];exact hRl) R3;replace R3:=R5.trans (R3.mono λc hc=>.inr ⟨i,xp,hc⟩);clear B3 N5 R5;have call:=ih (k+1) ((k:aw)+1) (by omega) (by omega) hdr w3 _ _ (nd+1) _ WY (L0.rg R3 hXS hS0) (by have:=R3.size;omega) (by omega) (by omega) (by omega) N3;clear N3;go_wp2_with (fail);go_at_call 293;refine call.mono ?_;clear call;rintro e w4 ⟨R4,h⟩;replace R4:=R3.trans R4;clear R3;obtain⟨f0,o0,ae1,amV⟩:=r0;(rcases h with ⟨h3,rfl,nd4,N4,aNZ,hl4,hl5⟩|⟨⟨h3,h4⟩,rfl,aJD,N4⟩);(·cases h3;cases f0 with|true=>go_wp2_with (fail);go_ret;subst hr;exact⟨R4,.inl ⟨rfl,rfl,nd4,N4,aNZ,hl4,hl5⟩⟩|false=>simp only[ar,afM,or_self,aJ]at hr;have N4:Oy 281 48 2 Bp pb rb n cv (.slice (ai ⟨lb,lo,au⟩) (ae rj) cp) [.int .i64 c,.bool aA] ae1 nd4 w4:=N4;have g1:=(af2 R4).1;have b7:=N4.c1;have b8:=N4.cell xp;go_wp2_with (fail);go_still_tail 12,(by kernel_rfl);change aw1 _ _ _ _ _ (w4.drewN 1);have N5:=spN N4 1;have R5:=spR R4 1;generalize w4.drewN 1=wv at N5 R5⊢;clear N4 R4 g1 b7 b8;obtain⟨B5,Bl5⟩:=N5.row i xp;have JZ:=atd wv (rb i) (Go.Ab.rowAt ae1 i) B5 Bl5 d dn (by omega) 0;replace N5:=X9 N5;go_wp2_with (fail);replace N5:=IT N5;go_at_call 355;refine JZ.mono ?_;clear JZ;rintro e w5 ⟨rfl,B6,R6⟩;have N6:=N5.aFF hD xp B6 (by rw[Db (by omega)];exact Bl5) R6;replace R6:=R5.trans (R6.mono λc hc=>.inr ⟨i,xp,hc⟩);clear N5 R5 B5 B6;replace N6:=X9 N6;go_wp2_with (fail);replace N6:=IT N6;exact⟨⟨d+1,f,_,amV,nd4,aA,by congr 1,by omega,by omega,λ_=>hr,λh=>bG h DA,N6,R6,aNZ,hl4,hl5⟩,by simp only[intOf];omega⟩);·(have hq:r.1=aA/\r.2.1=aA:=by cases h3;cases h4;simp only[or_true,aK]at hr;rw[<-hr];exact⟨rfl,rfl⟩);clear hr;have g1:=(af2 R4).1;have b7:=N4.c1;have b8:=N4.cell xp;go_wp2_with (fail);go_still_tail 12,(by kernel_rfl);change aw1 _ _ _ _ _ (w4.drewN 1);have N5:=spN N4 1;have R5:=spR R4 1;generalize w4.drewN 1=wv at N5 R5⊢;clear N4 R4 g1 b7 b8;obtain⟨B5,Bl5⟩:=N5.row i xp;have JZ:=atd wv (rb i) (Go.Ab.rowAt aJD i) B5 Bl5 d dn (by omega) 0;replace N5:=X9 N5;go_wp2_with (fail);replace N5:=IT N5;go_at_call 355;refine JZ.mono ?_;clear JZ;rintro e w5 ⟨rfl,B6,R6⟩;have N6:=N5.aFF hD xp B6 (by rw[Db (by omega)];exact Bl5) R6;replace R6:=R5.trans (R6.mono λc hc=>.inr ⟨i,xp,hc⟩);clear N5 R5 B5 B6;replace N6:=X9 N6;go_wp2_with (fail);replace N6:=IT N6;exact⟨⟨d+1,f,_,0,c,aB,by congr 1,by omega,by omega,λh=>bG h.symm DA,λ_=>⟨hq,rfl⟩,N6,R6,by omega,by omega,by omega⟩,by simp only[intOf];omega⟩
     ·(have Zu:af4 (JR xs (k+1)) i dn ln k f d bJ left=.inr (bJ,left):=by cases f with|zero=>rfl|succ f=>rw[af4,aP aD0]);rw[Zu]at h1;clear Zu;go_wp2_with (fail);go_quiet (fail);have N1:=spN N nq;have R1:=spR R nq;generalize wr.drewN nq=wx at N1 R1⊢;clear N R;replace N1:=X9 N1;go_wp2_with (fail);replace N1:=IT N1;exact⟨⟨i+1,bJ,left,nd,fl,by congr 1,by omega,by rw[show n-(i+1)=m from by omega];exact h1,h2,N1,R1,Gy,WW,Vk⟩,by simp only[intOf];omega⟩
   ·(obtain rfl:i=n:=by omega);rw[Qu]at h1;(have auU:¬((i:ax):aw)<(i:aw):=by omega);have b1:=N.c1;go_wp2_with (fail);go_ret;cases fl with|false=>have hr:=h1 rfl;subst hr;exact⟨R,.inl ⟨rfl,rfl,nd,N,Gy,WW,Vk⟩⟩|true=>obtain⟨h2,h3⟩:=h2 rfl;(obtain rfl:nd=c:=by omega);exact⟨R,.inr ⟨h2,rfl,bJ,N⟩⟩
end
end
section
open Go.Ab Go.Proofs
set_option maxHeartbeats 6400000 in
def aIg(φ:ax->ax)(n:aw)(xs:ah iz.ty)(c:aw)(y:ah (ah aw)×aw)(hy:ae2 n xs c=ai y)(w:aU)(K:ax->Prop)(v:aL)(hr:gY φ w K v (.sl 4 (xs.map iz.enc)))(hK:∀b,K b->b<w.heap.size): fF aO 231 #[.int .i64 n,v,.int .i64 c] w λr w'=>∃u,r=.returned (.tuple #[u,.int .i64 y.2])/\Lo w.heap.size w w'/\gY φ w' (λb=>w.heap.size<=b/\b<w'.heap.size) u (.sl 1 (y.1.map nO.enc)):=by
 obtain⟨iR,hiR,heR⟩:=aM.1 azY;simp only[bS]at heR;obtain⟨zR,sR,bR⟩:=heR;unfold ae2 at hy;split at hy;rotate_left;·cases hy
 rename_i hnc;unfold X0 at hy;simp only[ag,afM,aJ,not_true_eq_false,hnc,lM]at hy;obtain⟨hn1,hn6,hc1,hc2⟩:=hnc;split at hy;rotate_left;·cases hy
 rename_i hsm;obtain⟨eJ,hsm⟩:=hsm;obtain⟨⟨av,cp,rfl⟩,hls⟩:=aAn hr;obtain⟨m,rfl⟩:∃m:ax,n=m:=⟨n.toNat,by omega⟩;rw[aH]at hy;have hm1:1<=m:=by omega
 have hm6:m<=6:=by omega
 have hm9:(m:aw)<=6:=by omega
 go_enter aLU,Tryz.ntmps231;have hz1:(w.alloc (.cells #[.slice av (ae xs) cp,.slice au 0 0,.int .i64 0,.int .i64 c,.bool aA] 281)).heap.size=w.heap.size+1:=by simp
 have L2:Lo w.heap.size w (w.alloc (.cells #[.slice av (ae xs) cp,.slice au 0 0,.int .i64 0,.int .i64 c,.bool aA] 281)):=(Lo.refl _ _).alloc (bx _) _;obtain⟨Bp,hBp⟩:∃Bp,Bp=w.heap.size:=⟨_,rfl⟩;have hS1:w.heap.size<=Bp:=by omega
 have N0:PwB 281 48 2 w.heap.size Bp (.slice av (ae xs) cp) [.int .i64 c,.bool aA] 0 (.slice au 0 0) 0 (w.alloc (.cells #[.slice av (ae xs) cp,.slice au 0 0,.int .i64 0,.int .i64 c,.bool aA] 281)):= ⟨HB _ _ hBp,[],au,λ_=>0,.empty au,rfl,λi hi=>bG hi (yV _),λi k hi=>bG hi (yV _),λb hb=>by cases hb⟩;go_wp2_with (fail);rw[<-hBp];clear hBp;go_loopw [9] (λiv wr=>∃(j:ax) (pv:aL),iv=.int .i64 j/\j<=m/\PwB 281 48 2 w.heap.size Bp (.slice av (ae xs) cp) [.int .i64 c,.bool aA] j pv 0 wr/\Lo w.heap.size w wr) (λiv _=>((m:aw)-intOf iv).toNat);case atStart=>exact⟨0,_,rfl,jJ _,N0,L2⟩
 case round=>
  clear N0 L2 hz1;obtain⟨j,pv,rfl,hj,N,L⟩:=hrel;rcases bL j m with dE|hge
  ·(have ajd:(j:aw)<m:=by omega);have N1:=N.fI hS1 (w':=wr.drew) λ_ _=>rfl;obtain⟨ad,n',cp',w7,jn,hB7,N7,L7⟩:=N1.step (i:=iR) (t:=29) (P:=aO) (show w.heap.size<=wr.drew.heap.size from L.size) (by omega) aif hiR sR zR rfl (by rw[bR];omega) 1 29;(have b1:wr.cell? ⟨Bp,1,au⟩=ai pv:=by simp[b9,N.box]);have hm:=azZ;have hB9:=hB7.trans N1.box;(have b7:w7.cell? ⟨Bp,1,au⟩=ai pv:=by simp[b9,hB9]);(have z7:w7.frozen? ⟨Bp,1,au⟩=aA:=by simp[yT,hB9]);generalize ((bK 40 (0:aw)).map (fq .i64)).toArray=zs at hm jn;(have hzA:(wr.alloc (.cells zs 2)).heap.size=wr.heap.size+1:=by simp);(have bA:(wr.alloc (.cells zs 2)).cell? ⟨Bp,1,au⟩=ai pv:=by rw[<-b1];simp only[b9,iN wr (.cells zs 2) (Di N.box)]);(have bC:((wr.alloc (.cells zs 2)).alloc (.cells #[.slice (ai ⟨wr.heap.size,0,au⟩) 40 40] 48)).cell? ⟨Bp,1,au⟩=ai pv:=by rw[<-bA];simp only[b9,iN (wr.alloc (.cells zs 2)) (.cells #[.slice (ai ⟨wr.heap.size,0,au⟩) 40 40] 48) (show Bp<(wr.alloc (.cells zs 2)).heap.size by rw[hzA];have:=Di N.box;omega)]);clear hB7 hB9 N1;go_wp2_with (fail);go_region_law (first|(refine av9 jn rfl _ _ rfl rfl rfl rfl ?_)|fail);(all_goals go_wp2_with (fail));all_goals exact⟨⟨j+1,_,rfl,by omega,N7,(Lo.drew L).trans (L7.trans ((Lo.refl _ _).setCell hS1))⟩,by simp only[intOf];omega⟩
  ·(obtain rfl:j=m:=by omega);(have auU:¬((j:ax):aw)<(j:aw):=by omega);obtain⟨pb,cv,rb,rfl,hcv,hD,N2,hSp,hSr⟩:=N.done (by omega);have call:=aBV (S:=w.heap.size) (w0:=w) hD ⟨hS1,hSp,hSr⟩ hm6 hc2 eJ hsm (λi x hx=>by obtain⟨b,o,cap,e1,e2,e3⟩:=hls i x hx;exact⟨b,o,cap,e1,hK b e2,e3⟩) xs 0 0 rfl (jJ _) rfl wr _ c 0 _ rfl L L.size (by omega) (by omega) (by omega) N2;(have hXS:∀c,(c=Bp\/∃i,i<j/\c=rb i)->w.heap.size<=c:=by rintro c (rfl|⟨i,hi,rfl⟩);(·exact hS1);·exact hSr i hi);generalize JR xs 0 (bK j (bK 40 0)) c=r at hy call;obtain⟨f0,o0,ae1,amV⟩:=r;clear N N2 hls hr;go_wp2_with (fail);go_at_call 293;refine call.mono ?_;clear call;rintro e w4 ⟨R4,h⟩;have L4:Lo w.heap.size w w4:=L.rg R4 hXS L.size;(rcases h with ⟨h3,rfl,nd4,N4,_⟩|⟨⟨h3,h4⟩,rfl,aJD,N4⟩);(·cases h3;rw[aP (by simp)]at hy;have N4:Oy 281 48 2 Bp pb rb j cv (.slice av (ae xs) cp) [.int .i64 c,.bool aA] ae1 nd4 w4:=N4;have b1:=N4.c1;(have b4:w4.cell? ⟨Bp,4,au⟩=ai (.bool aA):=by simp[b9,N4.box]);cases f0 with|false=>rw[aQ rfl]at hy;cases hy;go_wp2_with (fail);go_ret2;exact⟨_,rfl,L4,.Rx au 0 1⟩|true=>rw[aP (by simp)]at hy;cases hy;obtain⟨l1,l2,l3⟩:=N4.lts;go_wp2_with (fail);go_ret2;exact⟨_,rfl,L4,N4.data hcv ⟨⟨hSp,l2⟩,λi hi=>⟨hSr i hi,l3 i hi⟩⟩⟩);·cases h3;cases h4;rw[aQ rfl]at hy;cases hy;(have b4:w4.cell? ⟨Bp,4,au⟩=ai (.bool aB):=by simp[b9,N4.box]);go_wp2_with (fail);go_ret2;exact⟨_,rfl,L4,.Rx au 0 1⟩
def aOQ{φ:ax->ax}{g:ax}(hφ:φ g=231):oQ aO φ g Zd:=by
 refine oQ.mK (by rw[hφ];exact⟨_,aLU,by decide+kernel,rfl⟩) rfl rfl λx y hy=> ?_;obtain⟨n,xs,c,⟨⟩⟩:=x;have e1:KJ Zd.ps (n,xs,c,())=[.int .i64 n,.sl 4 ((show ah iz.ty from xs).map iz.enc),.int .i64 c]:=by have q:((ET.one (.sl iz)).v (show ah iz.ty from xs)).a=(ET.one (.sl iz)).enc (show ah iz.ty from xs):=ET.v_a _ _;exact wE (λz=>([.int .i64 n,z,.int .i64 c]:ah A)) q
 have e2:JD Zd y=([.sl 1 ((show ah (ah aw)×aw from y).1.map nO.enc),.int .i64 (show ah (ah aw)×aw from y).2],[]):=by have q:((ET.one (.sl nO)).v (show ah (ah aw)×aw from y).1).a=(ET.one (.sl nO)).enc (show ah (ah aw)×aw from y).1:=ET.v_a _ _;exact wE (λz=>(([z,A.int .i64 (show ah (ah aw)×aw from y).2]:ah A),([]:ah A))) q
 have e3:=wE (λz=>dx aO φ g z (JD Zd y).1 (JD Zd y).2) e1;refine e3.mpr ?_;rw[e2];have hn:([.int .i64 n,.sl 4 ((show ah iz.ty from xs).map iz.enc),.int .i64 c]:ah A).any Ga=aA:=rfl;intro w K vs bs ha Jg hKb hKz hG;obtain⟨hr,rfl⟩:=ha.am6 hn;cases hr with|cons v1 _ vs1 _ hv1 t1=>
 cases t1 with|cons v2 _ vs2 _ hv2 t2=>
 cases t2 with|cons v3 _ vs3 _ hv3 t3=>
 cases t3;cases hv1;cases hv3;have:=aIg φ n xs c y hy w K v2 hv2 hKz;rw[hφ];refine this.mono λe w' hq=> ?_;obtain⟨u,rfl,hb,h3⟩:=hq;refine⟨_,rfl,hb.size,λb hb' _=>hb.block b hb',⟨hb.os,hb.output⟩,λb off hb'=>kC (hb.block b hb') off,λb n hr=>hr.of_block (hb.block b hr.lt),?_⟩
 exact⟨[u,.int .i64 (show ah (ah aw)×aw from y).2],λb=>K b\/(w.heap.size<=b/\b<w'.heap.size),[],[],rfl,λ_ h=>.inl h,λ_ h=>h.elim .inl λh=>.inr (.inr h),
  gz.ml (.cons _ _ _ _ (h3.mono (λ_ _=>rfl) λ_ h=>.inr h) (.cons _ _ _ _ (.int _ _) .nil)),jF.RT ha.len hn,by simp,λb hb'=>by simp at hb'⟩
end
def ag7:oQ aO Jh 1201 JP:=aOQ (by kernel_rfl)
def Wk:=rk qG (kk cE<|kk aaP<|kk ag7 zz)
def akr:=rk tC zz
def aeM:=rk oL (kk S5 zz)
def Uk:=rk lH zz
def FP(n:ax):WR aO Jh 1202 (ko n).dec.1=aB:=by kernel_rfl
def Dn:∀n,oQ aO Jh 1202 (Ja n)
 |0=>oQ.none (ado hm (D:=[]) DOk.nil (FP 0) [] [] [] []).1
 |n+1=>by rw[Tj];exact rk (ko n) (kk aeM<|kk EA<|kk (Dn n)<|kk Uk<|kk akr zz) (FP n)
def Wp:oQ aO Jh 1202 Jb:=Dn 1000
def Z0:=rk CS (kk cE<|kk Bb<|kk Wp zz)
def abY:=rk fi (kk aeD<|kk aj3<|kk EC<|kk VG<|kk EB<|kk PV<|kk ajZ<|kk aeE<|kk aj2<|kk ag1<|kk ant<|kk aeF<|kk Wk<|kk Z0 zz)
def ahc:=rk jm (kk Z1<|kk aj0<|kk yw<|kk abY<|kk VG<|kk Z3<|kk EB<|kk VD<|kk abW<|kk oF<|kk PV zz)
def apJ:=rk UQ (kk lV<|kk ahc<|kk aky<|kk aha zz)
def aj1:=rk th (kk anB<|kk apJ<|kk lV zz)
def oH:oQ aO Jh 683 nC:=wc Tryz.aEI (dY (by kernel_rfl)) (by kernel_rfl)
def iw:=rk iB zz
def ajF:=rk Mr zz
def VA:=rk Ej zz
def o9:=rk jQ (kk iw<|kk VA zz)
def ct:=rk cB zz
def XM:=rk HN (kk ct zz)
def QZ:=rk Ei (kk ct zz)
def Kh:=rk uD (kk ct<|kk o9<|kk XM<|kk QZ zz)
def Ki:=rk o3 (kk iw<|kk Kh zz)
def PJ:=rk zh (kk ct<|kk o9 zz)
def PN:=rk sJ (kk iw<|kk PJ zz)
def anl:=rk wm (kk ct zz)
def pc:=rk kH (kk anl zz)
def Ew:=rk sG (kk ct zz)
def XL:=rk HK (kk ct zz)
def PI:=rk za (kk ct<|kk o9<|kk XL zz)
def PL:=rk sH (kk iw<|kk PI zz)
def VB:=rk El (kk ct zz)
def anm:=rk QP (kk ct zz)
def Eu:=rk sB (kk ct<|kk o9<|kk VB<|kk anm zz)
def PM:=rk sI (kk iw<|kk Eu zz)
def XN:=rk HO (kk ct zz)
def MV:=rk wX (kk ct<|kk o9<|kk XN zz)
def MX:=rk qt (kk iw<|kk MV zz)
def anp:=rk QR (kk ct zz)
def ank:=rk QO (kk ct zz)
def MZ:=rk w9 (kk o9<|kk anp<|kk ank zz)
def MY:=rk w8 (kk iw<|kk MZ zz)
def AH:=rk oU (kk ct<|kk o9 zz)
def nK:=rk ja (kk iw<|kk AH zz)
def PK:=rk zj (kk PM<|kk Ew<|kk PL<|kk MX<|kk PN<|kk nK<|kk Ki<|kk pc<|kk MY zz)
def OH:=rk qY zz
def SU:=rk uJ zz
def qD:=rk gA zz
def agW:=rk BL (kk qD zz)
def SR:=rk uH zz
def SS:=rk uI zz
def QX:=rk sL zz
def QY:=rk sN zz
def Hb:=rk mH zz
def agV:=rk Jx (kk QX<|kk SU<|kk OH<|kk agW<|kk SR<|kk SS<|kk QY<|kk Hb zz)
def apC:=rk TU (kk ct zz)
def lT:=rk jW zz
def apB:=rk KP (kk lT zz)
def asP:=rk IE (kk apB zz)
def ani:=rk QG (kk lT zz)
def ZW:=rk uC (kk asP<|kk ani zz)
def ZV:=rk oW (kk ZW<|kk XM<|kk apC<|kk QZ<|kk Ki zz)
def XW:oQ aO Jh 864 AJ:=asm Tryz.ava ⟨5,by kernel_rfl⟩ (by kernel_rfl)
def lh:=rk jP (kk XW zz)
def JC:oQ aO Jh 630 yQ:=aHC Tryz.aHF Tryz.acP (by kernel_rfl)
def Ha:=rk pY (kk iw<|kk ct<|kk lh<|kk JC zz)
def IN:=rk CJ zz
def oE:=rk lf (kk Ha<|kk IN zz)
def agL:=rk Vn (kk ZV<|kk oE zz)
def ajN:=rk MJ (kk ct zz)
def SV:=rk oa zz
def XK:=rk nJ zz
def DP(n:ax):WR aO Jh 506 (gu n).dec.1=aB:=by kernel_rfl
def A9:∀n,oQ aO Jh 506 (F0 n)
 |0=>oQ.none (ado hm (D:=[]) DOk.nil (DP 0) [] [] [] []).1
 |n+1=>by rw[QK];exact rk (gu n) (kk (A9 n)<|kk XK zz) (DP n)
def Ui:oQ aO Jh 506 F2:=A9 1000
def ajD:=rk xK (kk ct<|kk Ui<|kk SV<|kk ajN<|kk PN zz)
def agK:=rk Vm (kk ajD<|kk oE zz)
def anj:=rk QN (kk ct zz)
def anr:=rk A2 zz
def SY:=rk BQ zz
def aeB:=rk zr (kk lT<|kk SY<|kk anr zz)
def aet:=rk GI (kk pc<|kk aeB<|kk anj zz)
def uQ:=rk nh (kk lh<|kk IN zz)
def aek:=rk Sf (kk aet<|kk uQ zz)
def agY:=rk JA (kk ct zz)
def SP:=rk uy (kk lT zz)
def ajK:=rk xV (kk ct<|kk lT<|kk Ew<|kk SP<|kk agY zz)
def aen:=rk Si (kk ajK<|kk uQ zz)
def apD:=rk TX (kk ct zz)
def aes:=rk zb zz
def aio(n:ax):WR aO Jh 499 (CI n).dec.1=aB:=by kernel_rfl
def aaI:∀n,oQ aO Jh 499 (amx n)
 |0=>oQ.none (ado hm (D:=[]) DOk.nil (aio 0) [] [] [] []).1
 |n+1=>by rw[apw];exact rk (CI n) (kk (aaI n)<|kk qD<|kk aes zz) (aio n)
def avx:oQ aO Jh 499 amy:=aaI 1000
def ajE:=rk xM (kk iw<|kk PL<|kk avx<|kk XL<|kk apD zz)
def agM:=rk Vo (kk ajE<|kk oE zz)
def ano:=rk QQ (kk ct zz)
def agO:=rk Ju (kk lT zz)
def ZT:=rk CC (kk agO<|kk ano<|kk Eu zz)
def aem:=rk GA (kk ZT<|kk uQ zz)
def agT:=rk BJ (kk iw<|kk VB zz)
def agU:=rk BK zz
def XJ:=rk rY (kk lT zz)
def FM(n:ax):WR aO Jh 554 (kg n).dec.1=aB:=by kernel_rfl
def Dk:∀n,oQ aO Jh 554 (IF n)
 |0=>oQ.none (ado hm (D:=[]) DOk.nil (FM 0) [] [] [] []).1
 |n+1=>by rw[SF];exact rk (kg n) (kk XJ<|kk (Dk n)<|kk qD zz) (FM n)
def Wi:oQ aO Jh 554 IG:=Dk 1000
def abR:=rk wW (kk ct<|kk PM<|kk Wi<|kk agU<|kk agT zz)
def aei:=rk Sd (kk abR<|kk oE zz)
def SX:=rk BP zz
def SW:=rk BM zz
def anh:=rk HD (kk SW<|kk SX<|kk XN zz)
def ax5:=rk agm zz
def aeA:=rk Pu (kk ax5 zz)
def agN:=rk Js (kk aeA<|kk ct<|kk lh zz)
def ael:=rk Sg (kk anh<|kk agN<|kk IN zz)
def aez:=rk sK (kk ct<|kk SW<|kk MX<|kk SX zz)
def aeq:=rk Sk (kk aez<|kk oE zz)
section
open Go.Ab Go.Proofs
def S6(w:aU)(n a b:aw):fF aO 134 #[.int .i64 n,.int .i64 a,.int .i64 b] w λe w'=>e=.returned (.bool (ao (a<=n)&&ao (n<=b)))/\w'=w:=by
 by_cases h:a<=n
 .by_cases h2:n<=b;·rw[cF h,cF h2];go_enter awC,atH;go_wp2_with (fail);go_ret;exact⟨rfl,rfl⟩
  .rw[cF h,wh h2];go_enter awC,atH;go_wp2_with (fail);go_ret;exact⟨rfl,rfl⟩
 .rw[wh h];go_enter awC,atH;go_wp2_with (fail);go_ret;exact⟨rfl,rfl⟩
def aHY(w:aU)(b:ax)(row:ah aw)(hb:RI 2 b row w)(hl:ae row=40)(a n:ax)(ha:a<=39)(hn:n<=40): fF aO 403 #[.slice (ai ⟨b,0,au⟩) 40 40,.int .i64 a,.int .i64 n] w λe w'=>e=.returned (.bool (Vg row a n))/\w'=w:=by
 by_cases h:(a:aw)+n<=40
 .have ass:((a:aw)+n)-a=n:=by omega
  have han:((a:aw)+n).toNat=a+n:=by omega
  have h':¬(40<(a:aw)+n):=by omega
  go_enter aMd,aJ1;go_wp2_with (fail);go_loopw [8,20] (λ_ jv wr=>∃j:ax,jv=.int .i64 j/\j<=n/\(∀m,m<j->row[a+m]? =ai 0)/\wr=w) (λ_ jv _=>((n:aw)-intOf jv).toNat);case atStart=>exact⟨0,rfl,jJ _,λm hm=>bG hm (yV _),rfl⟩
  case round=>
   obtain⟨j,rfl,hj,hz,rfl⟩:=hrel;(have hn9:(n:aw)<=40:=by omega);rcases bL j n with dE|hge
   ·(have ajd:(j:aw)<n:=by omega);have hx:=aE (show a+j<ae row by omega);generalize row[a+j]'(by omega)=x at hx;have jy:=hb.cell hx;by_cases hx0:x=0
    .subst hx0;go_wp2_with (fail)
     exact⟨⟨j+1,rfl,by omega,λm hm=>by
      rcases bL m j with h|h
      .exact hz m h
      .obtain rfl:m=j:=by omega
       exact hx,trivial⟩,by simp only[intOf];omega⟩
    .have hf:Vg row a n=aA:=wh λq=>hx0 (by have:=q.2 j (by simpa using dE);rw[aH,hx]at this;exact cA this);go_wp2_with (fail);go_ret;exact⟨by rw[hf];rfl,rfl⟩
   ·(obtain rfl:j=n:=by omega);(have auU:¬((j:ax):aw)<(j:aw):=by omega);have hf:Vg row a j=aB:=cF ⟨h,λm hm=>by rw[aH]at hm⊢;exact hz m hm⟩;go_wp2_with (fail);go_ret;exact⟨rfl,rfl⟩
 .have hf:Vg row a n=aA:=wh λq=>h q.1;rw[hf];go_enter aMd,aJ1;go_wp2_with (fail);go_ret;exact⟨rfl,rfl⟩
def azX(w:aU)(b:ax)(row:ah aw)(hb:RI 2 b row w)(hl:ae row=40)(a n:ax)(ha:a+n<=40)(v:aw): fF aO 404 #[.slice (ai ⟨b,0,au⟩) 40 40,.int .i64 a,.int .i64 n,.int .i64 v] w λe w'=>e=.returned (.tuple #[])/\RI 2 b (xJ row a n v) w'/\Rg (λc=>c=b) w w':=by
 go_enter Tryz.func404,Tryz.ntmps404;go_wp2_with (fail);go_loopw [8] (λiv wr=>∃t:ax,iv=.int .i64 (a+t:ax)/\t<=n/\RI 2 b (xJ row a t v) wr/\Rg (λc=>c=b) w wr) (λiv _=>(((a+n:ax):aw)-intOf iv).toNat);case atStart=>exact⟨0,rfl,by omega,by rw[amc];exact hb,Rg.refl _ _⟩
 case round=>
  obtain⟨t,rfl,ht,B,R⟩:=hrel;have ha9:((a+n:ax):aw)<=40:=by omega
  rcases bL t n with dE|hge
  ·(have ajd:((a+t:ax):aw)<(a:aw)+n:=by omega);(have hat:a+t<40:=by omega);(have eJ:ae (xJ row a t v)=40:=by rw[Db (by omega)];exact hl);have jy:=B.cell (k:=a+t) (aE (by omega));have hfz:=B.frozen (a+t);have B2:=B.set (a+t) v;rw[amb (by omega)]at B2;go_wp2_with (fail);exact⟨⟨t+1,by congr 1,by omega,B2,R.setCell rfl⟩,by simp only[intOf];omega⟩
  ·(obtain rfl:t=n:=by omega);(have auU:¬((a+t:ax):aw)<(a:aw)+t:=by omega);go_wp2_with (fail);refine bodyPost_end (results_none rfl _ _ _) rfl ⟨rfl,B,R⟩
end
section
open Go.Ab Go.Proofs
section
variable {S n cv Bp pb:ax} {rb:ax->ax} {rj:ah iz.ty} {w0:aU} {av:aq afQ} {cp:ax}
set_option maxHeartbeats 6400000 in
def aBG(hD:PwD n Bp pb rb)(hX:S<=Bp/\S<=pb/\∀j,j<n->S<=rb j)(hn:n<=6)(hll:ae rj<=1000)(hsm:rj.all Uv=aB) (hls:∀(i:ax) (x:iz.ty),rj[i]? =ai x->∃b o cap,U7 av (ae rj) cp=.slice (ai ⟨b,o,au⟩) (ae rj) cap/\b<S/\ w0.cell? ⟨b,o+i*4,au⟩=ai (.string ⟨x.1.toArray⟩)/\w0.cell? ⟨b,o+i*4+1,au⟩=ai (.int .i64 (wkD x))/\w0.cell? ⟨b,o+i*4+2,au⟩=ai (.int .i64 (wkF x))/\w0.cell? ⟨b,o+i*4+3,au⟩=ai (.int .i64 (wkL x))): ∀(xs:ah iz.ty) (k:ax) (kI:aw),kI=k->k<=ae rj->rj.drop k=xs->∀(w:aU) (bJ:ah (ah aw)) (left:aw) (r:PwR),JR xs kI bJ left=r->Lo S w0 w->S<=w.heap.size->0<=left->left<=20000-> Oy 348 48 2 Bp pb rb n cv (.slice av (ae rj) cp) [] bJ left w-> fF aO 376 #[.pointer (ai ⟨Bp,0,au⟩),.int .i64 kI] w λe w'=>e=.returned (.tuple #[.bool r.1,.bool r.2.1])/\Oy 348 48 2 Bp pb rb n cv (.slice av (ae rj) cp) [] r.2.2.1 r.2.2.2 w'/\Rg (λc=>c=Bp\/∃j,j<n/\c=rb j) w w'/\0<=r.2.2.2/\r.2.2.2<=20000:=by
 intro xs
 induction xs with
 |nil=>
  intro k kI hk hkl hdr w bJ left r hr L0 hS0 WW Vk N;subst hk;have hke:k=ae rj:=by have:=wE ae hdr;simp at this;omega
  have hk9:(k:aw)<=1000:=by omega
  have aRN:(k:aw)=(ae rj:aw):=by omega
  rw[JR]at hr;subst hr;have b0:=N.c0;have b1:=N.c1;have b2:=N.c2;go_enter aL8,aJ0;go_wp2_with (fail);go_ret2;exact⟨rfl,N,Rg.refl _ _,WW,Vk⟩
 |cons x xs ih=>
  intro k kI hk hkl hdr w bJ left r hr L0 hS0 WW Vk N;subst hk;have dE:k<ae rj:=by have:=wE ae hdr;simp at this;omega
  rw[ba dE]at hdr;injection hdr with hx hdr;have hxk:rj[k]? =ai x:=by rw[aE dE,hx]
  have hs:=bz.1 hsm x (cq hxk);obtain⟨lb,lo,aTn,e1,hlb,c0,c1,c2,c3⟩:=hls k x hxk;injection e1 with e1 _ e2;subst e1 e2;rw[arv]at hr;simp only[Uv,az,aG]at hs;obtain⟨⟨⟨⟨⟨s1,s2⟩,s3⟩,s4⟩,s5⟩,s6⟩:=hs;obtain⟨dn,hdn⟩:∃m:ax,wkD x=(m:aw):=⟨(wkD x).toNat,by omega⟩;obtain⟨fn,hfn⟩:∃m:ax,wkF x=(m:aw):=⟨(wkF x).toNat,by omega⟩;obtain⟨ln,hln⟩:∃m:ax,wkL x=(m:aw):=⟨(wkL x).toNat,by omega⟩;rw[hdn]at c1 s1 s2 hr;rw[hfn]at c2 s3 s4 hr;rw[hln]at c3 s5 s6 hr;generalize (⟨x.1.toArray⟩:nD)=xid at c0;clear hx hxk hdn hfn hln hls;rw[N.len]at hr;have b0:=N.c0;have b1:=N.c1;have b2:=N.c2;have hk9:(k:aw)<1000:=by omega
  have hke:¬(k:aw)=(ae rj:aw):=by omega
  have hup:∀o,w.cell? ⟨lb,o,au⟩=w0.cell? ⟨lb,o,au⟩:=λo=>by simp only[b9,L0.block lb hlb]
  rw[<-hup]at c0 c1 c2 c3;have N1:=N.alloc (.cells #[.string xid,.int .i64 dn,.int .i64 fn,.int .i64 ln] 121);have d1:=N1.c1;have hz1:(w.alloc (.cells #[.string xid,.int .i64 dn,.int .i64 fn,.int .i64 ln] 121)).heap.size=w.heap.size+1:=by simp
  have hbx:(w.alloc (.cells #[.string xid,.int .i64 dn,.int .i64 fn,.int .i64 ln] 121)).heap[w.heap.size]? =ai (.cells #[.string xid,.int .i64 dn,.int .i64 fn,.int .i64 ln] 121):=HB _ _ rfl;have R1:Rg (λc=>c=Bp\/∃j,j<n/\c=rb j) w (w.alloc (.cells #[.string xid,.int .i64 dn,.int .i64 fn,.int .i64 ln] 121)):=Rg.anf ((Lo.refl _ _).alloc (bx _) _);have hnX:¬(w.heap.size=Bp\/∃j,j<n/\w.heap.size=rb j):=by obtain⟨q1,_,q3⟩:=N.lts;rintro(q|⟨j,hj,q⟩);(·omega);·have:=q3 j hj;omega
  have hXS:∀c,(c=Bp\/∃j,j<n/\c=rb j)->S<=c:=by rintro c (rfl|⟨j,hj,rfl⟩);(·exact hX.1);·exact hX.2.2 j hj
  go_enter aL8,aJ0;go_wp2_with (fail);generalize hW1:w.alloc (.cells #[.string xid,.int .i64 dn,.int .i64 fn,.int .i64 ln] 121)=w1 at*;clear hW1 c0 c1 c2 c3 hup;go_loopw [4,5,8,9,29] (λ_ _ _ _ iv wr=>∃(i:ax) (bJ:ah (ah aw)) (left:aw),iv=.int .i64 i/\i<=n/\axq (as9 (JR xs (k+1)) fn dn ln k (n-i) i bJ left)=r/\Oy 348 48 2 Bp pb rb n cv (.slice (ai ⟨lb,lo,au⟩) (ae rj) cp) [] bJ left wr/\Rg (λc=>c=Bp\/∃j,j<n/\c=rb j) w1 wr/\0<=left/\left<=20000) (λ_ _ _ _ iv _=>((n:aw)-intOf iv).toNat);case atStart=>exact⟨0,bJ,left,rfl,jJ _,hr,N1,Rg.refl _ _,WW,Vk⟩
  case round=>
   clear hr N N1 d1 b0 b1 b2 WW Vk;obtain⟨i,bJ,left,rfl,hi,hr,N,R,WW,Vk⟩:=hrel;have azc:∀{u:aU},Rg (λc=>c=Bp\/∃j,j<n/\c=rb j) w1 u->u.heap[w.heap.size]? =ai (.cells #[.string xid,.int .i64 dn,.int .i64 fn,.int .i64 ln] 121):=λh=>(h.block _ (by omega) hnX).trans hbx;rcases bL i n with xp|hge
   ·(have ajd:(i:aw)<n:=by omega);obtain⟨m,hm⟩:∃m,n-i=m+1:=⟨n-i-1,by omega⟩;rw[hm,arl]at hr;have jy:=N.cell xp;have hb0:=azc R;(have g2:wr.cell? ⟨w.heap.size,2,au⟩=ai (.int .i64 fn):=by simp[b9,hb0]);(have hn9:(n:aw)<=6:=by omega);go_wp2_with (fail);go_loopw [4,5,9] (λ_ _ dv wr=>∃(d f:ax) (bJ:ah (ah aw)) (left:aw),dv=.int .i64 d/\d<=40/\ln+1<=d+f/\axq (aDG (JR xs (k+1)) fn dn ln k m i (af4 (JR xs (k+1)) i dn ln k f d bJ left))=r/\Oy 348 48 2 Bp pb rb n cv (.slice (ai ⟨lb,lo,au⟩) (ae rj) cp) [] bJ left wr/\Rg (λc=>c=Bp\/∃j,j<n/\c=rb j) w1 wr/\0<=left/\left<=20000) (λ_ _ dv _=>((ln:aw)+1-intOf dv).toNat);case atStart=>exact⟨fn,((ln:aw)+1-fn).toNat,bJ,left,rfl,by omega,by omega,hr,N,R,WW,Vk⟩
    case round=>
     clear hr N R WW Vk jy hb0 g2;obtain⟨d,f,bJ,left,rfl,hd,hf,hr,N,R,WW,Vk⟩:=hrel;have hb0:=azc R;(have g1:wr.cell? ⟨w.heap.size,1,au⟩=ai (.int .i64 dn):=by simp[b9,hb0]);(have g3:wr.cell? ⟨w.heap.size,3,au⟩=ai (.int .i64 ln):=by simp[b9,hb0]);(have hd9:(d:aw)<=40:=by omega);by_cases aD0:(d:aw)+dn-1<=ln;·obtain⟨f,rfl⟩:∃f',f=f'+1:=⟨f-1,by omega⟩;rw[af4,aQ aD0]at hr;obtain⟨hRB,hRl⟩:=N.row i xp;have Vi:=aHY wr (rb i) (Go.Ab.rowAt bJ i) hRB hRl d dn (by omega) (by omega);cases hfb:Vg (Go.Ab.rowAt bJ i) d dn with|false=>rw[hfb]at Vi hr;simp only[ar,aJ]at hr;clear hfb;go_wp2_with (fail);go_at_call 403;refine Vi.mono ?_;rintro e w' ⟨rfl,rfl⟩;go_wp2_with (fail);exact⟨⟨d+1,f,bJ,left,by congr 1,by omega,by omega,hr,N,R,WW,Vk⟩,by simp only[intOf];omega⟩|true=>rw[hfb]at Vi;rw[aQ hfb]at hr;clear hfb;have b2:=N.c2;by_cases hl:left=0;(·rw[aQ hl]at hr;subst hl;go_wp2_with (fail);go_at_call 403;refine Vi.mono ?_;rintro e w' ⟨rfl,rfl⟩;go_wp2_with (fail);go_ret2;subst hr;exact⟨rfl,N,R1.trans R,by show(0:aw)<=0;omega,by show(0:aw)<=20000;omega⟩);·rw[aP hl]at hr;simp only[aH]at hr;have hfz:=N.fz 2;have N2:=N.aaF hD (left-1);have JZ:=azX _ (rb i) (Go.Ab.rowAt bJ i) (N2.row i xp).1 hRl d dn (by omega) (k+1);generalize WY:JR xs ((k:aw)+1) (bJ.set i (xJ (Go.Ab.rowAt bJ i) d dn ((k:aw)+1))) (left-1)=r0 at hr;obtain⟨f0,o0,ae1,amV⟩:=r0;have R2:Rg (λc=>c=Bp\/∃j,j<n/\c=rb j) w1 (wr.setCell ⟨Bp,2,au⟩ (.int .i64 (left-1))):=R.setCell (.inl rfl);have hb2:=azc R2;(have q1:(wr.setCell ⟨Bp,2,au⟩ (.int .i64 (left-1))).cell? ⟨w.heap.size,1,au⟩=ai (.int .i64 dn):=by simp[b9,hb2]);go_wp2_with (fail);go_at_call 403;refine Vi.mono ?_;rintro e w' ⟨rfl,rfl⟩;go_wp2_with (fail);refine JZ.mono ?_;rintro e w3 ⟨rfl,B3,R3⟩;have N3:=N2.aFF hD xp B3 (by rw[Db (by omega)];exact hRl) R3;replace R3:Rg (λc=>c=Bp\/∃j,j<n/\c=rb j) w1 w3:=R2.trans (R3.mono λc hc=>.inr ⟨i,xp,hc⟩);clear R2 hb2 q1 N2 B3 Vi JZ hRB hb0 g1 g3 b2 hfz;have L3:Lo S w0 w3:=L0.rg (R1.trans R3) hXS hS0;have call:=ih (k+1) ((k:aw)+1) (by omega) (by omega) hdr w3 _ _ _ WY L3 (by have:=R1.size;have:=R3.size;omega) (by omega) (by omega) N3;clear N N3;cases f0 with|true=>go_wp2_with (fail);go_at_call 376;refine call.mono ?_;rintro e w4 ⟨rfl,N4,R4,hl4,hl5⟩;replace R4:=R3.trans R4;go_wp2_with (fail);go_ret2;subst hr;exact⟨rfl,N4,R1.trans R4,hl4,hl5⟩|false=>cases o0 with|false=>go_wp2_with (fail);go_at_call 376;refine call.mono ?_;rintro e w4 ⟨rfl,N4,R4,hl4,hl5⟩;replace R4:=R3.trans R4;go_wp2_with (fail);go_ret2;subst hr;exact⟨rfl,N4,R1.trans R4,hl4,hl5⟩|true=>simp only[ar,afM,or_self,aJ]at hr;go_wp2_with (fail);go_at_call 376;refine call.mono ?_;rintro e w4 ⟨rfl,N4,R4,hl4,hl5⟩;replace R4:=R3.trans R4;have N4:Oy 348 48 2 Bp pb rb n cv (.slice (ai ⟨lb,lo,au⟩) (ae rj) cp) [] ae1 amV w4:=N4;obtain⟨B4,Bl4⟩:=N4.row i xp;have aKI:=azX _ (rb i) (Go.Ab.rowAt ae1 i) B4 Bl4 d dn (by omega) 0;have hb4:=azc R4;(have q4:w4.cell? ⟨w.heap.size,1,au⟩=ai (.int .i64 dn):=by simp[b9,hb4]);go_wp2_with (fail);go_at_call 404;refine aKI.mono ?_;rintro e w5 ⟨rfl,B5,R5⟩;have N5:=N4.aFF hD xp B5 (by rw[Db (by omega)];exact Bl4) R5;replace R5:Rg (λc=>c=Bp\/∃j,j<n/\c=rb j) w1 w5:=R4.trans (R5.mono λc hc=>.inr ⟨i,xp,hc⟩);go_wp2_with (fail);exact⟨⟨d+1,f,_,amV,by congr 1,by omega,by omega,hr,N5,R5,hl4,hl5⟩,by simp only[intOf];omega⟩
     ·(have Zu:af4 (JR xs (k+1)) i dn ln k f d bJ left=.inr (bJ,left):=by cases f with|zero=>rfl|succ f=>rw[af4,aP aD0]);rw[Zu]at hr;clear Zu;go_wp2_with (fail);exact⟨⟨i+1,bJ,left,by congr 1,by omega,by rw[show n-(i+1)=m from by omega];exact hr,N,R,WW,Vk⟩,by simp only[intOf];omega⟩
   ·(obtain rfl:i=n:=by omega);rw[Qu]at hr;(have auU:¬((i:ax):aw)<(i:aw):=by omega);go_wp2_with (fail);go_ret2;subst hr;exact⟨rfl,N,R1.trans R,WW,Vk⟩
end
end
section
open Go.Ab Go.Proofs
set_option maxHeartbeats 6400000 in
def aHZ:aql aO 339 58:=⟨⟨_,WB,by decide+kernel,rfl⟩,by
 intro φ gv vw hφ ov n xs c y hy w K v hr hK hG
 obtain⟨iR,hiR,heR⟩:=aM.1 azY
 simp only[bS]at heR
 obtain⟨zR,sR,bR⟩:=heR
 unfold X0 at hy
 obtain⟨vb,hvb,hy1⟩:=aI.1 hy
 clear hy
 have Ip:=(ov _ _ hvb).bool (w:=w) (K:=K) (vs:=[v]) (.cons _ _ _ _ hr .nil) hK hG
 rw[hφ]at Ip
 obtain⟨⟨av,cp,rfl⟩,hls⟩:=aAn hr
 have Ip:fF aO 58 #[.slice av (ae xs) cp] w λe w'=>e=.returned (.bool vb)/\Lo w.heap.size w w':=Ip
 cases vb with
 |false=>
  rw[aQ rfl]at hy1
  cases hy1
  go_enter WB,ac2
  go_wp2_with (fail)
  go_at_call 58
  refine Ip.mono ?_
  rintro e w1 ⟨rfl,L1⟩
  go_wp2_with (fail)
  go_ret2
  exact⟨_,rfl,L1,.Rx au 0 1⟩
 |true=>
  rw[aP (by decide)]at hy1
  by_cases hn:1<=n/\n<=6
  rotate_left
  .rw[aQ (λh=>hn ⟨h.1,h.2.1⟩)]at hy1
   cases hy1
   have hb:(ao (1<=n)&&ao (n<=6))=aA:=by simp only[awU,jK];omega
   go_enter WB,ac2
   go_wp2_with (fail)
   go_at_call 58
   refine Ip.mono ?_
   rintro e w1 ⟨rfl,L1⟩
   have hw:=S6 w1 n 1 6
   rw[hb]at hw
   go_wp2_with (fail)
   go_at_call 134
   refine hw.mono ?_
   rintro e w' ⟨rfl,rfl⟩
   go_wp2_with (fail)
   go_ret2
   exact⟨_,rfl,L1,.Rx au 0 1⟩
  by_cases hc:1<=c/\c<=20000
  rotate_left
  .rw[aQ (λh=>hc h.2.2)]at hy1
   cases hy1
   have hb:(ao (1<=n)&&ao (n<=6))=aB:=by simp only[az,aG];omega
   have hb2:(ao (1<=c)&&ao (c<=20000))=aA:=by simp only[awU,jK];omega
   go_enter WB,ac2
   go_wp2_with (fail)
   go_at_call 58
   refine Ip.mono ?_
   rintro e w1 ⟨rfl,L1⟩
   have hw:=S6 w1 n 1 6
   have hw2:=S6 w1 c 1 20000
   rw[hb]at hw
   rw[hb2]at hw2
   go_wp2_with (fail)
   go_at_call 134
   refine hw.mono ?_
   rintro e w' ⟨rfl,rfl⟩
   go_wp2_with (fail)
   go_at_call 134
   refine hw2.mono ?_
   rintro e w' ⟨rfl,rfl⟩
   go_wp2_with (fail)
   go_ret2
   exact⟨_,rfl,L1,.Rx au 0 1⟩
  rw[aP (λh=>h ⟨hn.1,hn.2,hc⟩)]at hy1
  split at hy1
  rotate_left
  .cases hy1
  rename_i hsm
  obtain⟨eJ,hsm⟩:=hsm
  obtain⟨m,rfl⟩:∃m:ax,n=m:=⟨n.toNat,by omega⟩
  rw[aH]at hy1
  have hm1:1<=m:=by omega
  have hm6:m<=6:=by omega
  have hm9:(m:aw)<=6:=by omega
  have hb:(ao (1<=(m:aw))&&ao ((m:aw)<=6))=aB:=by simp only[az,aG];omega
  have hb2:(ao (1<=c)&&ao (c<=20000))=aB:=by simp only[az,aG];omega
  obtain⟨hc1,hc2⟩:=hc
  clear hn
  go_enter WB,ac2
  go_wp2_with (fail)
  go_at_call 58
  refine Ip.mono ?_
  rintro e w1 ⟨rfl,L1⟩
  have hw:=S6 w1 m 1 6
  have hw2:=S6 w1 c 1 20000
  rw[hb]at hw
  rw[hb2]at hw2
  go_wp2_with (fail)
  go_at_call 134
  refine hw.mono ?_
  rintro e w' ⟨rfl,rfl⟩
  go_wp2_with (fail)
  go_at_call 134
  refine hw2.mono ?_
  rintro e w' ⟨rfl,rfl⟩
  have hS1:=L1.size
  have hz1:(w'.alloc (.cells #[.slice av (ae xs) cp,.slice au 0 0,.int .i64 c] 348)).heap.size=w'.heap.size+1:=by simp
  have L2:Lo w.heap.size w (w'.alloc (.cells #[.slice av (ae xs) cp,.slice au 0 0,.int .i64 c] 348)):=L1.alloc hS1 _
  have N0:PwB 348 48 2 w.heap.size w'.heap.size (.slice av (ae xs) cp) [] 0 (.slice au 0 0) c (w'.alloc (.cells #[.slice av (ae xs) cp,.slice au 0 0,.int .i64 c] 348)):=
   ⟨HB _ _ rfl,[],au,λ_=>0,.empty au,rfl,λi hi=>bG hi (yV _),λi k hi=>bG hi (yV _),λb hb=>by cases hb⟩
  clear Ip hw hw2 hb hb2 hvb ov
  go_wp2_with (fail)
  generalize w'.heap.size=Bp at*
  go_loopw [27] (λiv wr=>∃(j:ax) (pv:aL),iv=.int .i64 j/\j<=m/\PwB 348 48 2 w.heap.size Bp (.slice av (ae xs) cp) [] j pv c wr/\Lo w.heap.size w wr)
   (λiv _=>((m:aw)-intOf iv).toNat)
  case atStart=>exact⟨0,_,rfl,jJ _,N0,L2⟩
  case round=>
   clear N0 L2
   obtain⟨j,pv,rfl,hj,N,L⟩:=hrel
   rcases bL j m with dE|hge
   .have ajd:(j:aw)<m:=by omega
    have N1:=N.fI hS1 (w':=wr.drew) λ_ _=>rfl
    obtain⟨ad,n',cp',w7,jn,hB7,N7,L7⟩:=N1.step (i:=iR) (t:=29) (P:=aO) (show w.heap.size<=wr.drew.heap.size from L.size) (by omega) aif hiR sR zR rfl (by rw[bR];omega) 1 29
    have b1:wr.cell? ⟨Bp,1,au⟩=ai pv:=by simp[b9,N.box]
    have hm:=azZ
    have hB9:=hB7.trans N1.box
    have b7:w7.cell? ⟨Bp,1,au⟩=ai pv:=by simp[b9,hB9]
    have z7:w7.frozen? ⟨Bp,1,au⟩=aA:=by simp[yT,hB9]
    generalize ((bK 40 (0:aw)).map (fq .i64)).toArray=zs at hm jn
    have hzA:(wr.alloc (.cells zs 2)).heap.size=wr.heap.size+1:=by simp
    have bA:(wr.alloc (.cells zs 2)).cell? ⟨Bp,1,au⟩=ai pv:=by rw[<-b1];simp only[b9,iN wr (.cells zs 2) (Di N.box)]
    have bC:((wr.alloc (.cells zs 2)).alloc (.cells #[.slice (ai ⟨wr.heap.size,0,au⟩) 40 40] 48)).cell? ⟨Bp,1,au⟩=ai pv:=by rw[<-bA];simp only[b9,iN (wr.alloc (.cells zs 2)) (.cells #[.slice (ai ⟨wr.heap.size,0,au⟩) 40 40] 48) (show Bp<(wr.alloc (.cells zs 2)).heap.size by rw[hzA];have:=Di N.box;omega)]
    clear hB7 hB9 N1
    go_wp2_with (fail)
    go_region_law (first|(refine av9 jn rfl _ _ rfl rfl rfl rfl ?_)|fail)
    all_goals go_wp2_with (fail)
    all_goals exact⟨⟨j+1,_,rfl,by omega,N7,(Lo.drew L).trans (L7.trans ((Lo.refl _ _).setCell hS1))⟩,by simp only[intOf];omega⟩
   .obtain rfl:j=m:=by omega
    have auU:¬((j:ax):aw)<(j:aw):=by omega
    obtain⟨pb,cv,rb,rfl,hcv,hD,N2,hSp,hSr⟩:=N.done (by omega)
    have call:=aBG (S:=w.heap.size) (w0:=w) hD ⟨hS1,hSp,hSr⟩ hm6 eJ hsm (λi x hx=>by obtain⟨b,o,cap,e1,e2,e3⟩:=hls i x hx;exact⟨b,o,cap,e1,hK b e2,e3⟩) xs 0 0 rfl (jJ _) rfl wr _ c _ rfl L L.size (by omega) hc2 N2
    have hXS:∀c,(c=Bp\/∃i,i<j/\c=rb i)->w.heap.size<=c:=by rintro c (rfl|⟨i,hi,rfl⟩);(·exact hS1);·exact hSr i hi
    generalize JR xs 0 (bK j (bK 40 0)) c=r at hy1 call
    obtain⟨f0,o0,ae1,amV⟩:=r
    clear N N2 hls hr
    go_wp2_with (fail)
    go_at_call 376
    refine call.mono ?_
    rintro e w4 ⟨rfl,N4,R4,_,_⟩
    have N4:Oy 348 48 2 Bp pb rb j cv (.slice av (ae xs) cp) [] ae1 amV w4:=N4
    have L4:Lo w.heap.size w w4:=L.rg R4 hXS L.size
    have b4:=N4.c1
    clear call
    cases o0 with
    |false=>
     rw[aQ rfl]at hy1
     cases hy1
     go_wp2_with (fail)
     go_ret2
     exact⟨_,rfl,L4,.Rx au 0 1⟩
    |true=>
     rw[aP (by simp)]at hy1
     cases f0 with
     |false=>
      rw[aQ rfl]at hy1
      cases hy1
      go_wp2_with (fail)
      go_ret2
      exact⟨_,rfl,L4,.Rx au 0 1⟩
     |true=>
      rw[aP (by simp)]at hy1
      cases hy1
      obtain⟨l1,l2,l3⟩:=N4.lts
      go_wp2_with (fail)
      go_ret2
      exact⟨_,rfl,L4,N4.data hcv ⟨⟨hSp,l2⟩,λi hi=>⟨hSr i hi,l3 i hi⟩⟩⟩⟩
end
def abS:oQ aO Jh 369 D3:=aeU (g:=369) (gv:=715) aHZ (by kernel_rfl) (λl b h=>axf MY h)
def Wh:=rk ql (kk abS zz)
def XH:=rk J2 (kk Wh<|kk uQ zz)
def aaH:=rk KQ zz
def Gd:=rk qz (kk aaH zz)
def nL:=rk dV (kk Gd zz)
def mL:=rk eA (kk Gd<|kk nL zz)
def ZY:=rk uG (kk mL zz)
def Wj:=rk qC zz
def C8(n:ax):WR aO Jh 802 (kN n).dec.1=aB:=by kernel_rfl
def Au:∀n,oQ aO Jh 802 (En n)
 |0=>oQ.none (ado hm (D:=[]) DOk.nil (C8 0) [] [] [] []).1
 |n+1=>by rw[OG];exact rk (kN n) (kk qD<|kk (Au n)<|kk ZY<|kk Wj zz) (C8 n)
def SZ:oQ aO Jh 802 Eo:=Au 1000
def ZS:=rk CB (kk ct<|kk nK<|kk SZ zz)
def abQ:=rk O1 (kk ZS<|kk oE zz)
def agS:=rk vH (kk iw<|kk ct zz)
def PW:oQ aO Jh 518 Af:=aBI Tryz.aHE Tryz.acO (by kernel_rfl)
def Q1:=rk nl zz
def XY:=rk sn (kk Q1 zz)
def ann:=rk HM (kk iw<|kk ct zz)
def wK:=rk mG (kk ann zz)
def mX:=rk dN (kk wK zz)
def lU:=rk ew (kk wK<|kk mX zz)
def ZX:=rk CD (kk iw<|kk wK<|kk lU zz)
def ans:=rk QT (kk ZX zz)
def abT:=rk kG (kk ans<|kk PW<|kk JC<|kk XY<|kk agS zz)
def ZU:=rk uz (kk abT<|kk lh<|kk nK zz)
def ZQ:=rk Ml (kk ZU zz)
def XG:=rk AD (kk lh zz)
def abO:=rk DT (kk PK<|kk lh<|kk XG zz)
def aeo:=rk Sj (kk abO zz)
section
open Go.Maps Go.Sort
def Qs{H:Type}{P:bV}(w:aU){ops:kZ Zp}{rest:ah Zp}{o:Zp}{a:alk}{Q:Exit->alk->aU->Prop} (hg:o.guard=au) (m x v:ej) (t:bO) (hop:o.op=Op.insert t m x v) (k e:bO) (K:Keyed P k) (ht:P.underlying t=ai (.map k e)) (R:aL->aq (FI H×ah Ik)) (b n:ax) (D:FI H) (hm:a.eval m=.map (ai b)) (ly:w.ownsMap P k R b n D) (hn:n<maxLen) (rh val:aL) (kl:Lit) (hx:a.eval x=rh) (hv:a.eval v=val) (adr:keyOf P k rh=ai kl) (d:FI H) (ps:ah Ik) (amr:R val=ai (d,ps)) (hK:∀w',w'.ownsMap P k R b (n+1) (D.put kl d)->w.grownBy w' (ai b)->aw1 P ops Q rest (a.put o.dst undef) w'): aw1 P ops Q (o::rest) a w:=by refine wpList_plain hg λK' hK'=> ?_;obtain⟨w',jn,r1,r2⟩:=ly.update K ht hn adr amr;unfold Jf;simp[gS,hop,hm,hx,hv,jn,aGl];exact hK' _ _ (hK w' r1 r2)
def aug:aL->aq (FI mW×ah Ik):=λ_=>ai (.nil,[])
def au7:Keyed aO 9:=string_keyed ee
def aOr:(aO.info? 9).map (λi=>(i.zero,i.size,i.bytes))=ai (ai (.string ⟨#[]⟩),1,16):=by kernel_rfl
def aOz(s:ah ay)(h:ae s<=100):keyOf aO 9 (.string ⟨s.toArray⟩)=ai (.string s):=by have h2:ae s<=maxLen:=dQ h (by decide);simp[keyOf,ee,mapKey];exact h2
def axa(w:aU):fF aO 70 #[] w λe w'=>∃(b n:ax) (D:FI mW),e=.returned (.map (ai b))/\w'.ownsMap aO 9 aug b n D/\strKeys D=[[98,101,110,99,104,101,115],[99,108,101,97,110],[99,117,116],[100,114,121],[102,105,116],[103,108,117,101],[104,101,108,112],[109,97,115,115],[110,111,116,101],[111,112,101,110],[114,101,112,111,114,116],[115,104,105,109],[115,104,111,119],[116,104,105,110],[116,114,117,115,116],[119,111,108,102]]/\at1 D=16/\Below w.heap.size w w'/\w.heap.size<=b:=by
 have hmm:= @atL aO;have ly:=Ov (H:=mW) w aO 9 aug;have hB:Below w.heap.size w (w.alloc (.map #[] 0)):=(DJ _ _).alloc (bx _) _;go_enter Tryz.func70,aMs
 go_wp2_with (first
  |(refine Qs _ rfl _ _ _ 136 rfl 9 134 au7 OK _ w.heap.size _ _ rfl ly (by decide) _ _ _ rfl rfl (aOz _ (by decide)) _ [] rfl ?_;clear ly;intro w1 ly hg1;replace hB:=hB.grown hg1 (hB.size) (λj hj=>by cases hj;exact bx _);clear hg1)
  |go_in)
 go_ret;exact⟨_,_,_,rfl,ly,by decide,by decide,hB,bx _⟩
def aFv(w:aU):fF aO 69 #[] w λe w'=>∃(b n:ax) (D:FI mW),e=.returned (.map (ai b))/\w'.ownsMap aO 9 aug b n D/\strKeys D=[[109,111,100,101],[110,101,99,107],[112,97,112,101,114],[112,101,103],[112,108,97,116,101],[112,111,116],[114,105,98],[115,116,97,99,107],[119,111,114,107]]/\at1 D=9/\Below w.heap.size w w'/\w.heap.size<=b:=by
 have hmm:= @atL aO;have ly:=Ov (H:=mW) w aO 9 aug;have hB:Below w.heap.size w (w.alloc (.map #[] 0)):=(DJ _ _).alloc (bx _) _;go_enter Tryz.func69,aMr
 go_wp2_with (first
  |(refine Qs _ rfl _ _ _ 129 rfl 9 127 au7 OJ _ w.heap.size _ _ rfl ly (by decide) _ _ _ rfl rfl (aOz _ (by decide)) _ [] rfl ?_;clear ly;intro w1 ly hg1;replace hB:=hB.grown hg1 (hB.size) (λj hj=>by cases hj;exact bx _);clear hg1)
  |go_in)
 go_ret;exact⟨_,_,_,rfl,ly,by decide,by decide,hB,bx _⟩
end
section
open Go.Maps Go.Sort Go.Proofs
def anV{H:Type}{P:bV}{k:bO}{R:aL->aq (FI H×ah Ik)}{w:aU}{b n:ax}{D:FI H}{base:ax}{e:bO}{size:ax}{v:aL}{m:ax}{xs:ah aL} (hr:w.ownsRow base e size v m xs) (ho:w.ownsMap P k R b n D):ai b≠v.ownBlock:=by
 intro h;rcases hr.2 with ⟨rfl,_⟩|⟨g,cap,cur,rfl,_,hb,_⟩
 .simp[Zq]at h
 .simp[Zq]at h;subst h;obtain⟨es,aNc,hm,_⟩:=ho;rw[hb]at hm;cases hm
def axh{l:ah (ah ay)}(hp:l.Perm ([[98,101,110,99,104,101,115],[99,108,101,97,110],[99,117,116],[100,114,121],[102,105,116],[103,108,117,101],[104,101,108,112],[109,97,115,115],[110,111,116,101],[111,112,101,110],[114,101,112,111,114,116],[115,104,105,109],[115,104,111,119],[116,104,105,110],[116,114,117,115,116],[119,111,108,102]]++ [[109,111,100,101],[110,101,99,107],[112,97,112,101,114],[112,101,103],[112,108,97,116,101],[112,111,116],[114,105,98],[115,116,97,99,107],[119,111,114,107]])):(l.mergeSort λx y=>ao (x<=y))=Go.Ab.AV:=by have h1:l.Perm Go.Ab.AV:=hp.trans (by decide+kernel);refine(mergeSort_of_perm h1).trans (List.mergeSort_of_pairwise ?_);decide+kernel
set_option maxHeartbeats 3200000 in
def axY(aOe:∀(b cap:ax) (ss:ah (ah ay)) (w:aU),Holds encStr w b 0 ss.toArray->b<w.heap.size->ae ss<4611686018427387904-> fF aO 345 #[.slice (ai ⟨b,0,au⟩) (ae ss) cap] w λe w'=>e=.returned (.tuple #[])/\∃n os,w'=grow (putRow encStr (Sort.ahead w n) b 0 (ss.mergeSort λx y=>ao (x<=y)).toArray) os) (w:aU): fF aO 278 #[] w λx w'=>∃b cap,x=.returned (.slice (ai ⟨b,0,au⟩) Go.Ab.AV.length cap)/\w'.ownsRow w.heap.size 9 1 (.slice (ai ⟨b,0,au⟩) Go.Ab.AV.length cap) Go.Ab.AV.length (Go.Ab.AV.map encStr)/\Below w.heap.size w w':=by
 obtain⟨i0,hi,hz0,hz1,hz2⟩:=info_parts aOr;go_enter aLZ,Tryz.ntmps278
 go_wp2_with (first
  |(go_at_call 70;refine(axa _).mono ?_;rintro e w1 ⟨b1,n1,D1,rfl,aEh,hk1,hs1,hB1,hb1⟩)
  |(at_range;refine wpList_range_own _ rfl _ 136 rfl 9 134 au7 OK _ b1 n1 _ rfl aEh ?_;intro w0 aSl hg0 hs0)
  |go_in)
 have aXd:=aEh.lt;have hz:w.heap.size+1<=w1.heap.size:=by have:=hB1.size;simp at this;omega
 have hc1:w1.heap[w.heap.size]? =ai (.cells #[] 9):=(hB1.block w.heap.size (by simp)).trans (by simp only[abb,DC]);have WY:w1.ownsRow w.heap.size 9 1 (.slice (ai ⟨w.heap.size,0,au⟩) 0 0) 0 []:=⟨rfl,.inr ⟨w.heap.size,0,#[],rfl,bx _,hc1,bx _,jJ _,rfl,rfl⟩⟩;have hBa:Below w.heap.size w w1:=((DJ _ _).alloc (bx _) _).trans (hB1.mono (by simp));go_frame;go_loopw [1] (λv wr=>∃(left:Lit->aW) (cnt:ax) (ss:ah (ah ay)),wr.ranges aO 9 aug b1 w1.heap.size n1 D1 left cnt/\ae ss+cnt<=at1 D1/\ wr.ownsRow w.heap.size 9 1 v (ae ss) (ss.map encStr)/\v≠ .slice au 0 0/\Collected D1 left ss/\Below w.heap.size w wr) (λ_ wr=>wr.rangeLeft b1 w1.heap.size)
 case atStart=>
  exact⟨_,_,[],aSl,by simp,WY.kept hg0 (Or.inr (by simp[Zq])),by simp,ay0 D1,hBa.grown hg0 hBa.size (λj hj=>by cases hj)⟩
 case round=>
  obtain⟨left,cnt,ss,hrg,oz,Jm,hnn,hC,hnx⟩:=hrel
  go_wp2_with (first
   |(at_next;refine aJ6 _ rfl _ rfl 9 au7 aug encStr (id:aL->aL) (λrh kl hk=>by obtain⟨x,hx,_⟩:=aan ee hk;exact⟨x,hx⟩) (λv y hv=>⟨v,rfl⟩) b1 w1.heap.size n1 _ _ _ rfl hrg ?_ ?_)
   |go_in)
  .intro hc0 WW;have hp1:ss.Perm [[98,101,110,99,104,101,115],[99,108,101,97,110],[99,117,116],[100,114,121],[102,105,116],[103,108,117,101],[104,101,108,112],[109,97,115,115],[110,111,116,101],[111,112,101,110],[114,101,112,111,114,116],[115,104,105,109],[115,104,111,119],[116,104,105,110],[116,114,117,115,116],[119,111,108,102]]:=hk1▸hC.perm aEh au7 ee WW;(rcases Jm.2 with ⟨aEf,_⟩|⟨g,cap,cur,rfl,aDW,hb,h1,h2,h3,h4⟩);(·exact bG aEf hnn);have hgl:g<wr.heap.size:=(RA.1 hb).1
   go_wp2_with (first
    |(go_at_call 69;refine(aFv _).mono ?_;rintro e w2 ⟨b2,n2,D2,rfl,aEi,hk2,hs2,hB2,hb2⟩)
    |(at_range;refine wpList_range_own _ rfl _ 129 rfl 9 127 au7 OJ _ b2 n2 _ rfl aEi ?_;intro w3 aSm hg3 hs3)
    |go_in)
   have aOb:w2.ownsRow w.heap.size 9 1 (.slice (ai ⟨g,0,au⟩) (ae ss) cap) (ae ss) (ss.map encStr):=⟨Jm.1,.inr ⟨g,cap,cur,rfl,aDW,(hB2.block g hgl).trans hb,h1,h2,h3,h4⟩⟩;have hBb:Below w.heap.size w w2:=hnx.trans (hB2.mono hnx.size);have aXe:=aEi.lt;go_frame;go_loopw [1] (λv wr=>∃(left:Lit->aW) (cnt:ax) (s2:ah (ah ay)),wr.ranges aO 9 aug b2 w2.heap.size n2 D2 left cnt/\ae s2+cnt<=at1 D2/\ wr.ownsRow w.heap.size 9 1 v (ae (ss++s2)) ((ss++s2).map encStr)/\v≠ .slice au 0 0/\Collected D2 left s2/\Below w.heap.size w wr) (λ_ wr=>wr.rangeLeft b2 w2.heap.size)
   case atStart=>
    exact⟨_,_,[],aSm,by simp,by simpa using aOb.kept hg3 (Or.inr (by simp[Zq])),by simp,ay0 D2,hBb.grown hg3 hBb.size (λj hj=>by cases hj)⟩
   case round=>
    obtain⟨aaF,aVM,s2,aHs,aRn,ait,aN0,hC',axE⟩:=hrel
    go_wp2_with (first
     |(at_next;refine aJ6 _ rfl _ rfl 9 au7 aug encStr (id:aL->aL) (λrh kl hk=>by obtain⟨x,hx,_⟩:=aan ee hk;exact⟨x,hx⟩) (λv y hv=>⟨v,rfl⟩) b2 w2.heap.size n2 _ _ _ rfl aHs ?_ ?_)
     |go_in)
    .intro hc1 Vk;have hp2:s2.Perm [[109,111,100,101],[110,101,99,107],[112,97,112,101,114],[112,101,103],[112,108,97,116,101],[112,111,116],[114,105,98],[115,116,97,99,107],[119,111,114,107]]:=hk2▸hC'.perm aEi au7 ee Vk;(rcases ait.2 with ⟨aEf,_⟩|⟨g',aKg,aVP,rfl,aDX,hb',h1',h2',h3',h4'⟩);(·exact bG aEf aN0);have hH:Holds encStr _ g' 0 (ss++s2).toArray:=holds_of_block hb' (by simpa using h4');have aRG:=(RA.1 hb').1;(have aKQ:ae (ss++s2)<4611686018427387904:=by rw[(hp1.append hp2).length_eq];decide);have hc:=aOe g' aKg (ss++s2) _ hH aRG aKQ;rw[bg]at hc;clear aRn oz hs1 hs2 hk1 hk2 h4 Jm ait hnn aN0 hC hC' hrg aHs WW Vk
     go_wp2_with (first
      |(go_at_call 345;refine hc.mono ?_;rintro e w' ⟨rfl,hw⟩)
      |go_in)
     go_ret;obtain⟨nn,os,rfl⟩:=hw;have eJ:ae (ss++s2)=25:=(hp1.append hp2).length_eq;have hm:((ss++s2).mergeSort λx y=>ao (x<=y))=Go.Ab.AV:=axh (hp1.append hp2);(have aNT:ae ss+ae s2=25:=by rw[<-bg];exact eJ);refine⟨g',aKg,by rw[aNT];rfl,?_,axE.grown (grownBy_sorted _) axE.size (λj hj=>by cases hj;exact aDX)⟩;have hr:=ownsRow_sorted (n:=nn) (os:=os) (ts:=(ss++s2).mergeSort λx y=>ao (x<=y)) (by simp) aDX hb' h1' h2' h3';rw[hm,eJ]at hr;rw[hm];exact hr
    .intro x c kl yd yp w4 aKk adr hlk hv hat axG dE hg4 hs4 hen;obtain⟨x',ex,rfl,_⟩:=aan ee adr;obtain rfl:x=x':=encStr_inj ex;have adw:=ait.kept hg4 (Or.inr (atM ait aHs).symm);clear hs4
     go_wp2_with (first
      |(at_builtin;refine aMx _ rfl _ _ 25 rfl w.heap.size 9 i0 (.string ⟨#[]⟩) 1 16 FL hi hz0 hz1 hz2 rfl (by decide) _ _ _ rfl (adw.alloc _) ⟨w4.heap.size,0,au⟩ 1 1 [encStr x] rfl rfl (cell_one_new _ _ _) (by simp[aGO,encStr]) (by simp only[bg];unfold maxLen;omega) (by simp only[bg];omega) (by have:=axE.size;have:=hg4.size;simp;omega) ?_;intro v5 w5 aEj hg5 aEg;go_frame)
      |go_in)
     have aEl:=(axG.alloc _).kept hg5 (anV adw axG.owns) (atM adw axG);go_roundw
     case rel=>
      refine⟨_,aKk,s2++ [x],aEl,by simp;omega,by simpa[jS]using aEj,λrW=>by have:=(aEg.1 rW).2;omega,hC'.step hlk hat,?_⟩;exact((axE.grown hg4 axE.size (λj hj=>by cases hj;exact hBb.size)).alloc (by have:=axE.size;have:=hg4.size;omega) _).grown hg5 (by have:=axE.size;have:=hg4.size;simp;omega) (λj hj=>(adw.lt j hj).1)
     case measure=>rw[aEl.left_eq,aHs.left_eq];exact dE
  .intro x c kl yd yp w4 aKk adr hlk hv hat axG dE hg4 hs4 hen;obtain⟨x',ex,rfl,_⟩:=aan ee adr;obtain rfl:x=x':=encStr_inj ex;have adw:=Jm.kept hg4 (Or.inr (atM Jm hrg).symm);clear hs4
   go_wp2_with (first
    |(at_builtin;refine aMx _ rfl _ _ 25 rfl w.heap.size 9 i0 (.string ⟨#[]⟩) 1 16 FL hi hz0 hz1 hz2 rfl (by decide) _ _ _ rfl (adw.alloc _) ⟨w4.heap.size,0,au⟩ 1 1 [encStr x] rfl rfl (cell_one_new _ _ _) (by simp[aGO,encStr]) (by unfold maxLen;omega) (by omega) (by have:=hnx.size;have:=hg4.size;simp;omega) ?_;intro v5 w5 aEj hg5 aEg;go_frame)
    |go_in)
   have aEl:=(axG.alloc _).kept hg5 (anV adw axG.owns) (atM adw axG);go_roundw
   case rel=>
    refine⟨_,aKk,ss++ [x],aEl,by simp;omega,by simpa[jS]using aEj,λrW=>by have:=(aEg.1 rW).2;omega,hC.step hlk hat,?_⟩;exact((hnx.grown hg4 hnx.size (λj hj=>by cases hj;exact hBa.size)).alloc (by have:=hnx.size;have:=hg4.size;omega) _).grown hg5 (by have:=hnx.size;have:=hg4.size;simp;omega) (λj hj=>(adw.lt j hj).1)
   case measure=>rw[aEl.left_eq,hrg.left_eq];exact dE
end
section
open Go.Ab Go.Proofs
def axX(xs:ah (ah ay)):(xs.map A.str).flatMap A.cells=xs.map A.str:=by induction xs with|nil=>rfl|cons s xs ih=>rw[aY,cr,ih];rfl
def am2{φ:ax->ax}{w:aU}{K:ax->Prop}:∀(xs:ah (ah ay)),dp φ w K (xs.map encStr) (xs.map A.str) | []=>.nil |s::xs=>.cons _ _ _ _ (.str s) (am2 xs)
def aEM{P:bV}{φ:ax->ax}{g f:ax}{ys:ah (ah ay)}{e:bO}(hφ:φ g=f)(he:lA P f)(h0:ys≠ []) (hw:∀w:aU,fF P f #[] w λx w'=>∃b cap,x=.returned (.slice (ai ⟨b,0,au⟩) (ae ys) cap)/\w'.ownsRow w.heap.size e 1 (.slice (ai ⟨b,0,au⟩) (ae ys) cap) (ae ys) (ys.map encStr)/\Below w.heap.size w w'):oQ P φ g (aEL ys):=by
 subst hφ;have hn:0<ae ys:=U9.2 h0;refine oQ.mK he rfl rfl λx y hy=> ?_;obtain rfl:ys=y:=cA hy;show dx P φ g [] [A.tok 0 1 (ys.map A.str)] [];refine dx.A8 rfl λw K vs hr hK hG=> ?_;cases hr;refine(hw w).mono λx w' hh=> ?_;obtain⟨b,cap,rfl,Jm,hb⟩:=hh;obtain⟨hl,⟨hc,_⟩|⟨b',aKg,cur,hv,aDW,j7,h1,h2,h3,h4⟩⟩:=Jm;·cases hc
 .cases hv;have dE:b<w'.heap.size:=(RA.1 j7).1;rw[atN]at h4;refine⟨[_],K,[b],rfl,hb,λ_ h=>h,λ_ h=>.inl h,.cons _ _ [b] _ _ [] (.tok _ 0 1 _ (ai b) ?_) .nil,by simp,λc hc=> ?_⟩;·(have e1:ae ys=ae (ys.map A.str):=by rw[bf]);rw[e1];refine .mk b 0 cap 1 (ys.map A.str) (ys.map encStr) (by rw[bf];exact h1) (by omega) (λx hx=>by obtain⟨s,_,rfl⟩:=dF.1 hx;rfl) (by rw[axX];exact am2 ys) (λj v hj=> ?_) ⟨cur,e,(0,0),j7,by omega,λo=> ?_⟩;(·rw[<-h4]at hj;(have hj2:cur.toList[j]? =ai v:=by rw[sq]at hj;split at hj;(·exact hj);·cases hj);rw[rL]at hj2;simp only[b9,j7,dL];exact hj2);·simp[yT,j7]
  .simp only[aT]at hc;subst hc;exact⟨λhk=>bG (hK _ hk) (by omega),dE,aDW⟩
end
def XF:oQ aO Jh 432 AB:=aEM (e:=9) (f:=278) (by kernel_rfl) ⟨_,aLZ,by decide+kernel,rfl⟩ (by decide) (λw=>axY (λb cap ss w hH hb hl=>Go.calls_of_every_depth λD=>AnyS.slices_Sort_string_alone Tryz.aHG D b 0 cap ss w hH hb hl) w)
def aej:=rk Se (kk XF zz)
def asQ:=rk Xg (kk ct zz)
def ajM:=rk MH (kk ct zz)
def ajY:=rk MP zz
def aeC:=rk GU (kk SY<|kk ajY zz)
def IM:=rk ie (kk aeC zz)
def ajX:=rk MO (kk IM zz)
def ajL:=rk Eb (kk pc<|kk ajX<|kk ajM<|kk asQ zz)
def aeu:=rk zc (kk Ha<|kk JC<|kk pc zz)
def aep:=rk GD (kk aeu<|kk ajL<|kk IN zz)
def As:=rk mi zz
def apF:=rk Ep (kk aaH zz)
section
open Go.Shelf Go.Proofs Go.Lib
def auu:(aO.info? 124).map (λi=>(i.zero,i.size,i.bytes))=ai (ai (.agg #[.string ⟨#[]⟩,.string ⟨#[]⟩,.int .i64 0,.int .i64 0,.int .i64 0]),5,56):=by kernel_rfl
set_option maxHeartbeats 3200000 in
def auv:alN aO 342 5:=⟨⟨_,aL3,by decide+kernel,rfl⟩,by intro b o n c i j cs w hc0 hnc hij hjn hn hl oz hr h1c;obtain⟨iE,hi,he⟩:=aM.1 auu;simp only[bS]at he;obtain⟨hz0,Aq,hby⟩:=he;have hbw:b<w.heap.size:=hr.lt;(have hzv:∀w,(zeroValue 124).run aO w=.ok (.agg #[.string ⟨#[]⟩,.string ⟨#[]⟩,.int .i64 0,.int .i64 0,.int .i64 0]) w:=λw=>by simp[zeroValue,typeInfo,hi,hz0]);have aA9:dw w.drew b o cs:=λj v hj=>oz j v hj;have WY:hZ 5 w.drew b (o+c*5):=hr;obtain⟨news,auY⟩:∃news,news=cs.drop (j*5):=⟨_,rfl⟩;(have eJ:ae news=(n-j)*5:=by rw[auY,dR,hl];omega);(obtain⟨A,hA,aK0⟩:∃A:afQ,(if c=j then ai (⟨b,o,au⟩:afQ)else ai ⟨b,o+j*5,au⟩)=ai A/\Hid (∀t u,news[t]? =ai u->w.drew.cell? (A.add t)=ai u):=by by_cases h:c=j;(·refine⟨⟨b,o,au⟩,by simp[h],λt u hu=> ?_⟩;(have h0:ae news=0:=by rw[eJ];omega);rw[fJ.1 h0]at hu;simp at hu);·refine⟨⟨b,o+j*5,au⟩,by simp[h],λt u hu=> ?_⟩;rw[auY]at hu;rw[World.nf];exact(aA9.drop (j*5)) t u hu);have s1:Hid (ae news=(n-j)*5):=eJ;have s2:Hid (∀u∈news,u.oneCell'=aB):=λu hu=>h1c u (by rw[auY]at hu;exact dk hu);(have s3:Hid (∀t,t<ae news->(w.drew.cell? ⟨b,o+i*5+t,au⟩).isSome=aB/\w.drew.frozen? ⟨b,o+i*5+t,au⟩=aA):=λt ht=>by rw[eJ]at ht;rw[jS];exact WY.cell (by omega));obtain⟨W1,hW1⟩:∃W1,W1=w.drew.setCells b (o+i*5) news:=⟨_,rfl⟩;(have Zx:hZ 5 W1 b (o+c*5):=by rw[hW1];exact ji _ _ _ WY);(have hT1:kF b w W1:=by rw[hW1];exact((kF.refl b w).drew).setCells (.inl rfl) _ _);have Ao:∀ty,(aCZ #[36] ty #[.slice (ai ⟨b,o+(i+(n-j))*5,au⟩) (n-(i+(n-j))) (c-(i+(n-j)))]).run aO W1=.ok (.tuple #[]) (W1.setCells b (o+(i+(n-j))*5) (cG (vt #[.string ⟨#[]⟩,.string ⟨#[]⟩,.int .i64 0,.int .i64 0,.int .i64 0]).cells (n-(i+(n-j)))).toList):= λty=>aho W1 _ _ ty _ 5 aih hzv rfl (by decide) b (o+(i+(n-j))*5) _ _ (by omega) (λt ht=>by rw[jS];exact(Zx.cell (by omega)).1) (λt ht=>by rw[jS];exact(Zx.cell (by omega)).2);(have fin:dw (W1.setCells b (o+(i+(n-j))*5) (cG (vt #[.string ⟨#[]⟩,.string ⟨#[]⟩,.int .i64 0,.int .i64 0,.int .i64 0]).cells (n-(i+(n-j)))).toList) b o (cs.take (i*5)++cs.drop (j*5)):=by rw[hW1,auY];exact aAS hij hjn hnc hl aA9 WY (by rw[ai4,aDd];show(n-(i+(n-j)))*5=_;congr 1;omega));have aQQ:kF b w (W1.setCells b (o+(i+(n-j))*5) (cG (vt #[.string ⟨#[]⟩,.string ⟨#[]⟩,.int .i64 0,.int .i64 0,.int .i64 0]).cells (n-(i+(n-j)))).toList):=hT1.setCells (.inl rfl) _ _;have axq:hZ 5 (W1.setCells b (o+(i+(n-j))*5) (cG (vt #[.string ⟨#[]⟩,.string ⟨#[]⟩,.int .i64 0,.int .i64 0,.int .i64 0]).cells (n-(i+(n-j)))).toList) b (o+c*5):=ji _ _ _ Zx;have hW:Hid (W1=w.drew.setCells b (o+i*5) news):=hW1;(have aXV:¬((i:aw)=(j:aw)):=by omega);(have hic:i<=c:=by omega);(have hjc:j<=c:=by omega);(have aeb:aO.follows .mixedOrders=aB:=by kernel_rfl);clear hW1 aA9 WY Zx hT1 auY eJ oz;go_enter aL3,Tryz.ntmps342;go_wp2_with (fail);go_region_law_o (refine step_append_room rfl (.tmp 22) (.tmp 25) 36 rfl 124 iE 5 aih hi Aq b o i c (by simp[aa8,aCq]) A (n-j) (c-j) news (by simp[aa8,aCq]) s1.out aK0.out s2.out (by omega) s3.out ?_;rw[<-hW.out]);go_wp2;go_ret;exact⟨by rw[show n-(j-i)=i+(n-j)by omega];rfl,fin,axq,aQQ⟩⟩
end
def vP:oQ aO Jh 637 iG:=aAT (by kernel_rfl) (by kernel_rfl) auv (by kernel_rfl)
def ZR:=rk ux (kk nK<|kk apF<|kk vP<|kk As zz)
def abP:=rk OZ (kk ZR<|kk IN zz)
def MW:=rk qq (kk oH zz)
section
open Go.Lib
def aH1(s:nD)(w:aU)(hl:18<ae (iY s.data.toList [45])): fF aO 189 #[.string s] w λe w'=>e=.returned (.tuple #[.int .i64 0,.bool aA])/\Below w.heap.size w w':=by
 go_enter Wt,acT;go_wp2_with (go_at_call 279;refine(Tryz.strings_TrimPrefix _ _ _).mono ?_;rintro e w' ⟨rfl,rfl⟩)
 all_goals first
  |(exfalso;omega)
  |(go_ret2;exact⟨rfl,DJ _ _⟩)
def aLr(s:nD)(w:aU)(hl:¬18<ae (iY s.data.toList [45]))(m:aw)(u:bO)(hP:fF aO 280 #[.string s,.int .i64 10,.int .i64 64] w λe w'=>∃x,e=.returned (.tuple #[.int .i64 m,.iface u x])/\Below w.heap.size w w'): fF aO 189 #[.string s] w λe w'=>e=.returned (.tuple #[.int .i64 0,.bool aA])/\Below w.heap.size w w':=by
 go_enter Wt,acT;go_wp2_with (first|(go_at_call 279;refine(Tryz.strings_TrimPrefix _ _ _).mono ?_;rintro e w' ⟨rfl,rfl⟩)|(go_at_call 280;refine hP.mono ?_;rintro e w1 ⟨x,rfl,hw1⟩))
 all_goals first
  |(exfalso;omega)
  |(go_ret2;exact⟨rfl,hw1⟩)
def aOJ(s:nD)(w:aU)(hl:¬18<ae (iY s.data.toList [45]))(v:aw)(hs:bT v=s.data.toList)(hP:fF aO 280 #[.string s,.int .i64 10,.int .i64 64] w λe w'=>e=.returned (.tuple #[.int .i64 v,.nilIface])/\Below w.heap.size w w') (hF:∀w',Below w.heap.size w w'->fF aO 349 #[.int .i64 v,.int .i64 10] w' λe w''=>e=.returned (.string ⟨(bT v).toArray⟩)/\Below w'.heap.size w' w''): fF aO 189 #[.string s] w λe w'=>e=.returned (.tuple #[.int .i64 v,.bool aB])/\Below w.heap.size w w':=by
 have HS:=Lib.hid hs;clear hs;go_enter Wt,acT;go_wp2_with (first|(go_at_call 279;refine(Tryz.strings_TrimPrefix _ _ _).mono ?_;rintro e w' ⟨rfl,rfl⟩)|(go_at_call 280;refine hP.mono ?_;rintro e w1 ⟨rfl,hw1⟩)|(go_at_call 349;refine(hF _ hw1).mono ?_;rintro e w2 ⟨rfl,hw2⟩)|go_in)
 all_goals first
  |(exfalso;omega)
  |skip
 .rename_i h;exfalso;rw[HS.out]at h;simp[aIK]at h
 .go_ret2;exact⟨rfl,hw1.trans (hw2.mono hw1.size)⟩
def aOI(s:nD)(w:aU)(hl:¬18<ae (iY s.data.toList [45]))(v:aw)(hs:bT v≠s.data.toList)(hP:fF aO 280 #[.string s,.int .i64 10,.int .i64 64] w λe w'=>e=.returned (.tuple #[.int .i64 v,.nilIface])/\Below w.heap.size w w') (hF:∀w',Below w.heap.size w w'->fF aO 349 #[.int .i64 v,.int .i64 10] w' λe w''=>e=.returned (.string ⟨(bT v).toArray⟩)/\Below w'.heap.size w' w''): fF aO 189 #[.string s] w λe w'=>e=.returned (.tuple #[.int .i64 0,.bool aA])/\Below w.heap.size w w':=by
 have HS:=Lib.hid hs;clear hs;go_enter Wt,acT;go_wp2_with (first|(go_at_call 279;refine(Tryz.strings_TrimPrefix _ _ _).mono ?_;rintro e w' ⟨rfl,rfl⟩)|(go_at_call 280;refine hP.mono ?_;rintro e w1 ⟨rfl,hw1⟩)|(go_at_call 349;refine(hF _ hw1).mono ?_;rintro e w2 ⟨rfl,hw2⟩)|go_in)
 all_goals first
  |(exfalso;omega)
  |skip
 .go_ret2;exact⟨rfl,hw1.trans (hw2.mono hw1.size)⟩
 .rename_i h;exfalso;apply HS.out;simpa[aIK]using h
end
def aH2:aDh aO 189 280 349:=⟨⟨_,Wt,by decide+kernel,rfl⟩,aH1,aLr,aOJ,aOI⟩
def Kg:oQ aO Jh 522 uA:=anO Tryz.aEG Tryz.ava ⟨5,by kernel_rfl⟩ (by kernel_rfl) (by kernel_rfl) aH2 (by kernel_rfl)
def oD:=rk jV (kk ct<|kk Kg<|kk oH zz)
def agX:=rk vJ (kk VA zz)
def Ey:=rk sU zz
def S0:=rk BR (kk Ey zz)
def aeh:=rk oB (kk ct<|kk Ey<|kk S0 zz)
def ang:=rk AZ (kk Ey<|kk S0<|kk QZ zz)
def anq:=rk QS (kk PW<|kk lh zz)
def SO:=rk BE (kk ang<|kk lh<|kk anq zz)
def SQ:=rk vA (kk SO<|kk aeh<|kk agX<|kk oH zz)
def aaJ:=rk KT (kk Ha zz)
def aey:=rk GM (kk SO<|kk aaJ<|kk Kh zz)
def aex:=rk zg (kk SQ<|kk aey<|kk oD<|kk MW zz)
section
open Go.Shelf Go.Proofs
set_option maxHeartbeats 3200000 in
def GW:uq aO 249 4/\uq aO 251 3/\uq aO 252 4/\uq aO 253 5/\uq aO 254 3/\uq aO 255 4/\uq aO 257 5:=by
 have aeb:aO.follows .mixedOrders=aB:=by kernel_rfl
 refine⟨(abc.mk' (z:=4) (tB:=4) Tryz.underlying27 er (zv:=.agg #[.string ⟨#[]⟩,.int .i64 0,.int .i64 0,.int .i64 0]) (by kernel_rfl) rfl (by decide) Tryz.func301 (by kernel_rfl) (by kernel_rfl) (by kernel_rfl) (by kernel_rfl)).walk ⟨_,Wu,by decide+kernel,rfl⟩ ?_ ?_ ?_ ?_,(abc.mk' (z:=3) (tB:=4) Tryz.underlying28 er (zv:=.agg #[.string ⟨#[]⟩,.int .i64 0,.int .i64 0]) (by kernel_rfl) rfl (by decide) Tryz.func303 (by kernel_rfl) (by kernel_rfl) (by kernel_rfl) (by kernel_rfl)).walk ⟨_,Wv,by decide+kernel,rfl⟩ ?_ ?_ ?_ ?_,(abc.mk' (z:=4) (tB:=4) Tryz.underlying32 er (zv:=.agg #[.string ⟨#[]⟩,.int .i64 0,.int .i64 0,.int .i64 0]) (by kernel_rfl) rfl (by decide) Tryz.func305 (by kernel_rfl) (by kernel_rfl) (by kernel_rfl) (by kernel_rfl)).walk ⟨_,Ww,by decide+kernel,rfl⟩ ?_ ?_ ?_ ?_,(abc.mk' (z:=5) (tB:=4) Tryz.underlying33 er (zv:=.agg #[.string ⟨#[]⟩,.int .i64 0,.int .i64 0,.int .i64 0,.int .i64 0]) (by kernel_rfl) rfl (by decide) Tryz.func307 (by kernel_rfl) (by kernel_rfl) (by kernel_rfl) (by kernel_rfl)).walk ⟨_,Wx,by decide+kernel,rfl⟩ ?_ ?_ ?_ ?_,(abc.mk' (z:=3) (tB:=4) Tryz.underlying34 er (zv:=.agg #[.string ⟨#[]⟩,.int .i64 0,.int .i64 0]) (by kernel_rfl) rfl (by decide) Tryz.func309 (by kernel_rfl) (by kernel_rfl) (by kernel_rfl) (by kernel_rfl)).walk ⟨_,Wy,by decide+kernel,rfl⟩ ?_ ?_ ?_ ?_,(abc.mk' (z:=4) (tB:=4) Tryz.underlying35 er (zv:=.agg #[.string ⟨#[]⟩,.int .i64 0,.int .i64 0,.int .i64 0]) (by kernel_rfl) rfl (by decide) Tryz.func311 (by kernel_rfl) (by kernel_rfl) (by kernel_rfl) (by kernel_rfl)).walk ⟨_,Wz,by decide+kernel,rfl⟩ ?_ ?_ ?_ ?_,(abc.mk' (z:=5) (tB:=4) aih er (zv:=.agg #[.string ⟨#[]⟩,.string ⟨#[]⟩,.int .i64 0,.int .i64 0,.int .i64 0]) (by kernel_rfl) rfl (by decide) Tryz.func313 (by kernel_rfl) (by kernel_rfl) (by kernel_rfl) (by kernel_rfl)).walk ⟨_,WA,by decide+kernel,rfl⟩ ?_ ?_ ?_ ?_⟩
 iterate 7
  .intro ad va vo vc cp w w1 jn
   first|go_enter Wu,acU|go_enter Wv,acW|go_enter Ww,acX|go_enter Wx,acY|go_enter Wy,acZ|go_enter Wz,ac0|go_enter WA,ac1
   go_wp2_with (first|(at_builtin;refine Ru _ rfl _ _ _ _ rfl _ _ rfl rfl _ _ jn ?_)|fail)
   go_ret
   exact⟨rfl,rfl⟩
  .intro b o n c i va vo vc cs xs w dE gM hn hva hbw hov aKA aNE
   have hin:i<=n:=by omega
   have hI:¬((i:aw)=(n:aw)):=by omega
   have hb1:(0:aw)<=(i:aw)+1:=by omega
   have htn:((i:aw)+1).toNat=i+1:=by omega
   have aXU:¬((n:aw)+1>(c:aw)):=by omega
   have hci:¬(c=i):=by omega
   have aXj:¬(c=i+1):=by omega
   have hb3:(i:aw)<=(n:aw)+1:=by omega
   have hw1:aj ak ((i:aw)+1)=(i:aw)+1:=by rw[Gr];omega
   first|go_enter Wu,acU|go_enter Wv,acW|go_enter Ww,acX|go_enter Wx,acY|go_enter Wy,acZ|go_enter Wz,ac0|go_enter WA,ac1
   go_wp2_with (simp only[hov])
   go_region_law_o (refine step_copy_runI rfl _ _ _ _ rfl _ _ (by simp[aa8,aCq]) (by simp[aa8,aCq]) (aKA _ _ _) ?_)
   go_wp2_with (at_builtin;refine wpList_copy_runI _ rfl _ _ _ _ rfl _ _ rfl rfl (aNE _ _) ?_)
   go_ret
   exact⟨rfl,rfl⟩
  .intro b o n c i va vo vc G cs xs w W1 dE hnc gM hn hva hbw hGn hrz aRk aRl
   have hin:i<=n:=by omega
   have hI:¬((i:aw)=(n:aw)):=by omega
   have hb1:(0:aw)<=(i:aw)+1:=by omega
   have htn:((i:aw)+1).toNat=i+1:=by omega
   have hgt:(n:aw)+1>(c:aw):=by omega
   have hGi:¬(G=i):=by omega
   have aWY:¬(G=i+1):=by omega
   have hci:¬(c=i):=by omega
   have hb3:(i:aw)<=(n:aw):=by omega
   have hw1:aj ak ((i:aw)+1)=(i:aw)+1:=by rw[Gr];omega
   first|go_enter Wu,acU|go_enter Wv,acW|go_enter Ww,acX|go_enter Wx,acY|go_enter Wy,acZ|go_enter Wz,ac0|go_enter WA,ac1
   go_wp2_with (first
    |(at_builtin;refine Ru _ rfl _ _ _ _ rfl _ _ rfl rfl _ _ hrz ?_)
    |(at_builtin;refine wpList_copy_runI _ rfl _ _ _ _ rfl _ _ rfl rfl (aRk _ _) ?_))
   go_region_law_o (refine step_copy_runI rfl _ _ _ _ rfl (.slice (ai ⟨w.heap.size,(i+1)*_,au⟩) (n+1-(i+1)) (G-(i+1))) (.slice (ai ⟨b,o+i*_,au⟩) (n-i) (c-i)) (by simp[aa8,aCq]) (by simp[aa8,aCq]) (aRl _ (G-(i+1)) (c-i)) ?_)
   go_wp2
   go_ret
   exact⟨rfl,rfl⟩
  .intro b o n c va vo vc b' o' cp w w1 hc0 hnc hn jn
   first|go_enter Wu,acU|go_enter Wv,acW|go_enter Ww,acX|go_enter Wx,acY|go_enter Wy,acZ|go_enter Wz,ac0|go_enter WA,ac1
   go_wp2_with (first|(at_builtin;refine Ru _ rfl _ _ _ _ rfl _ _ rfl rfl _ _ jn ?_)|fail)
   all_goals go_ret
   all_goals exact⟨rfl,rfl⟩
end
def vR:oQ aO Jh 1083 iI:=GX (by kernel_rfl) (by kernel_rfl) (by decide) GW.1 (by kernel_rfl)
def PO:=rk zt zz
def uR:=rk di (kk PO<|kk vR zz)
def ajO:=rk Xp (kk aex<|kk PO<|kk uR zz)
def XX:oQ aO Jh 523 Rn:=aKl Tryz.aEH (dY (by kernel_rfl)) (by kernel_rfl)
def qE:=rk lS (kk oD<|kk XX zz)
def ajI:=rk Mw (kk qE<|kk PJ zz)
def zF:oQ aO Jh 1086 jD:=GX (by kernel_rfl) (by kernel_rfl) (by decide) GW.2.1 (by kernel_rfl)
def PQ:=rk zu zz
def wN:=rk dA (kk PQ<|kk zF zz)
def ajP:=rk Xq (kk ajI<|kk PQ<|kk wN zz)
def aew:=rk zf (kk oD<|kk oH<|kk pc zz)
def ajQ:=rk Xr (kk aew zz)
def agQ:=rk BG (kk Ew<|kk oD zz)
def ajR:=rk Xs (kk agQ zz)
def ajG:=rk Mu (kk qE<|kk PI zz)
def zD:oQ aO Jh 1089 jB:=GX (by kernel_rfl) (by kernel_rfl) (by decide) GW.2.2.1 (by kernel_rfl)
def PR:=rk zw zz
def wL:=rk dy (kk PR<|kk zD zz)
def ajS:=rk Xt (kk ajG<|kk PR<|kk wL zz)
def ajH:=rk Mv (kk Eu<|kk qE zz)
def zE:oQ aO Jh 1092 jC:=GX (by kernel_rfl) (by kernel_rfl) (by decide) GW.2.2.2.1 (by kernel_rfl)
def PS:=rk zx zz
def wM:=rk dz (kk PS<|kk zE zz)
def ajT:=rk Xu (kk ajH<|kk PS<|kk wM zz)
def agP:=rk Jv (kk MV<|kk qE zz)
def xq:oQ aO Jh 1096 jd:=GX (by kernel_rfl) (by kernel_rfl) (by decide) GW.2.2.2.2.1 (by kernel_rfl)
def PT:=rk zy zz
def vN:=rk dt (kk PT<|kk xq zz)
def ajU:=rk Xv (kk PT<|kk agP<|kk vN zz)
def agR:=rk Jw (kk qE<|kk MZ zz)
def xr:oQ aO Jh 1099 je:=GX (by kernel_rfl) (by kernel_rfl) (by decide) GW.2.2.2.2.2.1 (by kernel_rfl)
def PU:=rk zA zz
def vO:=rk du (kk PU<|kk xr zz)
def ajV:=rk Xw (kk agR<|kk PU<|kk vO zz)
def aer:=rk GH (kk aaJ<|kk AH zz)
def aev:=rk ze (kk aer<|kk oD<|kk MW zz)
def vQ:oQ aO Jh 808 iH:=GX (by kernel_rfl) (by kernel_rfl) (by decide) GW.2.2.2.2.2.2 (by kernel_rfl)
def agI:=rk pX (kk nK<|kk As<|kk vQ<|kk AH zz)
def ajW:=rk Xx (kk aev<|kk agI zz)
def Uh:=rk FX (kk SQ<|kk oD<|kk Kg zz)
section
open Go.Ab Go.ChangeShapes Go.WideShapes Go.ChangeAt Go.RowKit Go.Proofs
section
open Go.Maps Go.Sort
def Oi{H:Type}{P:bV}(w:aU){ops:kZ Zp}{rest:ah Zp}{o:Zp}{a:alk}{Q:Exit->alk->aU->Prop} (hg:o.guard=au) (m x v:ej) (t:bO) (hop:o.op=Op.insert t m x v) (k e:bO) (K:Keyed P k) (ht:P.underlying t=ai (.map k e)) (R:aL->aq (FI H×ah Ik)) (b n:ax) (D:FI H) (hm:a.eval m=.map (ai b)) (ly:w.ownsMap P k R b n D) (hn:n<maxLen) (rh val:aL) (kl:Lit) (hx:a.eval x=rh) (hv:a.eval v=val) (adr:keyOf P k rh=ai kl) (d:FI H) (ps:ah Ik) (amr:R val=ai (d,ps)) (hK:∀w',w'.ownsMap P k R b (n+1) (D.put kl d)->w.grownBy w' (ai b)->aw1 P ops Q rest (a.put o.dst undef) w'): aw1 P ops Q (o::rest) a w:=by refine wpList_plain hg λK' hK'=> ?_;obtain⟨w',jn,r1,r2⟩:=ly.update K ht hn adr amr;unfold Jf;simp[gS,hop,hm,hx,hv,jn,aGl];exact hK' _ _ (hK w' r1 r2)
def exK:Keyed aO 9:=string_keyed ee
def aNk(s:ah ay)(h:ae s<=maxLen):keyOf aO 9 (.string ⟨s.toArray⟩)=ai (.string s):=by simp[keyOf,ee,mapKey];exact h
def aJt(s:ah ay)(h:ae s<=100):keyOf aO 9 (.string ⟨s.toArray⟩)=ai (.string s):=aNk s (dQ h (by decide))
def ayy:ah (ah ay×ax):=[([115,116,97,99,107],142),([114,105,98],146),([112,108,97,116,101],150),([110,101,99,107],152),([112,101,103],154),([112,111,116],158),([109,111,100,101],162),([119,111,114,107],166),([112,97,112,101,114],170)]
def aw7:ah (ah ay×ah ay×ax):=[([100,114,121],[78,68,78],173),([99,117,116],[78,78,78],174),([116,104,105,110],[78,78],175),([109,97,115,115],[78,78],176),([115,104,105,109],[78,78],177),([102,105,116],[76,78],178),([111,112,101,110],[65,78],179),([103,108,117,101],[76,78],180),([110,111,116,101],[78],181),([119,111,108,102],[78],182),([98,101,110,99,104,101,115],[78],183),([116,114,117,115,116],[78],184),([99,108,101,97,110],[],185),([114,101,112,111,114,116],[],186),([115,104,111,119],[],187),([104,101,108,112],[],188)]
def fnV(n:ax):aL:=.func (.func n) #[] #[]
def acV(p:ah ay×ax):aL:=.agg #[.string ⟨p.1.toArray⟩,.func (.func p.2) #[] #[]]
def Tq(w:aU):fF aO 69 #[] w λe w'=>∃(b n:ax),e=.returned (.map (ai b))/\w'.ownsMap aO 9 WV b n (M9 (ayy.map λp=>(p.1,fnV p.2)) (.map []))/\Lo w.heap.size w w':=by
 have hmm:= @atL aO;have ly:=Ov (H:=aL) w aO 9 WV;have hB:Below w.heap.size w (w.alloc (.map #[] 0)):=(DJ _ _).alloc (bx _) _;go_enter Tryz.func69,aMr
 go_wp2_with (first
  |(refine Oi _ rfl _ _ _ 129 rfl 9 127 exK OJ _ w.heap.size _ _ rfl ly (by decide) _ _ _ rfl rfl (aJt _ (by decide)) _ [] rfl ?_;clear ly;intro w1 ly hg1;replace hB:=hB.grown hg1 (hB.size) (λj hj=>by cases hj;exact bx _);clear hg1)
  |go_in)
 go_ret;first|exact⟨_,rfl,⟨_,ly⟩,Lo.A8 hB⟩|exact⟨_,_,rfl,ly,Lo.A8 hB⟩
def WN(w:aU):fF aO 70 #[] w λe w'=>∃(b n:ax),e=.returned (.map (ai b))/\w'.ownsMap aO 9 WV b n (M9 (aw7.map λp=>(p.1,acV p.2)) (.map []))/\Lo w.heap.size w w':=by
 have hmm:= @atL aO;have ly:=Ov (H:=aL) w aO 9 WV;have hB:Below w.heap.size w (w.alloc (.map #[] 0)):=(DJ _ _).alloc (bx _) _;go_enter Tryz.func70,aMs
 go_wp2_with (first
  |(refine Oi _ rfl _ _ _ 136 rfl 9 134 exK OK _ w.heap.size _ _ rfl ly (by decide) _ _ _ rfl rfl (aJt _ (by decide)) _ [] rfl ?_;clear ly;intro w1 ly hg1;replace hB:=hB.grown hg1 (hB.size) (λj hj=>by cases hj;exact bx _);clear hg1)
  |go_in)
 go_ret;first|exact⟨_,rfl,⟨_,ly⟩,Lo.A8 hB⟩|exact⟨_,_,rfl,ly,Lo.A8 hB⟩
def aNn(w:aU):(zeroValue 127).run aO w=.ok .nilFunc w:=by kernel_rfl
def aNm(w:aU):(zeroValue 134).run aO w=.ok (.agg #[.string ⟨#[]⟩,.nilFunc]) w:=by kernel_rfl
end
set_option maxHeartbeats 6400000 in
def aG6:aCY aO 20 68 9 71 ayy aw7:=⟨⟨_,RC,by decide+kernel,rfl⟩,by
 intro φ gc gs gr F fc fs fr hc hs hrd htx hac d line r hR w K bs v hB
 unfold exF at hR
 obtain⟨c,aNF,hR2⟩:=aI.1 hR
 clear hR
 rename _=>hR
 by_cases eJ:65536<ae c.1
 .rw[aQ eJ]at hR;cases hR
 rw[aP eJ]at hR
 have adr:=aNk c.1 (by unfold maxLen;omega)
 have cc:=(hc _ _ _ aNF).three (w:=w) (K:=K) (vs:=[.string ⟨line.toArray⟩,.string ⟨#[32]⟩]) (.cons _ _ _ _ (.str line) (.cons _ _ _ _ (.str [32]) .nil)) hB.kz hB.gl
 rw[fc]at cc
 clear hc aNF
 obtain⟨b0,o0,vs0,hv,hb0,aXl,-,-,-⟩:=af1 hB.box
 have aXa:=(hB.ge _ hb0).2
 subst hv
 have tx:∀{W:aU} {b n:ax},W.ownsMap aO 9 WV b n (M9 (ayy.map λp=>(p.1,fnV p.2)) (.map []))->(Ou 129 (.map (ai b)) (.string ⟨c.1.toArray⟩) aB).run aO W=.ok (.tuple #[(lk (ayy.map λp=>(p.1,fnV p.2)) c.1).getD .nilFunc,.bool (lk (ayy.map λp=>(p.1,fnV p.2)) c.1).isSome]) W:=λh=>avh h exK OJ (aNn _) (by decide) adr
 have ac:∀{W:aU} {b n:ax},W.ownsMap aO 9 WV b n (M9 (aw7.map λp=>(p.1,acV p.2)) (.map []))->(Ou 136 (.map (ai b)) (.string ⟨c.1.toArray⟩) aB).run aO W=.ok (.tuple #[(lk (aw7.map λp=>(p.1,acV p.2)) c.1).getD (.agg #[.string ⟨#[]⟩,.nilFunc]),.bool (lk (aw7.map λp=>(p.1,acV p.2)) c.1).isSome]) W:=λh=>avh h exK OK (aNm _) (by decide) adr
 rcases Tab.look fnV htx c.1 with ⟨l1,l2⟩|⟨f,n,l1,hf,l2⟩
 .rw[l1]at hR
  simp only at hR
  rw[l2]at tx
  have tx:∀{W:aU} {b m:ax},W.ownsMap aO 9 WV b m (M9 (ayy.map λp=>(p.1,fnV p.2)) (.map []))->(Ou 129 (.map (ai b)) (.string ⟨c.1.toArray⟩) aB).run aO W=.ok (.tuple #[.nilFunc,.bool aA]) W:=tx
  obtain⟨ws,hws,hR2⟩:=aI.1 hR
  clear hR
  rename _=>hR
  have gl:∀{W:aU},Lo w.heap.size w W->Dv aO K W:=λhL=>hB.gl.on (λb hb=>hb) λb hb=>hL.block b (hB.kz b hb)
  have kb:∀{W:aU},Lo w.heap.size w W->∀b,K b->b<W.heap.size:=λhL b hb=>bX (hB.kz b hb) hL.size
  have hwl:=(hs _ _ _ hws).1
  have sp:∀{W:aU},Lo w.heap.size w W->fF aO 9 #[.string ⟨line.toArray⟩,.string ⟨#[32]⟩] W λe w'=>∃ad cp,e=.returned (.slice ad (ae ws) cp)/\Lo W.heap.size W w'/\(ws=[]\/∃b o,ad=ai ⟨b,o,au⟩/\W.heap.size<=b/\b<w'.heap.size/\ae ws<=cp/\dw w' b o (ws.map axo)):=λ{W} hL=>by have:=(hs _ _ _ hws).2.own (w:=W) (K:=K) (vs:=[.string ⟨line.toArray⟩,.string ⟨#[32]⟩]) (.cons _ _ _ _ (.str line) (.cons _ _ _ _ (.str [32]) .nil)) (kb hL) (gl hL) (aox _);rw[fs]at this;refine this.mono ?_;rintro e w' ⟨ad,n,cp,he,h1,h2⟩;(rcases ayC h2.data with ⟨h3,rfl⟩|⟨b,o,h3,h4,rfl,h5,h6⟩);(·exact⟨ad,cp,by rw[he,h3];rfl,h1,.inl h3⟩);·exact⟨ad,cp,he,h1,.inr ⟨b,o,h3,h4.1,h4.2,h5,h6⟩⟩
  clear hs htx gl kb l1 eJ adr
  rcases Tab.look acV hac c.1 with ⟨m1,m2⟩|⟨p,q,m1,hf,m2⟩
  .rw[m1]at hR
   cases hR
   rw[m2]at ac
   have ac:∀{W:aU} {b m:ax},W.ownsMap aO 9 WV b m (M9 (aw7.map λp=>(p.1,acV p.2)) (.map []))->(Ou 136 (.map (ai b)) (.string ⟨c.1.toArray⟩) aB).run aO W=.ok (.tuple #[.agg #[.string ⟨#[]⟩,.nilFunc],.bool aA]) W:=ac
   clear hrd hac
   obtain⟨name,text,AX⟩:=c
   go_enter RC,WC
   go_wp2_with (fail)
   go_at_call 68
   refine cc.mono ?_
   rintro e w1 ⟨rfl,L1⟩
   go_wp2_with (fail)
   go_at_call 69
   refine(Tq _).mono ?_
   rintro e w2 ⟨b,n2,rfl,ly,L2⟩
   replace L2:=L1.trans (L2.mono L1.size)
   replace tx:=tx ly
   clear ly
   go_wp2_with (fail)
   go_at_call 9
   refine(sp L2).mono ?_
   rintro e w3 ⟨ad,cp,rfl,L3,-⟩
   replace L3:=L2.trans (L3.mono L2.size)
   go_wp2_with (fail)
   go_at_call 70
   refine(WN _).mono ?_
   rintro e w4 ⟨b,n2,rfl,ly,L4⟩
   replace L4:=L3.trans (L4.mono L3.size)
   replace ac:=ac ly
   clear ly sp
   go_wp2_with (fail)
   go_ret3
   have L5:=L4.alloc L4.size (.cells #[.string ⟨#[]⟩,.nilFunc] 134)
   exact⟨_,K,bs,rfl,(Fm.refl _ _ _).lo L5,hB.lo L5,λb hb=>.inl hb,.Rx au 0 1⟩
  .obtain⟨ks,f⟩:=p
   obtain⟨ks',n⟩:=q
   obtain⟨e,hf⟩:=hf
   cases e
   rw[m1]at hR
   rw[m2]at ac
   simp only at hR
   have ac:∀{W:aU} {b m:ax},W.ownsMap aO 9 WV b m (M9 (aw7.map λp=>(p.1,acV p.2)) (.map []))->(Ou 136 (.map (ai b)) (.string ⟨c.1.toArray⟩) aB).run aO W=.ok (.tuple #[.agg #[.string ⟨ks.toArray⟩,.func (.func n) #[] #[]],.bool aB]) W:=ac
   clear hac m1 m2
   obtain⟨name,text,AX⟩:=c
   by_cases hln:ae ws=ae ks+1
   rotate_left
   .rw[aP hln]at hR
    cases hR
    have aRU:¬(ae ws:aw)-1=ae ks:=by omega
    go_enter RC,WC
    go_wp2_with (fail)
    go_at_call 68
    refine cc.mono ?_
    rintro e w1 ⟨rfl,L1⟩
    go_wp2_with (fail)
    go_at_call 69
    refine(Tq _).mono ?_
    rintro e w2 ⟨b,n2,rfl,ly,L2⟩
    replace L2:=L1.trans (L2.mono L1.size)
    replace tx:=tx ly
    clear ly
    go_wp2_with (fail)
    go_at_call 9
    refine(sp L2).mono ?_
    rintro e w3 ⟨ad,cp,rfl,L3,-⟩
    replace L3:=L2.trans (L3.mono L2.size)
    go_wp2_with (fail)
    go_at_call 70
    refine(WN _).mono ?_
    rintro e w4 ⟨b,n2,rfl,ly,L4⟩
    replace L4:=L3.trans (L4.mono L3.size)
    replace ac:=ac ly
    clear ly sp
    go_wp2_with (fail)
    go_ret3
    have L5:=L4.alloc L4.size (.cells #[.string ⟨ks.toArray⟩,.func (.func n) #[] #[]] 134)
    exact⟨_,K,bs,rfl,(Fm.refl _ _ _).lo L5,hB.lo L5,λb hb=>.inl hb,.Rx au 0 1⟩
   .rw[aQ hln]at hR
    obtain⟨rr,R8,hR2⟩:=aI.1 hR
    clear hR
    rename _=>hR
    obtain⟨w0,wt,rfl⟩:∃w0 wt,ws=w0::wt:=by cases ws with|nil=>exact bG hln (by simp)|cons a b=>exact⟨_,_,rfl⟩
    have hwt:ae wt=ae ks:=by simpa using hln
    have aRU:(ae (w0::wt):aw)-1=ae ks:=by omega
    have R8:rdL F.rd ks wt ([],[],0,[],())=ai rr:=R8
    clear hln
    go_enter RC,WC
    go_wp2_with (fail)
    go_at_call 68
    refine cc.mono ?_
    rintro e w1 ⟨rfl,L1⟩
    go_wp2_with (fail)
    go_at_call 69
    refine(Tq _).mono ?_
    rintro e w2 ⟨b,n2,rfl,ly,L2⟩
    replace L2:=L1.trans (L2.mono L1.size)
    replace tx:=tx ly
    clear ly
    go_wp2_with (fail)
    go_at_call 9
    refine(sp L2).mono ?_
    rintro e w3 ⟨ad,cp,rfl,L3,h3⟩
    obtain⟨wb,wo,rfl,hb1,hb2,hcp,hcw⟩:=h3.resolve_left (by simp)
    clear h3 sp cc
    replace L3:=L2.trans (L3.mono L2.size)
    have aYh:=L2.size
    go_wp2_with (fail)
    go_at_call 70
    refine(WN _).mono ?_
    rintro e w4 ⟨b4,n4,rfl,ly,L4⟩
    have hcw:=hcw
    have hcw:dw w4 wb wo ((w0::wt).map axo):=hcw.of_block (L4.block wb hb2)
    have hb4:wb<w4.heap.size:=bX hb2 L4.size
    replace L4:=L3.trans (L4.mono L3.size)
    replace ac:=ac ly
    clear ly
    obtain⟨W5,hW5⟩:∃W5,W5=(w4.alloc (.cells #[.string ⟨ks.toArray⟩,.func (.func n) #[] #[]] 134)).alloc (.cells #[.slice au 0 0,.slice au 0 0,.int .i64 0,.string ⟨#[]⟩] 139):=⟨_,rfl⟩
    have hs5:W5.heap.size=w4.heap.size+2:=by rw[hW5];simp
    have L5:Lo w.heap.size w W5:=by rw[hW5];exact(L4.alloc L4.size _).alloc (by simp;have:=L4.size;omega) _
    have aRf:Bx aO φ wD ([],[],0,[],()) (.pointer (ai ⟨w4.heap.size+1,0,au⟩)) [w4.heap.size+1] K W5:=by have h:=Bx.LX (P:=aO) (φ:=φ) (w:=w4.alloc (.cells #[.string ⟨ks.toArray⟩,.func (.func n) #[] #[]] 134)) (w2:=W5) (K:=K) (t:=139) (λb hb=>by have:=hB.kz b hb;have:=L4.size;simp;omega) (hB.gl.on (λb hb=>hb) λb hb=>(L4.alloc L4.size _).block b (hB.kz b hb)) hW5;simp only[abb,Array.size_push]at h;exact h
    have ha0:W5.heap[w4.heap.size]? =ai (.cells #[.string ⟨ks.toArray⟩,.func (.func n) #[] #[]] 134):=by rw[hW5,iN _ _ (by simp),HB _ _ rfl]
    have aRo:dw W5 wb wo ((w0::wt).map axo):=hcw.of_block (by rw[hW5,iN _ _ (by simp;omega),iN _ _ hb4])
    have aNE:ae ks+1<=cp:=by rw[bl,hwt]at hcp;exact hcp
    have hkl:ae ks<4611686018427387904:=by rw[bl,hwt]at hwl;omega
    go_wp2_with (fail)
    all_goals rw[<-hW5]
    all_goals clear hcw L1 L2 L3 tx ac hcp hwl
    all_goals(
     go_loopw [70] (λs70 wr=>∃(kk:ax) (a:wD.ty) (K':ax->Prop) (WO:ah ax),kk<=ae ks/\s70=.int .i64 kk/\Lo (w4.heap.size+1) W5 wr/\Bx aO φ wD a (.pointer (ai ⟨w4.heap.size+1,0,au⟩)) WO K' wr/\(∀b∈WO,w4.heap.size+1<=b)/\(∀b,K' b->K b\/w4.heap.size+1<=b)/\(∀b,K b->K' b)/\Hid (rdL F.rd (ks.drop kk) (wt.drop kk) a=ai rr))
      (λs70 _=>ae ks-(intOf s70).toNat)
     case atStart=>exact⟨0,_,K,_,jJ _,rfl,Lo.refl _ _,aRf,λb hb=>by have:=aT.1 hb;omega,λb hb=>.inl hb,λb hb=>hb,R8⟩
     case round=>
      obtain⟨kk,a,K',WO,hkk,rfl,L6,hbx,hbs,hKd,hKu,hH⟩:=hrel
      have Ao:wr.heap[w4.heap.size]? =ai (.cells #[.string ⟨ks.toArray⟩,.func (.func n) #[] #[]] 134):=(L6.block _ (by omega)).trans ha0
      have aRp:dw wr wb wo ((w0::wt).map axo):=aRo.of_block (L6.block wb (by omega))
      have c0:wr.cell? ⟨w4.heap.size,0,au⟩=ai (.string ⟨ks.toArray⟩):=by simp only[b9,Ao];rfl
      have c1:wr.cell? ⟨w4.heap.size,1,au⟩=ai (.func (.func n) #[] #[]):=by simp only[b9,Ao];rfl
      by_cases dE:kk<ae ks
      .have aKA:¬cp=1:=by omega
       try(exact bG (by assumption) aKA)
       all_goals(
        have aXQ:(kk:aw)<(ae ks:aw):=by omega
        have xp:kk<ae wt:=by omega
        have hH:=hH.out
        rw[ba dE,ba xp]at hH
        simp only[rdL]at hH
        obtain⟨q,hq,hH2⟩:=aI.1 hH
        clear hH
        have hcr:=hbx.read (hrd _ _ _ _ hq)
        rw[fr]at hcr
        have hwc:wr.cell? ⟨wb,wo+1+kk,au⟩=ai (.string ⟨wt[kk].toArray⟩):=by have:=aRp (kk+1) (axo wt[kk]) (by rw[aY,bp,cC,aE xp];rfl);rw[Nat.add_comm kk 1,<-jS]at this;exact this
        generalize wt[kk]=aZG at hcr hwc
        clear hq
        obtain⟨qb,qa⟩:=q
        cases qb with
        |false=>
         rw[aP DA]at hH2
         cases hH2
         cases hR
         go_wp2_with (fail)
         go_at_call 71
         refine hcr.mono ?_
         rintro e w6 ⟨K6,bs6,rfl,F6,B6,hb6⟩
         go_wp2_with (fail)
         go_ret3
         have L7:=L5.trans ((L6.trans (F6.aOR hbs (by have:=L6.size;omega))).mono (by have:=L4.size;omega))
         exact⟨_,K,bs,rfl,(Fm.refl _ _ _).lo L7,hB.lo L7,λb hb=>.inl hb,.Rx au 0 1⟩
        |true=>
         rw[aQ rfl]at hH2
         go_wp2_with (fail)
         go_at_call 71
         refine hcr.mono ?_
         rintro e w6 ⟨K6,bs6,rfl,F6,B6,hb6⟩
         go_wp2_with (fail)
         have hs6:=L6.size
         exact⟨⟨kk+1,qa,K6,bs6,dE,rfl,L6.trans (F6.aOR hbs (by omega)),B6,λb hb=>(hb6 b hb).elim (hbs b) λh=>by omega,λb hb=>(F6.dn b hb).elim (hKd b) λh=>h.elim (λh=>.inr (hbs b h)) λh=>.inr (by omega),λb hb=>F6.up b (hKu b hb),hH2⟩,by simp only[intOf];omega⟩)
      .have hke:kk=ae ks:=by omega
       subst hke
       have hH:=hH.out
       rw[ac4,<-hwt,ac4]at hH
       cases hH
       obtain⟨q,hq,hR2⟩:=aI.1 hR
       cases hR2
       have en:lA aO n:=by obtain⟨g,rfl,en,-⟩:=hf;exact en
       have eg:=λargs w=>Ut (w:=w) en args
       have L7:=L5.trans (L6.mono (by have:=L4.size;omega))
       have hs4:=L4.size
       obtain⟨u0,u1,u2,u3,d0,d1,d2,d3,Dx⟩:=hbx.aQi
       have hge:∀b,(K' b\/b∈WO)->K b\/w4.heap.size+1<=b:=λb hb=>hb.elim (hKd b) λh=>.inr (hbs b h)
       have hBw:=(hB.lo L7).wide (K':=λb=>K' b\/b∈WO) (λb hb=>.inl (hKu b hb)) λb hb=>⟨hb.elim (hbx.kz b) λh=>(hbx.ge b h).2,λhm=>(hge b hb).elim (λh=>(hB.ge b hm).1 h) λh=>by have:=(hB.ge b hm).2;omega⟩
       have hct:=hBw.act Dx hf hq
       have F7:Fm w K bs wr λb=>K' b\/b∈WO:=((Fm.refl w K bs).lo L7).aGf (λb hb=>.inl (hKu b hb)) λb hb=>(hge b hb).imp id λh=>by omega
       have hsw:=L7.size
       have aXX:¬(ae ks:aw)<(ae ks:aw):=by omega
       clear hBw Dx hB hbx hrd hH
       go_wp2_with (fail)
       go_at_fn n
       refine hct.mono ?_
       rintro e w7 ⟨vl,K7,bs7,rfl,F8,B7,hb7,R7⟩
       go_wp2_with (fail)
       go_ret3
       exact⟨_,K7,bs7,rfl,F7.trans F8 λb hb=>.inl hb,B7,λb hb=>(hb7 b hb).imp id λh=>by omega,R7⟩)
 .rw[l1]at hR
  simp only at hR
  rw[l2]at tx
  have tx:∀{W:aU} {b m:ax},W.ownsMap aO 9 WV b m (M9 (ayy.map λp=>(p.1,fnV p.2)) (.map []))->(Ou 129 (.map (ai b)) (.string ⟨c.1.toArray⟩) aB).run aO W=.ok (.tuple #[.func (.func n) #[] #[],.bool aB]) W:=tx
  clear l1 l2 ac htx hac hrd hs adr eJ
  obtain⟨name,text,AX⟩:=c
  cases AX with
  |false=>
   rw[aP DA]at hR
   cases hR
   go_enter RC,WC
   go_wp2_with (fail)
   go_at_call 68
   refine cc.mono ?_
   rintro e w1 ⟨rfl,L1⟩
   go_wp2_with (fail)
   go_at_call 69
   refine(Tq _).mono ?_
   rintro e w2 ⟨b,n2,rfl,ly,L2⟩
   replace L2:=L1.trans (L2.mono L1.size)
   replace tx:=tx ly
   clear ly
   go_wp2_with (fail)
   go_ret3
   exact⟨_,K,bs,rfl,(Fm.refl _ _ _).lo L2,hB.lo L2,λb hb=>.inl hb,.Rx au 0 1⟩
  |true=>
   rw[aQ rfl]at hR
   obtain⟨q,hq,hR⟩:=aI.1 hR
   cases hR
   have en:lA aO n:=by obtain⟨g,rfl,en,-⟩:=hf;exact en
   have eg:=λargs w=>Ut (w:=w) en args
   go_enter RC,WC
   go_wp2_with (fail)
   go_at_call 68
   refine cc.mono ?_
   rintro e w1 ⟨rfl,L1⟩
   go_wp2_with (fail)
   go_at_call 69
   refine(Tq _).mono ?_
   rintro e w2 ⟨b,n2,rfl,ly,L2⟩
   replace L2:=L1.trans (L2.mono L1.size)
   replace tx:=tx ly
   clear ly
   have hct:=(hB.lo L2).text hf hq
   go_wp2_with (fail)
   go_at_fn n
   refine hct.mono ?_
   rintro e w3 ⟨K3,bs3,rfl,F3,B3,hbs⟩
   replace F3:=((Fm.refl w K bs).lo L2).trans F3 λb hb=>.inl hb
   go_wp2_with (fail)
   go_ret3
   obtain⟨K4,F4,B4,R4⟩:=F3.line B3 rfl
   exact⟨_,K4,bs3,rfl,F4,B4,λb hb=>(hbs b hb).imp id λh=>dQ L2.size h,R4⟩⟩
end
def XI:oQ aO Jh 839 AE:=aNl (F:=cP) (gc:=523) (gs:=683) (gr:=1007) aG6 (by kernel_rfl) (aG0 XX) (aBW oH) (aFg Uh)
 (.cons _ _ _ _ _ (atm ajO (by kernel_rfl)) (.cons _ _ _ _ _ (atm ajP (by kernel_rfl)) (.cons _ _ _ _ _ (atm ajQ (by kernel_rfl)) (.cons _ _ _ _ _ (atm ajR (by kernel_rfl)) (.cons _ _ _ _ _ (atm ajS (by kernel_rfl)) (.cons _ _ _ _ _ (atm ajT (by kernel_rfl)) (.cons _ _ _ _ _ (atm ajU (by kernel_rfl)) (.cons _ _ _ _ _ (atm ajV (by kernel_rfl)) (.cons _ _ _ _ _ (atm ajW (by kernel_rfl)) .nil)))))))))
 (.cons _ _ _ _ _ ⟨rfl,DL agL (by kernel_rfl)⟩ (.cons _ _ _ _ _ ⟨rfl,DL agK (by kernel_rfl)⟩ (.cons _ _ _ _ _ ⟨rfl,aIZ aep (by kernel_rfl)⟩ (.cons _ _ _ _ _ ⟨rfl,DL aek (by kernel_rfl)⟩ (.cons _ _ _ _ _ ⟨rfl,DL aen (by kernel_rfl)⟩ (.cons _ _ _ _ _ ⟨rfl,DL agM (by kernel_rfl)⟩ (.cons _ _ _ _ _ ⟨rfl,DL aem (by kernel_rfl)⟩ (.cons _ _ _ _ _ ⟨rfl,DL aei (by kernel_rfl)⟩ (.cons _ _ _ _ _ ⟨rfl,DL ael (by kernel_rfl)⟩ (.cons _ _ _ _ _ ⟨rfl,DL aeq (by kernel_rfl)⟩ (.cons _ _ _ _ _ ⟨rfl,DL XH (by kernel_rfl)⟩ (.cons _ _ _ _ _ ⟨rfl,DL abQ (by kernel_rfl)⟩ (.cons _ _ _ _ _ ⟨rfl,aIZ abP (by kernel_rfl)⟩ (.cons _ _ _ _ _ ⟨rfl,DL ZQ (by kernel_rfl)⟩ (.cons _ _ _ _ _ ⟨rfl,DL aeo (by kernel_rfl)⟩ (.cons _ _ _ _ _ ⟨rfl,DL aej (by kernel_rfl)⟩ .nil))))))))))))))))
def agJ:=rk Jn (kk aeA zz)
def apE:=rk KV zz
def ZP:=rk Cy (kk iw<|kk PK<|kk apE<|kk agV<|kk agJ<|kk XI zz)
def abU:=rk xc zz
def ajJ:=rk xU (kk iw<|kk ajF<|kk ZP<|kk oH<|kk abU zz)
def Uj:=rk lE (kk ajJ<|kk aj1 zz)
def law:∀x,wfU lE.c.ps x->∃y,lE.c.f x=ai y/\JD lE.c y=([A.bool aB],[]):=λx hx=>⟨aB,(laws_FnExactRunDesk_true x.1 hx.1),rfl⟩
def own:ownKnob aO.godebug=au:=by kernel_rfl
def laid:laidOutB aO=aB:=by kernel_rfl
def reads:∀t∈j9.params.toList,aO.readableRec t=aB/\t<aO.types.size:=by
 have h:(j9.params.toList.all λt=>aO.readableRec t&&ao (t<aO.types.size))=aB:=by kernel_rfl
 intro t ht;have:=bz.1 h t ht;simpa only[az,aG]using this
def aIh(H:Type):∀(ds:ah (FI H)),ae ds=j9.params.toList.length->dj.fn H ds={results:=[.lit (.bool aB)],args:=ds}:=by intro ds hd;have hd:ae ds=1:=hd;match ds,hd with| [d0],_=>rfl
def tab(W:aU)(hL:laidMetH aO bD.laid W):∀i,aO.globalNamed zH=ai i->Lib.TabIs aO W zH .u64 aC2:=by
 intro i hi;have hp:(bD.laid.all λx=>x.2.handleName?.isNone)=aB:=by kernel_rfl
 rw[Lv _ _ _ hp]at hL;have h1:laidMet aO (("internal/strconv.uint64pow10",aar):: [("unicode/utf8.acceptRanges",Rows.laid_unicode_utf8_acceptRanges),("strconv.ErrRange",aqf),("strconv.ErrSyntax",Om),("unicode/utf8.first",Lw)]) W:=(laidMet.tail (laidMet.tail hL));have e:(aar:FI mW)=Lib.tabData .u64 aC2:=by kernel_rfl
 rw[e]at h1;exact Lib.tabIs_of_head (t:=423) (e:=357) (n:=20) hi (by obtain rfl:=cA ((show aO.globalNamed zH=ai 5 by kernel_rfl).symm.trans hi);kernel_rfl) (by kernel_rfl) (by kernel_rfl) (by kernel_rfl) (by kernel_rfl) h1
def aQo(W:aU)(hL:laidMetH aO bD.laid W):∀n,adm.contains n=aB->∀i,aO.globalNamed n=ai i->∃u v,W.var? aO n=ai #[.iface u v]:=by
 intro n hn i hi;have hn:n= "strconv.ErrSyntax" ∨n= "strconv.ErrRange" :=by simpa[adm]using hn
 have hp:(bD.laid.all λx=>x.2.handleName?.isNone)=aB:=by kernel_rfl
 rw[Lv _ _ _ hp]at hL;rcases hn with rfl|rfl
 .have h1:laidMet aO (("strconv.ErrSyntax",Om):: [("unicode/utf8.first",Lw)]) W:=(laidMet.tail (laidMet.tail (laidMet.tail (laidMet.tail (laidMet.tail hL)))));exact amT (ti:=274) h1 ⟨_,_,rfl⟩ hi (by obtain rfl:=cA ((show aO.globalNamed "strconv.ErrSyntax" =ai 3 by kernel_rfl).symm.trans hi);kernel_rfl) DB
 .have h1:laidMet aO (("strconv.ErrRange",aqf):: [("strconv.ErrSyntax",Om),("unicode/utf8.first",Lw)]) W:=(laidMet.tail (laidMet.tail (laidMet.tail (laidMet.tail hL))));exact amT (ti:=274) h1 ⟨_,_,rfl⟩ hi (by obtain rfl:=cA ((show aO.globalNamed "strconv.ErrRange" =ai 4 by kernel_rfl).symm.trans hi);kernel_rfl) DB
def al5(H:Type)(enc:bO×aL->H)(W:aU)(base:ax)(args:kZ aL)(ds gs:ah (FI H))(uv:ah Ik)
 (amr:∀(j:ax) t v,j9.params[j]? =ai t->args[j]? =ai v->Gt aO W .any base t v)
 (hW:aAr enc aO j9.params.toList dj.vars aA W args.toList ds gs uv) (hL:laidMetH aO bD.laid W) (hsh:W.ShapedOpen aO):
 fF aO 3 args W λe W'=>∃v,e=.returned v/\dj.post enc aO j9 aA aB aA aA W args v W':=
 ata (φ:=Jh) (g:=1338) (n:=20) Uj rfl rfl (tb:=4) mA (by kernel_rfl) rfl law laid reads aIh W base args ds gs uv amr hW (Dv.start hsh (tab W hL) (aQo W hL))
def lifted(os:Os)(afy:os.Started)(H:Type)(enc:bO×aL->H): ReturnsInHanded {} aqb os 3 .any (λw args=>(dj.pre enc aO j9 bD.domain aA w args/\laidMetH aO bD.laid w)/\sizedMet enc aO j9 (Zo dj) aA w args) (dj.post enc aO j9 aA aB aA aA):=by
 refine X5 (C:=aqb) (laid:=bD.laid) own afy (by kernel_rfl) Tryz.func3
  (ChangeSpec.witness_shaped (enc:=enc) (C:=aqb) (os:=os) (X:=λw _=>laidMetH aO bD.laid w) aA (World.laidAll aO os bD.laid) #[.string ⟨#[]⟩] 12 (World.laidAll_os _ _ _)
    (World.shaped_of_ZipB (by kernel_rfl) (by kernel_rfl)) (by kernel_rfl) (by kernel_rfl) (by kernel_rfl)
    (by rw[Lv _ _ _ (by kernel_rfl)];exact laidMet_laidAll _ (by kernel_rfl) (by kernel_rfl))) ?_
 intro W base args ds gs uv amr hW hL hsh;exact al5 H enc W base args ds gs uv amr hW hL hsh
end Go.Proofs.YtoifpbonojhjfaaGreatDoor.fnExactRunDesk

