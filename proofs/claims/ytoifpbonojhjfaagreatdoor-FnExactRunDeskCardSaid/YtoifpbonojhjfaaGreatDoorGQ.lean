/- The commands of the desk, second part: the law answers true. Conditions: the argument is bytes. -/
import Derived.Test.YtoifpbonojhjfaaGreatDoorG6
set_option linter.unusedVariables false
set_option linter.unusedSectionVars false
set_option linter.unusedSimpArgs false
set_option maxRecDepth 4000
set_option linter.defProp false
open Bool renaming and_eq_true->az,and_self->bw,eq_iff_iff->awB,false->aA,false_and->qe,false_eq_true->ar,false_or->Av,not_eq_true->aJJ,not_false->bZ,not_true->aV,true->aB,true_and->jz,true_or->Ct
open Decidable renaming decide->ao
open Eq renaming trans->Tv
open Go.IntKind renaming i64->ak,wrap->aj
open Go.Lib renaming cut->TA,itoa->bT,join->jT
open Go.Op renaming bytesLess->dB
open Go.Proofs renaming bytesLess_eq->aa9
open Int renaming le_refl->gX,lt_irrefl->aMy,mul_nonneg->aw2,natCast_nonneg->aN,natCast_zero->LN,ofNat_zero->TE,toNat_natCast->aH,toNat_zero->aJ7
open List renaming all_eq_true->bz,any_cons->oy,any_eq_false->LP,append_assoc->df,append_nil->cD,cons_append->Am,drop_eq_getElem_cons->ba,drop_eq_nil_of_le->br,drop_length->ac4,drop_of_length_le->fY,drop_sublist->aIX,drop_zero->cL,eq_append_cons_of_mem->AU,flatMap_cons->cr,flatten_cons->WK,getElem?_append_left->dM,getElem?_append_right->fR,getElem?_cons_succ->bp,getElem?_cons_zero->aD,getElem?_eq_getElem->aE,getElem?_map->cC,getElem?_replicate->aDe,getElem?_set_self->aGn,getElem_append_left->Ty,getElem_mem->bH,getElem_take->aIY,length->ae,length_append->bg,length_cons->bl,length_drop->dR,length_eq_zero_iff->fJ,length_map->bf,length_nil->bQ,length_pos_iff->U9,length_set->Ow,length_singleton->cT,length_take->cO,lt_trans->aim,map_append->dP,map_cons->aY,map_nil->gJ,map_set->aqj,mem_append->bt,mem_cons->bP,mem_cons_of_mem->bm,mem_cons_self->cI,mem_flatten->api,mem_map->dF,mem_of_getElem? ->cq,mem_of_mem_drop->dk,mem_of_mem_take->jO,mem_or_eq_of_mem_set->WE,mem_singleton->aT,nil_append->cJ,not_mem_nil->iT,pairwise_append->OP,pairwise_cons->kR,replicate->bK,set_append_right->aCF,set_getElem_self->abd,singleton_append->qO,tail_cons->at4,take->pR,take_add_one->WL,take_append_of_le_length->nE,take_left'->aMB,take_length->bc,take_of_length_le->cH,take_succ_eq_append_getElem->jo
open Nat renaming le_refl->bx,le_trans->dQ,sub_self->Qu,zero_add->dL
open Option renaming bind->af,bind_some->ag,getD_some->jA,map_eq_some_iff->aM,none->au,some->ai
open Option.some renaming inj->cA
open _root_ renaming Bool->aW,Int->aw,List->ah,Nat->ax,Option->aq,UInt8->ay,Unit->mW,absurd->bG,bne_self_eq_false->Qw,congrArg->wE,false_and->atP
namespace Go.Ab.P
open Go.Ab
abbrev am:ah ay:=[99,117,116]
abbrev ap:ah ay:=[116,104,105,110]
abbrev bi:ah ay:=[109,97,115,115]
abbrev bv:ah ay:=[115,104,105,109]
abbrev ce:ah ay:=[110,111,116,101]
abbrev ci:ah ay:=[119,111,108,102]
abbrev co:ah ay:=[98,101,110,99,104,101,115]
abbrev dg:ah ay:=[116,114,117,115,116]
abbrev dl:ah ay:=[115,116,97,99,107]
abbrev d7:ah ay:=[114,105,98]
abbrev d8:ah ay:=[112,101,103]
abbrev d9:ah ay:=[112,108,97,116,101]
abbrev eq:ah ay:=[110,101,99,107]
abbrev f8:ah ay:=[112,111,116]
abbrev f9:ah ay:=[109,111,100,101]
abbrev gt:ah ay:=[119,111,114,107]
abbrev ii:ah ay:=[112,97,112,101,114]
abbrev ip:ah ay:=[99,108,101,97,110]
abbrev jp:ah ay:=[114,101,112,111,114,116]
abbrev kw:ah ay:=[115,104,111,119]
abbrev li:ah ay:=[104,101,108,112]
abbrev lm:ah ay:=[111,112,101,110]
abbrev lw:ah ay:=[100,114,121]
abbrev md:ah ay:=[110,111,110,101]
abbrev mt:ah ay:=[103,108,117,101]
abbrev m8:ah ay:=[102,105,116]
namespace Pl
def awc(a b:ah aw):Fz (a++b)=Fz a+Fz b:=by simp[Fz,List.sum_append]
def afh(c:aw):H5 c=ai (fS c 1 200):=by rw[Tg];simp only[cY,ag]
def aaW(b le:aw):ack b le=ai (fS b 0 200&&fS le 1 200):=by rw[apV];simp only[cY,afh,ag];cases fS b 0 200<;>rfl
def NA(b le:aw):JN b le=ai (fS b 1 10000&&fS le 1 2000):=by rw[acm];simp only[cY,ag];cases fS b 1 10000<;>rfl
def Nj(r:ah aw)(hr:ae r<=1000):qI r=ai r:=by
 have fm:0+ae r<lim:=by unfold lim;omega
 rw[Ye];simp only[fm,aF,aK,cJ,FA]
def anH:∀(xs:ah (ah aw)),(∀r,r∈xs->ae r<=1000)->Y9 qI xs=ai xs
 | [],_=>rfl
 |r::t,h=>by show(qI r).bind _=_;rw[Nj r (h r cI),ag,anH t λx hx=>h x (bm _ hx)];rfl
def aof(xs:ah (ah aw))(h:eh xs=aB)(b le:aw)(hb:0<=b/\b<=200)(hl:1<=le/\le<=200):Yo xs b le=ai (Qm b le xs):=by
 obtain⟨h1,c,hc,hx⟩:=mM h;rw[aoe];unfold aDx;rw[aQ ⟨by omega,by omega,by omega,by omega,by omega⟩,anH xs λr hr=>by rw[(hx r hr).1];omega];show(if _ then _ else _)=_;rw[aQ];·rfl
 .rw[bz];intro r hr;simp only[an3,az,aG,bz];refine⟨by rw[(hx r hr).1];omega,λx TL=> ?_⟩;have:=(hx r hr).2 x TL;omega
def akG(xs:ah (ah aw))(h:eh xs=aB)(b le:aw)(hb:0<=b/\b<=200)(hl:1<=le/\le<=200):EM xs b le=ai (Qm b le xs,0):=by have hz:=yz h;rw[VM,ou xs hz.1 hz.2,ag,h];simp only[aV,ar,aJ,aaW,ag,ck.2 hb,ck.2 hl,bw,aof xs h b le hb hl]
section
variable (xs:ah (ah aw)) (h:eh xs=aB) (c d:aw) (hc:1<=c/\c<=10000) (hd:1<=d/\d<=2000)
include h
def Yb(i:ax)(hi:i<ae xs):∀(n k:ax) (a:aw),k+n=xs[i].length->0<=a/\a<=1000000+200*k->
 Ce xs c d a i k=vX xs c d (a+Fz (xs[i].drop k)) ((i+1:ax):aw)
 |0,k,a,hk,ha=>by
  have h0:(0:aw)<=(i:aw):=by omega
  have hk':¬(k:aw)<(xs[i].length:aw):=by omega
  have Vk:=zG h;rw[ND];simp only[h0,aF,aK,aH,aE hi,ag,hk',aX,ar,aJ];rw[eD (by omega),br (by omega)];simp[Fz]
 |n+1,k,a,hk,ha=>by
  have h0:(0:aw)<=(i:aw):=by omega
  have h1:(0:aw)<=(k:aw):=by omega
  have hk':(k:aw)<(xs[i].length:aw):=by omega
  have hkl:k<xs[i].length:=by omega
  have hrl:=M7 h hi;have jy:=ab0 h hi hkl;rw[ND];simp only[h0,h1,aF,aK,aH,aE hi,ag,hk',aE hkl];rw[eD (by omega),fp (n:=a+xs[i][k]) (by omega) (by omega),Yb i hi n (k+1) (a+xs[i][k]) (by omega) (by omega),ba hkl,ahX,Int.add_assoc]
include hc hd
def Ya:∀(n i:ax) (a:aw),i+n=ae xs->0<=a->a+Fz (xs.drop i).flatten=Fz xs.flatten->vX xs c d a i=ai (aqX xs c d)
 |0,i,a,hi,ha,hs=>by
  have Vj:¬(i:aw)<(ae xs:aw):=by omega
  rw[br (by omega)]at hs;have hs:a=Fz xs.flatten:=by simpa[Fz]using hs
  obtain⟨f1,f2⟩:=M6 h;have f3:=Ih _ f2;have f4:=asG (s:=Fz xs.flatten) (by omega) hc hd;rw[NC];simp only[Vj,aX,ar,aJ];rw[hs,fp (n:=Fz xs.flatten*c) (by omega) (by omega),fp (n:=Fz xs.flatten*c*d) (by omega) (by omega),pr _ _ (by omega) (by omega)];rfl
 |n+1,i,a,hi,ha,hs=>by
  have Vj:(i:aw)<(ae xs:aw):=by omega
  have tT:i<ae xs:=by omega
  obtain⟨f1,f2⟩:=M6 h;have f3:=Ih _ f2;rw[ba tT,WK,awc]at hs;have f5:=Ih (xs.drop (i+1)).flatten λy hy=>f2 y (by obtain⟨r,hr,hy⟩:=api.1 hy;exact api.2 ⟨r,dk hr,hy⟩);have f6:=Ih xs[i] λy hy=>f2 y (api.2 ⟨_,bH tT,hy⟩);rw[NC];simp only[Vj,aF,aK];have:=Yb xs h c d i tT xs[i].length 0 a (by omega) (by omega);rw[cL]at this;refine this.trans ?_;exact Ya n (i+1) _ (by omega) (by omega) (by omega)
def ae3:yF xs c d=ai (aqX xs c d,0):=by have hz:=yz h;rw[P8,ou xs hz.1 hz.2,ag,h];simp only[aV,ar,aJ,NA,ag,ck.2 hc,ck.2 hd,bw];rw[akR];have:=Ya xs h c d hc hd (ae xs) 0 0 (by omega) (by omega) (by simp);rw[show((0:ax):aw)=0 from rfl]at this;rw[this];rfl
end
def aB4(xs:ah (ah aw))(h:eh xs=aB)(b le:aw):EM xs b le=Ea xs b le:=by
 have hz:=yz h;by_cases hc:fS b 0 200=aB/\fS le 1 200=aB;·rw[akG xs h b le (ck.1 hc.1) (ck.1 hc.2),Vv xs h b le (ck.1 hc.1) (ck.1 hc.2)]
 .rw[VM,ou xs hz.1 hz.2,ag,h,BI,eG xs hz.1 hz.2,ag,h];simp only[aV,ar,aJ,KR,JB,ag,aaW];cases e1:fS b 0 200;·rfl
  .cases e2:fS le 1 200;(·rfl);·exact bG ⟨e1,e2⟩ hc
def aBq(xs:ah (ah aw))(h:eh xs=aB)(c d:aw):yF xs c d=xS xs c d:=by
 have hz:=yz h;by_cases hc:fS c 1 10000=aB/\fS d 1 2000=aB;·rw[ae3 xs h c d (ck.1 hc.1) (ck.1 hc.2),O6 xs h c d (ck.1 hc.1) (ck.1 hc.2)]
 .rw[P8,ou xs hz.1 hz.2,ag,h,D4,eG xs hz.1 hz.2,ag,h];simp only[aV,ar,aJ,MG,NA,ag];have:(fS c 1 10000&&fS d 1 2000)=aA:=by cases e1:fS c 1 10000;(·rfl);·cases e2:fS d 1 2000;(·rfl);·exact bG ⟨e1,e2⟩ hc
  simp[this]
end Pl
namespace Gl
def Gv(l:ah aw):Prop:=ae l<=10/\∀y,y∈l->0<=y/\y<=100
def Gv.nil:Gv []:=⟨by simp,λ_ h=>by cases h⟩
def mS(AX:aW)(CM:aw):aw:=if AX then CM else-1
def ayv{x:cx.ty}(h:CQ x=aB):Ff x=ai (awb x):=by have h1:=LG.1 h;exact afn x.1 x.2.1 x.2.2.1 x.2.2.2.1 x.2.2.2.2.1 (by omega) (by omega) (by omega) (by omega)
def GB(ps:ah cx.ty)(ns rest gq:ah aw)(sum left cu:aw)(ri:aW×gD.ty)(rs:et.ty):Prop:=(∃(l:aw) (b:ah aw) (m:aw) (f:aW),0<=l/\l<=left/\Gv b/\0<=m/\ri=(aB,(ps,ns,rest,l,gq,sum,b,m,f,()))/\rs=(ps,ns,rest,gq,b,mS f m,cu-l,cu,aA,()))\/ (∃(R2 G2 B2:ah aw) (l2 s2 m2:aw) (f2:aW) (R G B:ah aw) (M nd:aw),ae R2=ae ps/\ae gq<=ae G2/\ae R=ae ps/\ae gq<=ae G/\ri=(aA,(ps,ns,R2,l2,G2,s2,B2,m2,f2,()))/\rs=(ps,ns,R,G,B,M,nd,cu,aB,()))
def xF(ps:ah cx.ty)(ns:ah aw)(cu:aw)(Md:ae ps<=8)(Gy:ae ns<=10)(hp:∀x,x∈ps->CQ x=aB)(hn:∀n,n∈ns->1<=n/\n<=10000)(hbu:0<=cu/\cu<=20000):∀(d n:ax),d<n->∀(rest gq:ah aw) (sum left:aw) (V5:ah aw) (CM:aw) (AX:aW),
 ae gq+d=ae ns->ae rest=ae ps->(∀x,x∈rest->0<=x/\x<=20000)->Gv gq->Gv V5->0<=CM->0<=sum/\sum<=10000001*(ae gq:aw)->0<=left/\left<=cu->
 ∃ri rs,uM n (ps,ns,rest,left,gq,sum,V5,CM,AX,())=ai ri/\vd n (ps,ns,rest,gq,V5,mS AX CM,cu-left,cu,aA,()) sum=ai rs/\GB ps ns rest gq sum left cu ri rs
 |0,n+1,_,rest,gq,sum,left,V5,CM,AX,hd,hrl,hrb,hgv,hbv,hm0,hs,hl=>by
  have hgl:((ae gq:aw)==(ae ns:aw))=aB:=by simp;omega
  have hc:=ID gq (by omega)
  have ho:=Pl.Nj gq (by omega)
  rw[F9,Gi]
  simp only[hgl,aK,QM,bc,bM,JT,acz,hc,ho,ag]
  cases AX with
  |false=>
   have:sum>mS aA CM:=by unfold mS;simp;omega
   simp only[bZ,aK,this,aF]
   exact⟨_,_,rfl,rfl,.inl ⟨left,gq,sum,aB,hl.1,gX _,hgv,hs.1,rfl,rfl⟩⟩
  |true=>
   have e:mS aB CM=CM:=rfl
   simp only[aV,ar,aJ,aG,e]
   by_cases dE:sum>CM
   .simp only[dE,aK]
    exact⟨_,_,rfl,rfl,.inl ⟨left,gq,sum,aB,hl.1,gX _,hgv,hs.1,rfl,rfl⟩⟩
   .simp only[dE,aJ]
    exact⟨_,_,rfl,rfl,.inl ⟨left,V5,CM,aB,hl.1,gX _,hbv,hm0,rfl,rfl⟩⟩
 |d+1,n+1,hdn,rest,gq,sum,left,V5,CM,AX,hd,hrl,hrb,hgv,hbv,hm0,hs,hl=>by
  have hgl:((ae gq:aw)==(ae ns:aw))=aA:=by simp;omega
  have hga:ae gq<ae ns:=by omega
  have hn0:=hn ns[ae gq] (bH hga)
  have loop:∀(k j:ax),j+k=ae ps->∀(G Gs:ah aw),G.take (ae gq)=gq->Gs.take (ae gq)=gq->∀(left:aw) (V5:ah aw) (CM:aw) (AX:aW),Gv V5->0<=CM->0<=left/\left<=cu->
   ∃ri rs,lD n (ae gq:aw) ps (ae ps:aw) (j:aw) ps ns (ae rest) left (ae gq) sum CM AX rest G V5=ai ri/\
    lG n sum (ae gq:aw) (j:aw) ps ns (ae rest) (ae gq) (mS AX CM) (cu-left) cu aA rest Gs V5=ai rs/\GB ps ns rest gq sum left cu ri rs:=by
   intro k
   induction k with
   |zero=>
    intro j hj G Gs hG hGs left V5 CM AX hbv hm0 hl
    have hn:¬(j:aw)<(ae ps:aw):=by omega
    rw[A1,rB]
    simp only[hn,aX,ar,aJ,bc,bM,hG,hGs]
    exact⟨_,_,rfl,rfl,.inl ⟨left,V5,CM,AX,hl.1,gX _,hbv,hm0,rfl,rfl⟩⟩
   |succ k ih=>
    intro j hj G Gs hG hGs left V5 CM AX hbv hm0 hl
    have hjb:j<ae ps:=by omega
    have dE:(j:aw)<(ae ps:aw):=by omega
    have hjr:j<ae rest:=by omega
    have hju:(j:aw)<(ae rest:aw):=by omega
    have hw:aj ak ((j:aw)+1)=((j+1:ax):aw):=eD (by omega)
    have hpj:=hp ps[j] (bH hjb)
    have hrj:=hrb rest[j] (bH hjr)
    have hsx:=(Za hpj).2
    rw[A1,rB]
    simp only[dE,aF,aK,aN,aH,bY hjb,ag,hju,bw,bY hjr,hw,bY hga,aG,Rf,bZ]
    by_cases hm:rest[j]<ns[ae gq]
    .simp only[hm,aK]
     exact ih (j+1) (by omega) G Gs hG hGs left V5 CM AX hbv hm0 hl
    .simp only[hm,aJ]
     by_cases hz:left=0
     .subst hz
      have:(cu-0==cu)=aB:=by simp
      simp only[this,eB,aK,bc,bM,hG,hGs]
      exact⟨_,_,rfl,rfl,.inr ⟨rest,gq,V5,0,sum,CM,AX,rest,gq,V5,_,_,hrl,bx _,hrl,bx _,rfl,rfl⟩⟩
     .have hz':(left==0)=aA:=by simpa using hz
      have hz2:(cu-left==cu)=aA:=by simp;omega
      have fm:ae gq+1<lim:=by rw[ez];omega
      have aRH:Gv (gq++ [(j:aw)]):=⟨by simp;omega,λy hy=>by(rcases bt.1 hy with hy|hy);(·exact hgv.2 y hy);·rw[aT.1 hy];omega⟩
      obtain⟨⟨ok,w⟩,rs,e3,e4,hp3⟩:=xF ps ns cu Md Gy hp hn hbu d n (by omega) (rest.set j (rest[j]-ns[ae gq])) (gq++ [(j:aw)]) (sum+awb ps[j]) (left-1) V5 CM AX (by simp;omega) (by simpa using hrl) (λx hx=>by(rcases WE hx with hx|rfl);(·exact hrb x hx);·omega) aRH hbv hm0 (by simp only[bg,cT];omega) (by omega)
      have enx:cu-left+1=cu-(left-1):=by omega
      simp only[hz',hz2,ar,aJ,ag,fm,aF,aK,hG,hGs,YC hpj,ayv hpj,fp (n:=sum+awb ps[j]) (by omega) (by omega),fp (n:=rest[j]-ns[ae gq]) (by omega) (by omega),bc,bM,fp (n:=left-1) (by omega) (by omega),fp (n:=cu-(left-1)) (by omega) (by omega),enx,
       show(rest.set j (rest[j]-ns[ae gq])).take (ae rest)=rest.set j (rest[j]-ns[ae gq])from cH (by simp),e3,e4]
      have c1:(ae gq:aw)<=(ae (gq++ [(j:aw)]):aw):=by simp;omega
      have c3:(rest.set j (rest[j]-ns[ae gq]))[j]? =ai (rest[j]-ns[ae gq]):=aGn hjr
      have c4:(gq++ [(j:aw)]).take (ae gq)=gq:=by simp
      have aEn:(rest.set j (rest[j]-ns[ae gq])).set j rest[j]=rest:=by
       rw[List.set_set];exact abd hjr
      rcases hp3 with ⟨l,b,m,f,q1,q2,q3,q4,q5,rfl⟩|⟨R2,G2,B2,l2,s2,m2,f2,R,G',B,M,nd,q1,q2,q3,q4,q5,rfl⟩
      .cases q5
       simp only[ag,c1,c3,hju,bY hga,aF,bw,aK,Ow,YC hpj,show rest[j]-ns[ae gq]+ns[ae gq]=rest[j]by omega,fp (n:=rest[j]) (by omega) (by omega),aEn,show sum+awb ps[j]-awb ps[j]=sum by omega,fp (n:=sum) (by omega) (by omega),aV,ar,aJ]
       obtain⟨ri,rs,f1,f2,f3⟩:=ih (j+1) (by omega) (gq++ [(j:aw)]) (gq++ [(j:aw)]) c4 c4 l b m f q3 q4 (by omega)
       refine⟨ri,rs,f1,f2,?_⟩
       rcases f3 with ⟨l2,b2,m2,f2',r1,r2,r3⟩|f3
       .exact .inl ⟨l2,b2,m2,f2',r1,by omega,r3⟩
       .exact .inr f3
      .cases q5
       rw[bg,cT]at q2 q4
       have d1:(ae gq:aw)<=(ae G2:aw):=by omega
       have d2:(ae gq:aw)<=(G'.length:aw):=by omega
       have d3:j<ae R2:=by omega
       have d4:j<ae R:=by omega
       have d5:(j:aw)<(ae R2:aw):=by omega
       have d6:(j:aw)<(ae R:aw):=by omega
       simp only[ag,d1,d2,d5,d6,bY d3,bY d4,bY hga,aF,bw,aK,YC hpj,bZ,rB,aV,ar,aJ,ra,bM]
       exact⟨_,_,rfl,rfl,.inr ⟨_,_,_,_,_,_,_,_,_,_,_,_,by simp[q1],by simp;omega,by simp[q3],by simp;omega,rfl,rfl⟩⟩
  rw[F9,Gi];simp only[hgl,ar,aJ];exact loop (ae ps) 0 (by omega) gq gq (by simp) (by simp) left V5 CM AX hbv hm0 hl
def aBt(ns:ah aw)(h:ae ns<=1048576):Rc ns=ai (Ug ns):=by
 rw[ahI];have e:=KH ns Bq abL (λi=>tw ns i) aA (ai (ao ((ae ns:aw)<=10))) (λi=>aac ns i) (by omega) (λx _=>by rw[Th,cY];rfl) (ae ns) 0 (by omega);have e:tw ns 0=if((ns.drop 0).all abL)=aB then ai (ao ((ae ns:aw)<=10))else ai aA:=e
 rw[e,cL,Ug];cases ns.all abL<;>rfl
def aDR(ps:ah cx.ty)(hl:ae ps<=8)(hp:∀x,x∈ps->CQ x=aB):UI ps=ai (ps.map Zt):=by
 have loop:∀(k i:ax),i+k=ae ps->Ci ps i ((ps.take i).map Zt)=ai (ps.map Zt):=by intro k;induction k with|zero=>intro i hi;(have:¬(i:aw)<(ae ps:aw):=by omega);rw[NL,cH (by omega)];simp only[this,aX,ar,aJ,bM]|succ k ih=>intro i hi;(have tT:i<ae ps:=by omega);(have dE:(i:aw)<(ae ps:aw):=by omega);have hc:=(Za (hp ps[i] (bH tT))).1;(have fm:ae ((ps.take i).map Zt)+1<lim:=by rw[ez,bf,cO];omega);have ih:=ih (i+1) (by omega);rw[jo tT,dP]at ih;have hw:aj ak (ps[i].2.1+ps[i].2.2.1)=Zt ps[i]:=fp (n:=Zt ps[i]) (by omega) (by omega);rw[NL];simp only[dE,aF,aK,aN,aH,bY tT,ag,fm,hw,bM,eD (show i<4611686018427387904 by omega)];exact ih
 rw[akY];exact loop (ae ps) 0 (by omega)
def aA5(ps:ah cx.ty)(ns:ah aw)(b:aw)(hps:aw5 ps)(hns:ae ns<=100):∃g s e,Jr ps ns b=ai (g,s,e)/\JG ps ns b=ai (g,s,e)/\Gv g/\0<=e/\e<=11:=by
 rw[abt,YN ps hps,auh ns (by omega),aca,aa1 ps (by have:=hps.1;omega) (λx hx=>by have:=hps.2 x hx;unfold ay3 at this;omega),aBt ns (by omega)];simp only[ag,bW,cY];cases e1:rp ps;·exact⟨_,_,_,rfl,rfl,Gv.nil,by omega,by omega⟩
 cases e2:Ug ns;·exact⟨_,_,_,rfl,rfl,Gv.nil,by omega,by omega⟩
 cases e3:fS b 1 20000;·exact⟨_,_,_,rfl,rfl,Gv.nil,by omega,by omega⟩
 have hb:=ck.1 e3;have Md:=ayf e1;have hpo:=Uq e1;obtain⟨Gy,hno⟩:=avn e2;obtain⟨ri,rs,e,e',hp⟩:=xF ps ns b Md Gy hpo hno (by omega) (ae ns) 1000 (by omega) (ps.map Zt) [] 0 b [] 0 aA (by simp) (by simp) (λx hx=>by obtain⟨y,hy,rfl⟩:=dF.1 hx;have:=(Za (hpo y hy)).1;omega) Gv.nil Gv.nil (by omega) (by simp) (by omega);rw[show mS aA 0= -1 from rfl,show b-b=0 by omega]at e';simp only[aV,ar,aJ,V9,auq ps Md hpo,Ws,aDR ps Md hpo,ag,bM,e,e'];rcases hp with ⟨l,bb,m,f,q1,q2,q3,q4,rfl,rfl⟩|⟨R2,G2,B2,l2,s2,m2,f2,R,G',B,M,nd,q1,q2,q3,q4,rfl,rfl⟩
 .simp only[aV,ar,aJ];cases f;·(have:mS aA m<0:=by unfold mS;simp);simp only[this,aF,bZ,aK];exact⟨_,_,_,rfl,rfl,Gv.nil,by omega,by omega⟩
  ·(have:¬mS aB m<0:=by unfold mS;simp;omega);simp only[this,aX,aV,ar,aJ];exact⟨_,_,_,rfl,rfl,q3,by omega,by omega⟩
 .exact⟨_,_,_,rfl,rfl,Gv.nil,by omega,by omega⟩
end Gl
namespace Cu
def j6(cg:aw)(free:ah aw)(M:ax):ah aw:=(free.map λx=>cg-x)++bK (M-ae free) 0
def arA{cg:aw}{free:ah aw}{M:ax}(h:ae free<=M):ae (j6 cg free M)=M:=by simp[j6];omega
def aB9{cg:aw}{free:ah aw}{M k:ax}(h:k<ae free):(j6 cg free M)[k]? =ai (cg-free[k]):=by unfold j6;rw[dM (by simpa using h),cC,bY h];rfl
def aB8{cg:aw}{free:ah aw}{M:ax}(h:ae free<M):(j6 cg free M)[ae free]? =ai 0:=by unfold j6;rw[fR (by simp),bf,Qu,aDe,aQ (by omega)]
def ap9{cg:aw}{free:ah aw}{M k:ax}(h:k<ae free)(v:aw):(j6 cg free M).set k (cg-v)=j6 cg (free.set k v) M:=by unfold j6;rw[List.set_append_left _ _ (by simpa using h),Ow,aqj]
def ap8{cg:aw}{free:ah aw}{M:ax}(h:ae free<M)(v:aw):(j6 cg free M).set (ae free) (cg-v)=j6 cg (free++ [v]) M:=by unfold j6;rw[aCF _ _ (by simp),bf,Qu,bg,cT,show M-ae free=(M-(ae free+1))+1 by omega,List.replicate_succ];simp
def aFu(cg oI:aw)(x:be.ty)(M:ax)(free:ah aw)(k:ax)(h1:1<=cg/\cg<=100000)(h2:0<=oI/\oI<=100)(hx:1<=rl x/\rl x<=cg)(hr:∀y,y∈free->0<=y/\y<cg)(hk:k<=ae free)(hkM:k<M): ∃q p,(j6 cg free M)[k]? =ai q/\E4 q (rl x) oI=ai p/\0<=q/\q<=cg/\0<=p/\p<=200000/\ (match anL (cg+oI) (rl x+oI) free k with|none=>cg<q+p|some F=>q+p<=cg/\(j6 cg free M).set k (q+p)=j6 cg F M/\(∀y,y∈F->0<=y/\y<cg)):=by
 by_cases hkf:k<ae free
 .have hb:=hr free[k] (bH hkf);have iS:(cg-free[k]==0)=aA:=by simp;omega
  refine⟨cg-free[k],rl x+oI,aB9 hkf,by rw[JM,iS,aP (by decide),fp (by omega) (by omega)],by omega,by omega,by omega,by omega,?_⟩;unfold anL;rw[aQ hkf,bY hkf,jA];by_cases hw:rl x+oI<=free[k];·rw[aQ hw];refine⟨by omega,by rw[<-ap9 hkf,show cg-free[k]+(rl x+oI)=cg-(free[k]-(rl x+oI))by omega],λy hy=> ?_⟩;(rcases WE hy with hy|rfl);(·exact hr y hy);·omega
  .rw[aP hw];show cg<_;omega
 .have hke:k=ae free:=by omega
  subst hke;refine⟨0,rl x,aB8 hkM,by rw[JM,aQ (by decide)],by omega,by omega,by omega,by omega,?_⟩;unfold anL;rw[aP hkf,aQ rfl];refine⟨by omega,by rw[<-ap8 hkM,show cg-(cg+oI-(rl x+oI))=0+rl x by omega],λy hy=> ?_⟩;rcases bt.1 hy with hy|hy
  .exact hr y hy
  .rw[aT.1 hy];omega
def aA4(n:ax)(xs:ah be.ty)(cg oI cu:aw)(M aEJ a:ax)(hM:M<=8)(hm:aEJ<=8)(ha:a<ae xs):∀(c k:ax),k+c=aEJ+1->∀(avr:aw) (G U:ah aw),ae U=M->a<=ae G-> ∃G' U':ah aw,iJ n aEJ a k xs cg oI M a M avr cu aB G U=ai (aA,(xs,cg,oI,(M:aw),G',U',avr,cu,aB,()))/\a<=G'.length/\U'.length=M:=by intro c;induction c with|zero=>intro k hk avr G U hU hG;(have:¬(k:aw)<=(aEJ:aw):=by omega);rw[mr];simp only[this,aX,ar,aJ];refine⟨G.take a,U.take M,?_,by simp;omega,by simp;omega⟩;split<;>rfl|succ c ih=>intro k hk avr G U hU hG;(have h1:(k:aw)<=(aEJ:aw):=by omega);rw[mr];simp only[h1,aF,aK];by_cases hkM:k<M;(·(have h2:(k:aw)<(M:aw):=by omega);(obtain⟨p,hp⟩:∃p,E4 (U[k]'(by omega)) xs[a].2.1 oI=ai p:=by rw[JM];split<;>exact⟨_,rfl⟩);simp only[h2,aF,aK,Bk,aN,bw,aH,bY (show k<ae U by omega),bY ha,ag,hp,eD (show k<4611686018427387904 by omega),ru,ra];split;(·exact ih (k+1) (by omega) avr G U hU hG);·exact⟨G.take a,U.take M,rfl,by simp;omega,by simp;omega⟩);·(have h2:¬(k:aw)<(M:aw):=by omega);simp only[h2,aX,ar,aJ];exact⟨G.take a,U.take M,rfl,by simp;omega,by simp;omega⟩
def aCW(xs:ah be.ty)(cg oI:aw)(M:ax)(cu:aw)(free cU:ah aw)(left:aw)(ri:aW×aW×dH.ty)(rs:aW×dD.ty):Prop:=(∃(f P U:ah aw) (l nd:aw),P.length=ae xs/\(∀y,y∈P->0<=y/\y<=100)/\ri=(aB,aB,(xs,cg,oI,f,P,l,(M:aw),()))/\rs=(aB,(xs,cg,oI,(M:aw),P,U,nd,cu,aA,())))\/ (∃l:aw,0<=l/\l<=left/\ri=(aA,aB,(xs,cg,oI,free,cU,l,(M:aw),()))/\rs=(aA,(xs,cg,oI,(M:aw),cU,j6 cg free M,cu-l,cu,aA,())))\/ (∃(w:dH.ty) (G U:ah aw) (nd:aw),ae cU<=ae G/\ae U=M/\ri=(aA,aA,w)/\rs=(aA,(xs,cg,oI,(M:aw),G,U,nd,cu,aB,())))
def xF(xs:ah be.ty)(cg oI cu:aw)(M:ax)(hM:M<=8)(hxl:ae xs<=8)(h1:1<=cg/\cg<=100000)(h2:0<=oI/\oI<=100)(hx:∀x,x∈xs->1<=rl x/\rl x<=cg)(hbu:0<=cu/\cu<=20000):∀(d n:ax),d<n->∀(free cU:ah aw) (left:aw),ae cU+d=ae xs->
 (∀y,y∈free->0<=y/\y<cg)->ae free<=M->(∀y,y∈cU->0<=y/\y<=100)->0<=left->left<=cu->
 ∃ri rs,sa n (xs,cg,oI,free,cU,left,(M:aw),())=ai ri/\uZ n (xs,cg,oI,(M:aw),cU,j6 cg free M,cu-left,cu,aA,()) (ae free:aw)=ai rs/\aCW xs cg oI M cu free cU left ri rs
 |0,n+1,_,free,cU,left,hd,hr,hfm,Md,WW,Vk=>by
  have hgl:((ae cU:aw)==(ae xs:aw))=aB:=by simp;omega
  rw[Ef,Gg];simp only[hgl,aK,bc,bM,oP,Oc];exact⟨_,_,rfl,rfl,.inl ⟨free,cU,j6 cg free M,left,cu-left,by omega,Md,rfl,rfl⟩⟩
 |d+1,n+1,hdn,free,cU,left,hd,hr,hfm,Md,WW,Vk=>by
  have hgl:((ae cU:aw)==(ae xs:aw))=aA:=by simp;omega
  have hi:ae cU<ae xs:=by omega
  have hxi:=hx xs[ae cU] (bH hi);have hul:ae (j6 cg free M)=M:=arA hfm
  have loop:∀(c k:ax),k+c=ae free+1->∀(F G Gs:ah aw),F.take (ae free)=free->G.take (ae cU)=cU->Gs.take (ae cU)=cU->∀(left:aw),0<=left->left<=cu-> ∃ri rs,nY n (ae free:aw) (k:aw) xs cg oI (ae free) (ae cU) left (M:aw) F G=ai ri/\iJ n (ae free:aw) (ae cU:aw) (k:aw) xs cg oI (M:aw) (ae cU) M (cu-left) cu aA Gs (j6 cg free M)=ai rs/\aCW xs cg oI M cu free cU left ri rs:=by
   intro c
   induction c with
   |zero=>
    intro k hk F G Gs hF hG hGs left WW Vk;(have hn:¬(k:aw)<=(ae free:aw):=by omega);have hu:(j6 cg free M).take M=j6 cg free M:=cH (by omega);rw[Ar,mr];simp only[hn,aX,ar,aJ,hF,hG,hGs,hu,ra];exact⟨_,_,rfl,rfl,.inr (.inl ⟨left,WW,gX _,rfl,rfl⟩)⟩
   |succ c ih=>
    intro k hk F G Gs hF hG hGs left WW Vk;(have wi:(k:aw)<=(ae free:aw):=by omega);have hu:(j6 cg free M).take M=j6 cg free M:=cH (by omega);rw[Ar,mr];simp only[wi,aF,aK,aG];by_cases hkm:k<M
    ·(have axA:(k:aw)<(M:aw):=by omega);obtain⟨q,p,u1,u2,u3,u4,u5,u6,u7⟩:=aFu cg oI xs[ae cU] M free k h1 h2 hxi hr (by omega) hkm;have u2':E4 q xs[ae cU].2.1 oI=ai p:=u2;have hkU:(k:aw)<(M:aw):=axA;simp only[axA,aK,OD,Bk,hF,hG,aN,aF,bw,aH,u1,bY hi,ag,u2',fp (n:=q+p) (by omega) (by omega),eD (show k<4611686018427387904 by omega),aG];obtain⟨b,F1,hF1,hFl,hkF,Mc⟩:=aIi xs cg oI left M free cU k hxl (by omega) h1 h2 hi hxi (λy hy=>by have:=hr y hy;omega) (by omega);have hw:aj ak ((k:aw)+1)=((k+1:ax):aw):=eD (by omega);(have c1:(k:aw)<(ae F1:aw):=by omega);have c2:(ae free:aw)<=(ae F1:aw):=by omega
     have tail:∀(G' Gs':ah aw),G'.take (ae cU)=cU->Gs'.take (ae cU)=cU->∀(aaF:aw),0<=aaF->aaF<=left->
      ∃ri rs,nZ n (ae free:aw) (k:aw) b xs cg oI (ae cU) aaF (M:aw) F1 G'=ai ri/\iJ n (ae free:aw) (ae cU:aw) ((k+1:ax):aw) xs cg oI (M:aw) (ae cU) M (cu-aaF) cu aA Gs' (j6 cg free M)=ai rs/\aCW xs cg oI M cu free cU left ri rs:=λG' Gs' hG' aQ5 aaF q0 q1=>by
      rw[OF]
      simp only[aN,c1,c2,aF,bw,aK,aH,bY hkF,ag,hw]
      obtain⟨ri,rs,e1,e2,hp⟩:=ih (k+1) (by omega) (F1.set k b) G' Gs' hF1 hG' aQ5 aaF q0 (by omega)
      refine⟨ri,rs,e1,e2,?_⟩
      rcases hp with hp|⟨l,z1,z2,z3⟩|hp
      .exact .inl hp
      .exact .inr (.inl ⟨l,z1,by omega,z3⟩)
      .exact .inr (.inr hp)
     (rcases Mc with ⟨RZ,hkf,rfl,e⟩|⟨FR,e⟩);·rw[RZ]at u7;have u7:q+p>cg:=u7;simp only[e,ag,ar,aJ,u7,aK];exact tail cU Gs (by simp) hGs left WW (gX _)
     .rw[FR]at u7;obtain⟨u7,u8,u9⟩:=u7;(have u7':¬q+p>cg:=by omega);simp only[e,ag,aK,u7',aJ];by_cases hz:left=0;·subst hz;(have:(cu-0==cu)=aB:=by simp);simp only[this,eB,aK,ru,hGs,hu];exact⟨_,_,rfl,rfl,.inr (.inr ⟨_,cU,j6 cg free M,_,bx _,hul,rfl,rfl⟩)⟩
      ·(have hz':(left==0)=aA:=by simpa using hz);(have hz2:(cu-left==cu)=aA:=by simp;omega);have aX7:=(aFb FR);(have aKr:ae F1<=M/\(if((k:aw)==(ae free:aw))=aB then(ae free:aw)+1 else(ae free:aw))=(ae F1:aw):=by have hs:=FR;unfold anL at hs;by_cases hkl:k<ae free;(·rw[aQ hkl]at hs;split at hs;(·cases hs;refine⟨by simp;omega,?_⟩;rw[aP (by simp;omega)];simp);·cases hs);·rw[aP hkl]at hs;split at hs;(·rename_i hke;cases hs;refine⟨by simp;omega,?_⟩;rw[aQ (by simp[hke])];simp);·cases hs);obtain⟨⟨s1,ok1,w⟩,rs,e3,e4,hp3⟩:=xF xs cg oI cu M hM hxl h1 h2 hx hbu d n (by omega) F1 (cU++ [(k:aw)]) (left-1) (by simp;omega) u9 aKr.1 (λy hy=>by(rcases bt.1 hy with hy|hy);(·exact Md y hy);·rw[aT.1 hy];omega) (by omega) (by omega);(have aSf:ae cU+1<lim:=by rw[ez];omega);(have enx:cu-left+1=cu-(left-1):=by omega);(have hsl:ae ((j6 cg free M).set k (q+p))=M:=by simp[hul]);(have Zv:((j6 cg free M).set k (q+p))[k]? =ai (q+p):=by rw[aGn (by omega)]);(have Mb:((j6 cg free M).set k (q+p)).set k q=j6 cg free M:=by rw[List.set_set];(have:(j6 cg free M)[k]'(by omega)=q:=by have:=bY (show k<ae (j6 cg free M)by omega);rw[u1]at this;exact(cA this).symm);(conv=>lhs;rw[<-this]);exact abd _);simp only[hz',hz2,ar,aJ,bc,bM,oP,fp (n:=left-1) (by omega) (by omega),e3,ag,ru,aN,axA,aF,bw,aK,aH,u1,aSf,fp (n:=q+p) (by omega) (by omega),fp (n:=cu-left+1) (by omega) (by omega),fp (n:=(ae free:aw)+1) (by omega) (by omega),hGs];(have ht:((j6 cg free M).set k (q+p)).take M=j6 cg F1 M:=by rw[cH (by omega),u8]);(have s3:∀nx:aw,nx=(ae F1:aw)->iK n (ae free:aw) (ae cU:aw) (k:aw) p nx xs cg oI (M:aw) M (cu-left+1) cu aA (cU++ [(k:aw)]) ((j6 cg free M).set k (q+p))=(ai rs).bind _:=λnx hnx=>by rw[Bl,hnx,bM,ht,enx,e4]);have hif:∀(A B:aq (aW×dD.ty)),(∀nx:aw,nx=(ae F1:aw)->True)->True:=λ_ _ _=>trivial;have hgo:(if((k:aw)==(ae free:aw))=aB then iK n (ae free:aw) (ae cU:aw) (k:aw) p ((ae free:aw)+1) xs cg oI (M:aw) M (cu-left+1) cu aA (cU++ [(k:aw)]) ((j6 cg free M).set k (q+p))else iK n (ae free:aw) (ae cU:aw) (k:aw) p (ae free:aw) xs cg oI (M:aw) M (cu-left+1) cu aA (cU++ [(k:aw)]) ((j6 cg free M).set k (q+p)))=iK n (ae free:aw) (ae cU:aw) (k:aw) p (ae F1:aw) xs cg oI (M:aw) M (cu-left+1) cu aA (cU++ [(k:aw)]) ((j6 cg free M).set k (q+p)):=by rw[<-aKr.2];split<;>rfl
       rw[hgo,Bl,bM,ht,enx,e4];(have hll:(ae (cU++ [(k:aw)]):aw)=(ae cU:aw)+1:=by simp);(have d1:(0:aw)<=(ae cU:aw):=by omega);(have d2:(ae cU:aw)<=(ae cU:aw)+1:=by omega);have aXL:k<M:=hkm;(rcases hp3 with ⟨f,P,U,l,nd,q3,q4,q5,rfl⟩|⟨l,q3,q4,q5,rfl⟩|⟨w',G',U,nd,q3,q4,q5,rfl⟩);(·cases q5;simp only[ag,aK,oP,Oc];exact⟨_,_,rfl,rfl,.inl ⟨f,P,U,l,nd,q3,q4,rfl,rfl⟩⟩);(·cases q5;(have hg2:(j6 cg F1 M)[k]? =ai (q+p):=by rw[<-u8];exact Zv);have hl2:ae (j6 cg F1 M)=M:=arA aKr.1;simp only[ag,ar,aJ,aV,OE,hll,hl2,hg2,fp (n:=(ae cU:aw)+1-1) (by omega) (by omega),fp (n:=(ae cU:aw)) (by omega) (by omega),show(ae cU:aw)+1-1=(ae cU:aw)by omega,d1,d2,aF,bw,aK,aH,aN,axA,hw,show q+p-p=q by omega,fp (n:=q) (by omega) (by omega)];rw[<-u8,Mb];exact tail (cU++ [(k:aw)]) (cU++ [(k:aw)]) (by simp) (by simp) l q3 (by omega));·cases q5;rw[bg,cT]at q3;(have d3:(ae cU:aw)<=(G'.length:aw):=by omega);(have d4:k<ae U:=by omega);simp only[ag,ar,aJ,bZ,aK,q4,d1,d3,aN,aF,bw,axA,aH,bY d4,hw];obtain⟨G2,U2,f1,f2,f3⟩:=aA4 n xs cg oI cu M (ae free) (ae cU) hM (by omega) hi c (k+1) (by omega) nd G' (U.set k (aj ak (U[k]-p))) (by simp[q4]) (by omega);exact⟨_,_,rfl,f1,.inr (.inr ⟨_,G2,U2,nd,f2,f3,rfl,rfl⟩)⟩
    ·(have axA:¬(k:aw)<(M:aw):=by omega);simp only[axA,aJ,hF,hG,hGs,hu];exact⟨_,_,rfl,rfl,.inr (.inl ⟨left,WW,gX _,rfl,rfl⟩)⟩
  rw[Ef,Gg];simp only[hgl,ar,aJ,hul];exact loop (ae free+1) 0 (by omega) free cU cU (by simp) (by simp) (by simp) left WW Vk
def aGY(xs:ah be.ty)(hx:ar0 xs)(cg oI:aw):Yl xs cg oI=ai (if rq xs=aB then(if Zg cg oI=aB then 0 else 2)else 1):=by
 rw[aoa,aaV xs (by have:=hx.1;omega) λx hm=>by have:=hx.2 x hm;unfold ay6 at this;omega];simp only[ag,cY,Zg];by_cases h1:rq xs=aB
 .by_cases h2:fS cg 1 100000=aB;·by_cases h3:fS oI 0 100=aB<;>simp[h1,h2,h3]
  .simp[h1,h2]
 .simp[h1]
def aBT(xs:ah be.ty)(hl:ae xs<=8)(cg:aw):Q7 xs cg=ai (if Lt cg xs=aB then 6 else 0):=by
 have loop:∀(k i:ax),i+k=ae xs->zT xs cg i=ai (if Lt cg (xs.drop i)=aB then 6 else 0):=by intro k;induction k with|zero=>intro i hi;(have:¬(i:aw)<(ae xs:aw):=by omega);rw[Kt,fY (by omega)];simp only[this,aX,ar,aJ];rfl|succ k ih=>intro i hi;(have tT:i<ae xs:=by omega);(have dE:(i:aw)<(ae xs:aw):=by omega);have e0:(xs[i].2.1:aw)=rl xs[i]:=rfl;rw[Kt,drop_cons tT];simp only[dE,aF,aK,aN,aH,bY tT,ag,e0,eD (show i<4611686018427387904 by omega),ih (i+1) (by omega),Lt,oy,aG];by_cases hc:rl xs[i]>cg;(·simp only[hc,aK,aF,Ct]);·simp only[hc,aJ,aX,Av];rfl
 rw[ahE];exact loop (ae xs) 0 (by omega)
def aDI(xs:ah be.ty)(cg oI b:aw)(hx:ar0 xs):∃p m e,TM xs cg oI b=ai (p,m,e)/\K8 xs cg oI b=ai (p,m,e)/\ae p<=8/\(∀y,y∈p->0<=y/\y<=100)/\0<=e/\e<=11:=by
 have no:∀y,y∈([]:ah aw)->0<=y/\y<=100:=λy h=>by cases h
 rw[aje,YN xs hx,akC,aGY xs hx];simp only[ag,axP,bW,cY];cases e1:rq xs;·exact⟨[],0,1,rfl,by simp[uS,pj],by simp,no,by omega,by omega⟩
 cases e2:Zg cg oI;·exact⟨[],0,2,rfl,by simp[uS,pj],by simp,no,by omega,by omega⟩
 cases e3:fS b 1 20000;·exact⟨[],0,2,rfl,by simp[uS,pj],by simp,no,by omega,by omega⟩
 obtain⟨hl,hr⟩:=as7 e1;have hb:=ck.1 e3;have e2':=e2;simp only[Zg,az]at e2';have hst:=ck.1 e2'.1;have hsa:=ck.1 e2'.2;simp only[aV,ar,aJ,abm,ayG xs hl,ag,aK,eB,uS,aBT xs hl];cases e4:Lt cg xs;rotate_left;·exact⟨[],0,6,rfl,by simp[pj],by simp,no,by omega,by omega⟩
 have LD:∀x,x∈xs->1<=rl x/\rl x<=cg:=λx hm=>⟨(hr x hm).1,ayF e4 x hm⟩;simp only[ar,aJ,pj,Qw];have loop:∀(k m:ax),m+k=9->∀(left:aw) (A B C D:ah aw),0<=left->left<=b-> ∃p q e,BD (xs,cg,oI,A,B,left,m,())=ai (p,q,e)/\BW (xs,cg,oI,(m:aw),C,D,b-left,b,aA,())=ai (p,q,e)/\ae p<=8/\(∀y,y∈p->0<=y/\y<=100)/\0<=e/\e<=11:=by intro k;induction k with|zero=>intro m hm left A B C D h0 h1;(have:¬(m:aw)<=8:=by omega);rw[Mf,CR];simp only[this,aX,ar,aJ];exact⟨[],0,5,rfl,rfl,by simp,no,by omega,by omega⟩|succ k ih=>intro m hm left A B C D h0 h1;(have wi:(m:aw)<=8:=by omega);(have hml:m<lim:=by rw[ez];omega);obtain⟨ri,rs,e,e',hp⟩:=xF xs cg oI b m (by omega) hl hst hsa LD (by omega) (ae xs) 1000 (by omega) [] [] left (by simp) (λy h=>by cases h) (by simp) no h0 h1;(have hu:j6 cg [] m=bK m 0:=by simp[j6]);rw[hu,bQ,show((0:ax):aw)=0 from rfl]at e';rw[Mf,CR];simp only[wi,aF,aK,e,ag,bZ,ab6,aN,gX,hml,bw,aH,bc,e'];(rcases hp with ⟨f,P,U,l,nd,q3,q4,rfl,rfl⟩|⟨l,q3,q4,rfl,rfl⟩|⟨w,G,U,nd,q3,q4,rfl,rfl⟩);(·simp only[aV,ar,aJ,aK,bM];exact⟨P,m,0,rfl,rfl,by omega,q4,by omega,by omega⟩);(·simp only[aV,ar,aJ];have hw:aj ak ((m:aw)+1)=((m+1:ax):aw):=eD (by omega);rw[hw];exact ih (m+1) (by omega) l _ _ _ _ q3 (by omega));·simp only[bZ,aK,ar,aJ];refine⟨[],0,5,rfl,?_,by simp,no,by omega,by omega⟩;rw[CR];simp only[aV,ar,aJ,ra]
 have:=loop 9 0 (by omega) b [] [] [] [] (by omega) (by omega);rw[show b-b=0 by omega]at this;exact this
end Cu
namespace Pa
def auo(a b:aR.ty):clB a b=clB b a:=by unfold clB;rw[show(pK a==pK b)=(pK b==pK a)from awB.2 (by rw[cS,cS];exact eq_comm),Bool.or_comm (ao (pL a<pE b))]
def aqs(a b:aR.ty):H9 a b=ai (clB a b):=by
 rw[ahN];show(if(!(pK a==pK b))=aB then _ else if ao (pL a<pE b)=aB then _ else ai (ao (pL b<pE a)))=_;unfold clB;cases pK a==pK b;·rfl
 .by_cases h:pL a<pE b<;>simp[h]
def alR{xs:ah aR.ty}{S:ah ax}(hS:∀t,t∈S->t<ae xs)(hl:ae S<=1000){a:ax}(ha:a<ae S):∀(k d:ax),d+k=a->
 xm xs (ix S) a d=if((S.take a).drop d).any (λt=>clB (IP xs S[a]) (IP xs t))=aB then ai aA else nj xs (ix S) ((a+1:ax):aw)
 |0,d,hk=>by
  have:d=a:=by omega
  subst this;rw[I9,aP (by simp),eD (by omega),fY (by rw[cO];omega)];rfl
 |k+1,d,hk=>by
  have hd:d<ae S:=by omega
  have dE:(d:aw)<(a:aw):=by omega
  have h1:=hS _ (bH ha);have h2:=hS _ (bH hd);have e:(S.take a).drop d=S[d]::(S.take a).drop (d+1):=by rw[ba (by simp;omega),aIY]
  rw[I9];simp only[dE,aF,aK,aN,aH,abH ha,abH hd,ag,PY h1,PY h2,aqs,eD (show d<4611686018427387904 by omega),alR hS hl ha k (d+1) (by omega)];rw[e,oy];cases clB (IP xs S[a]) (IP xs S[d]);·simp only[Av,ar,aJ]
  .simp only[Ct,aK]
def aDt{xs:ah aR.ty}{T:ah ax}(hT:Calm xs T){i:ax}(hi:i<ae xs)(hl:ae T<1000):NV xs (ix (T++ [i]))=ai (!(foe xs (IP xs i) T)):=by
 have hS:∀t,t∈T++ [i]->t<ae xs:=λt ht=>by(rcases bt.1 ht with ht|ht);(·exact hT.lt t ht);·rw[aT.1 ht];exact hi
 have hSl:ae (T++ [i])=ae T+1:=by simp
 have loop:∀(k a:ax),a+k=ae T->nj xs (ix (T++ [i])) a=ai (!(foe xs (IP xs i) T)):=by intro k;induction k with|zero=>intro a hk;(have ha:a=ae T:=by omega);subst ha;rw[yN,aQ (by simp[re];omega)];have h1:=alR hS (by omega) (show ae T<ae (T++ [i])by omega) (ae T) 0 (by omega);rw[show((0:ax):aw)=0 from rfl]at h1;rw[h1];(have e1:(T++ [i])[ae T]=i:=by simp);(have e2:((T++ [i]).take (ae T)).drop 0=T:=by simp);(have e3:T.any (λt=>clB (IP xs i) (IP xs t))=foe xs (IP xs i) T:=by unfold foe;congr 1;funext t;exact auo _ _);(have e4:nj xs (ix (T++ [i])) ((ae T+1:ax):aw)=ai aB:=by rw[yN,aP (by simp[re])]);rw[e1,e2,e3,e4];cases foe xs (IP xs i) T<;>rfl|succ k ih=>intro a hk;(have ha:a<ae T:=by omega);rw[yN,aQ (by simp[re];omega)];have h1:=alR hS (by omega) (show a<ae (T++ [i])by omega) a 0 (by omega);rw[show((0:ax):aw)=0 from rfl]at h1;rw[h1,aP,ih (a+1) (by omega)];rw[aJJ,LP];intro t ht;have e1:(T++ [i])[a]=T[a]:=Ty ha;(have e2:((T++ [i]).take a).drop 0=T.take a:=by rw[cL,nE (by omega)]);rw[e2]at ht;rw[e1,auo,aJJ];obtain⟨j,hj,rfl⟩:=List.mem_iff_getElem.1 ht;rw[cO]at hj;rw[aIY];exact(List.pairwise_iff_getElem.1 hT.up j a (by omega) ha (by omega)).2
 rw[afq];exact loop (ae T) 0 (by omega)
def Prec(B T:ah ax)(i:ax):Prop:=∃c p r s,B=c++p::r/\T=c++s/\(∀y,y∈s->p<y)/\p<i
def Prec.step{B T:ah ax}{i:ax}:Prec B T i->Prec B T (i+1)
 |⟨c,p,r,s,h1,h2,h3,h4⟩=>⟨c,p,r,s,h1,h2,h3,by omega⟩
def Prec.snoc{B T:ah ax}{i:ax}:Prec B T i->Prec B (T++ [i]) (i+1)
 |⟨c,p,r,s,h1,h2,h3,h4⟩=>⟨c,p,r,s++ [i],h1,by rw[h2,df],λy hy=>by
    rcases bt.1 hy with hy|hy
    .exact h3 y hy
    .rw[aT.1 hy];exact h4,by omega⟩
def aFE(xs:ah aR.ty)(S:ah ax):∀T:ah ax,tr xs (T++S)=tr xs T+tr xs S
 | []=>by rw[cJ,atj];omega
 |a::T=>by rw[Am,Qn,Qn,aFE xs S T];omega
def aHH{xs:ah aR.ty}(h:nV xs){B T:ah ax}{i:ax}(hB:Calm xs B)(hT:Calm xs T)(hp:Prec B T i)(he:tr xs T=tr xs B):UO (ix T) (ix B)=ai aA:=by obtain⟨c,p,r,s,rfl,rfl,h3,h4⟩:=hp;have hBl:=hB.len;have hf:=h.few;have gp:=h.axt (aeQ (hB.lt p (by simp)));have g0:=gp.t0;have hr:=aAa h (T:=r) λt ht=>hB.lt t (by simp[ht]);cases s with|nil=>rw[cD,aFE,Qn]at he;omega|cons q s=>have hqp:=h3 q (by simp);rw[bg,bl]at hBl;(have loop:∀(k j:ax),j+k=ae c->Cm (ix (c++q::s)) (ix (c++p::r)) j=ai aA:=by intro k;induction k with|zero=>intro j hj;(have:j=ae c:=by omega);subst this;(have e1:(ix (c++q::s))[ae c]? =ai (q:aw):=by rw[abH (by simp)];simp);(have e2:(ix (c++p::r))[ae c]? =ai (p:aw):=by rw[abH (by simp)];simp);(have iS:((q:aw) !=(p:aw))=aB:=by simp;omega);(have dE:¬(q:aw)<(p:aw):=by omega);rw[NW,aQ (by simp[re];omega),aQ (by simp[re];omega),NX];simp only[aN,aF,aK,aH,e1,e2,ag,iS,dE,aX]|succ k ih=>intro j hj;(have hjc:j<ae c:=by omega);(have e1:(ix (c++q::s))[j]? =ai ((c[j]:ax):aw):=by rw[abH (by simp;omega),Ty hjc]);(have e2:(ix (c++p::r))[j]? =ai ((c[j]:ax):aw):=by rw[abH (by simp;omega),Ty hjc]);rw[NW,aQ (by simp[re];omega),aQ (by simp[re];omega),NX];simp only[aN,aF,aK,aH,e1,e2,ag,Qw,ar,aJ,eD (show j<4611686018427387904 by omega)];exact ih (j+1) (by omega));rw[ak8];exact loop (ae c) 0 (by omega)
def mO(m1:aW)(t:aw):aw:=if m1 then t else-1
def aIH(xs:ah aR.ty)(cu:aw)(T B:ah ax)(m1:aW)(left:aw)(ri:aq (aW×ep.ty))(rs:aq dd.ty):Prop:=(∃(l:aw) (B':ah ax),0<=l/\l<=left/\Calm xs B'/\(m1=aB/\B'=B\/∃e,B'=T++e)/\ri=ai (aB,(xs,l,ix T,tr xs T,ix B',tr xs B',()))/\rs=ai (xs,ix T,ix B',tr xs B',cu-l,cu,aA,()))\/ (∃(l2:aw) (T2:ah aw) (s2:aw) (B2:ah aw) (m2:aw) (G B3:ah aw) (M nd:aw),ae T<=ae T2/\ae T<=ae G/\ae G<=1000/\ri=ai (aA,(xs,l2,T2,s2,B2,m2,()))/\rs=ai (xs,G,B3,M,nd,cu,aB,()))
def am8(xs:ah aR.ty)(G B:ah aw)(M nd cu:aw):kX (xs,G,B,M,nd,cu,aB,())=ai (aA,(xs,G,B,M,nd,cu,aB,())):=by rw[vg];simp only[pU,aK,ra,gW]
def avq(xs:ah aR.ty)(G B:ah aw)(M left cu:aw)(h:0<left/\left<=cu/\cu<=20000):kX (xs,G,B,M,cu-left,cu,aA,())=ai (aB,(xs,G,B,M,cu-(left-1),cu,aA,())):=by
 have:(cu-left==cu)=aA:=by simp;omega
 rw[vg];simp only[this,ar,aJ,pU,bM,fp (n:=cu-(left-1)) (by omega) (by omega),show cu-left+1=cu-(left-1)by omega]
def aq0(xs:ah aR.ty)(G B:ah aw)(M cu:aw):kX (xs,G,B,M,cu-0,cu,aA,())=ai (aA,(xs,G,B,M,cu-0,cu,aB,())):=by
 have:(cu-0==cu)=aB:=by simp
 rw[vg];simp only[this,aK,pU,gW]
def xF{xs:ah aR.ty}(h:nV xs)(cu:aw)(hbu:0<=cu/\cu<=20000):∀(d n:ax),d<n->∀(i:ax) (T B:ah ax) (m1:aW) (left:aw),i+d=ae xs->Calm xs T->(∀t,t∈T->t<i)->Calm xs B->(m1=aB->Prec B T i)->(m1=aA->B=[])->0<=left->left<=cu-> aIH xs cu T B m1 left (jb n (xs,left,ix T,tr xs T,ix B,tr xs B,()) (i:aw)) (j8 n (xs,ix T,ix B,mO m1 (tr xs B),cu-left,cu,aA,()) (i:aw) (tr xs T)):=by
 intro d
 induction d with
 |zero=>
  intro n hn i T B m1 left hi hT hTi hB hm hm0 h0 h1;obtain⟨n,rfl⟩:∃m,n=m+1:=⟨n-1,by omega⟩;have tT:i=ae xs:=by omega
  have hTl:=hT.len;have aRA:=h.few;have eJ:ae (ix T)<=1000:=by rw[re];omega
  have hTb:=hT.bd h;have Ao:=aAN (show ae (ix T)<=1048576 by omega);have ly:=Pl.Nj (ix T) eJ;have hii:((i:aw)==(ae xs:aw))=aB:=by simp[tT]
  rw[Df,Gk];simp only[hii,aK];cases m1 with|false=>have hB0:=hm0 rfl;subst hB0;(have e1:tr xs T>mO aA (tr xs []):=by unfold mO;simp;omega);simp only[By,bM,ly,ag,fj,gW,Ao];by_cases c:tr xs T>0;(·rw[aQ (by simpa[atj]using c),aQ (by simpa using e1)];exact .inl ⟨left,T,h0,gX _,hT,.inr ⟨[],by simp⟩,rfl,rfl⟩);·(have hT0:T=[]:=by cases T with|nil=>rfl|cons t T=>exfalso;have g:=h.axt (aeQ (hT.lt t (by simp)));have g0:=g.t0;have:=aAa h (T:=T) λt ht=>hT.lt t (by simp[ht]);rw[Qn]at c;omega);subst hT0;rw[aP (by simp),aQ (by simpa using e1)];exact .inl ⟨left,[],h0,gX _,hT,.inr ⟨[],rfl⟩,rfl,rfl⟩|true=>have e0:mO aB (tr xs B)=tr xs B:=rfl;simp only[e0,By,bM,ly,ag,fj,gW,Ao];by_cases c:tr xs T>tr xs B;(·rw[aQ (by simpa using c),aQ (by simpa using c)];exact .inl ⟨left,T,h0,gX _,hT,.inr ⟨[],by simp⟩,rfl,rfl⟩);·rw[aP (by simpa using c),aP (by simpa using c)];by_cases c2:tr xs T=tr xs B;(·rw[aQ (by simpa using c2),aHH h hB hT (hm rfl) c2];exact .inl ⟨left,B,h0,gX _,hB,.inl ⟨rfl,rfl⟩,rfl,rfl⟩);·rw[aP (by simpa using c2)];exact .inl ⟨left,B,h0,gX _,hB,.inl ⟨rfl,rfl⟩,rfl,rfl⟩
 |succ d IHd=>
  intro n hn i T B m1 left hi hT hTi hB hm hm0 h0 h1;obtain⟨n,rfl⟩:∃m,n=m+1:=⟨n-1,by omega⟩;have hix:i<ae xs:=by omega
  have aRA:=h.few;have hTl:=hT.len;have hTb:=hT.bd h;have hg:=h.axt (aeQ hix);have g0:=hg.t0;have g1:=hg.t1;have iS:¬((i:aw)==(ae xs:aw))=aB:=by simp;omega
  have hw:=aIF h hg hT.lt (by omega);have aNC:ix T++ [(i:aw)]=ix (T++ [i]):=by rw[aEC];rfl
  have fm:ae T+1<lim:=by unfold lim;omega
  have hwi:=eD (show i<4611686018427387904 by omega);have hll:ae (ix (T++ [i]))=ae T+1:=by rw[re];simp
  have aKV:(ix (T++ [i])).take (ae T)=ix T:=by rw[aEC,aMB (re T)]
  have rest:∀(B1:ah ax) (m2:aW) (ad8:aw) (R:ah aw),Calm xs B1->(m2=aB->Prec B1 T (i+1))->(m2=aA->B1=[])->0<=ad8->ad8<=cu->R.take (ae T)=ix T->
   aIH xs cu T B1 m2 ad8 (ni n i xs ad8 (ae T) (tr xs T) (tr xs B1) R (ix B1)) (lI n (i:aw) (tr xs T) (xs,ix (T++ [i]),ix B1,mO m2 (tr xs B1),cu-ad8,cu,aA,())):=λB1 m2 ad8 R b1 b2 b3 b4 b5 b6=>by
   have k1:aj ak (((ae T+1:ax):aw)-1)=(ae T:aw):=by rw[fp (by omega) (by omega)];omega
   have k2:(ae T:aw)<=((ae T+1:ax):aw):=by omega
   rw[MQ,b6,bM,azN xs b4 (by omega),ag,rD]
   simp only[hll,k1,k2,aN,aF,bw,aK,aH,aKV,bM]
   by_cases c:ad8=0
   .subst c
    rw[aq0]
    simp only[show¬((0:aw)-1>=0)by omega,aX,ar,aJ,ag,fj,gW]
    exact .inr ⟨_,_,_,_,_,_,_,_,_,by rw[re];exact bx _,by rw[re];exact bx _,by rw[re];omega,rfl,rfl⟩
   .rw[avq _ _ _ _ _ _ (by omega)]
    simp only[show ad8-1>=0 by omega,aF,aK,ag,fj,gW,hwi]
    rcases IHd n (by omega) (i+1) T B1 m2 (ad8-1) (by omega) hT (λt ht=>by have:=hTi t ht;omega) b1 b2 b3 (by omega) (by omega)with ⟨l,B',q1,q2,q3,q4,e1,e2⟩|⟨l2,T2,s2,B2,m3,G,B3,M,nd,q1,q2,q9,e1,e2⟩
    .rw[e1,e2]
     exact .inl ⟨l,B',q1,by omega,q3,q4,rfl,rfl⟩
    .rw[e1,e2]
     exact .inr ⟨l2,T2,s2,B2,m3,G,B3,M,nd,q1,q2,q9,rfl,rfl⟩
  rw[Df,aP iS,Gk,aP iS];simp only[aN,aF,aK,aH,PY hix,ag,bc,bM,fj,hw,fm,aNC,aDt hT hix (show ae T<1000 by omega),re T];cases c:foe xs (IP xs i) T with|true=>simp only[aV,ar,aJ];(rcases rest B m1 left (ix T) hB (λq=>(hm q).step) hm0 h0 h1 (by rw[<-re,bc])with ⟨l,B',q1,q2,q3,q4,e1,e2⟩|q);(·exact .inl ⟨l,B',q1,q2,q3,q4,e1,e2⟩);·exact .inr q|false=>simp only[bZ,aK,azN xs h0 (show left<=100000 by omega),ag];by_cases c1:left=0;(·subst c1;(have k1:aj ak (((ae T+1:ax):aw)-1)=(ae T:aw):=by rw[fp (by omega) (by omega)];omega);(have k2:(ae T:aw)<=((ae T+1:ax):aw):=by omega);rw[aq0];simp only[show¬((0:aw)-1>=0)by omega,aX,bZ,aK,ag,ar,aJ,rD,hll,k1,k2,aN,aF,bw,aH,aKV,bM,fj,gW];rw[am8];exact .inr ⟨_,_,_,_,_,_,_,_,_,by rw[re];exact bx _,by rw[re];exact bx _,by rw[re];omega,rfl,rfl⟩);·have hTn:=hT.snoc hix hTi (aKo.1 c);(have hs:aj ak (tr xs T+(IP xs i).2.2.2.2.1)=tr xs (T++ [i]):=by rw[atk];exact fp (n:=tr xs T+pT (IP xs i)) (by omega) (by omega));(have ass:aj ak (tr xs (T++ [i])-(IP xs i).2.2.2.2.1)=tr xs T:=by rw[atk];(have:tr xs T+pT (IP xs i)-pT (IP xs i)=tr xs T:=by omega);have e2:tr xs T+pT (IP xs i)-(IP xs i).2.2.2.2.1=tr xs T:=this;rw[e2];exact fp (by omega) (by omega));rw[avq _ _ _ _ _ _ (by omega)];simp only[show left-1>=0 by omega,aF,aV,ar,aJ,aK,ag,gW,PY hix,hs,hwi,re T,fm,aNC,aN,aH];(rcases IHd n (by omega) (i+1) (T++ [i]) B m1 (left-1) (by omega) hTn (λt ht=>by(rcases bt.1 ht with ht|ht);(·have:=hTi t ht;omega);·rw[aT.1 ht];omega) hB (λq=>(hm q).snoc) hm0 (by omega) (by omega)with ⟨l,B',q1,q2,q3,q4,e1,e2⟩|⟨l2,T2,s2,B2,m3,G,B3,M,nd,q1,q2,q9,e1,e2⟩);(·(have k3:(ae T:aw)<=((ae T+1:ax):aw):=by omega);simp only[e1,e2,ag,hll,k3,aF,bw,aK,ass,aV,ar,aJ];(have hm2:Prec B' T (i+1):=by(rcases q4 with ⟨z1,rfl⟩|⟨e,rfl⟩);(·exact(hm z1).step);·exact⟨T,i,e,[],by simp,by simp,λy hy=>(by cases hy),by omega⟩);(rcases rest B' aB l (ix (T++ [i])) q3 (λ_=>hm2) (λq=>by cases q) q1 (by omega) aKV with ⟨l',B'',r1,r2,r3,r4,f1,f2⟩|q);(·refine .inl ⟨l',B'',r1,by omega,r3,?_,f1,f2⟩;(rcases r4 with ⟨-,rfl⟩|r4);(·(rcases q4 with q4|⟨e,rfl⟩);(·exact .inl q4);·exact .inr ⟨i::e,by simp⟩);·exact .inr r4);·exact .inr q);·(have hq1:ae T+1<=ae T2:=by simpa using q1);(have hq2:ae T+1<=ae G:=by simpa using q2);(have k3:(ae T:aw)<=(ae T2:aw):=by omega);(have k4:aj ak ((ae G:aw)-1)=((ae G-1:ax):aw):=by rw[fp (by omega) (by omega)];omega);(have k5:((ae G-1:ax):aw)<=(ae G:aw):=by omega);simp only[e1,e2,ag,k3,aF,bw,aK,bZ,rD,k4,k5,aN,aH,bM,ar,aJ,gW];rw[am8];refine .inr ⟨_,_,_,_,_,_,_,_,_,?_,?_,?_,rfl,rfl⟩<;>rw[cO]<;>omega
def ayI{xs:ah aR.ty}(hl:ae xs<=20)(hs:afV xs)(b:aw):∃(l:ah aw) (t e:aw),(ae l<=20/\∀y,y∈l->0<=y/\y<=100)/\GG xs b=ai (l,t,e)/\zN xs b=ai (l,t,e):=by
 have no:ae ([]:ah aw)<=20/\∀y:aw,y∈([]:ah aw)->0<=y/\y<=100:=⟨by simp,λ_ h=>by cases h⟩;rw[ZA,(LI hl hs).1,Z7,(LI hl hs).2];simp only[ag,bW,cY];by_cases hv:lF xs=aB
 .have h:=CO.1 hv;by_cases hb:fS b 1 20000=aB;·have hb':=ck.1 hb;have hf:=h.few;simp only[hv,hb,aV,ar,aJ];(rcases xF h b (by omega) (ae xs) 1000 (by omega) 0 [] [] aA b (by omega) (aul xs) (λt ht=>by cases ht) (aul xs) (λq=>by cases q) (λ_=>rfl) (by omega) (by omega)with ⟨l,B',q1,q2,q3,q4,e1,e2⟩|⟨l2,T2,s2,B2,m3,G,B3,M,nd,q1,q2,q9,e1,e2⟩);(·have e1':jb 1000 (xs,b,[],0,[],0,()) 0=_:=e1;have e2':j8 1000 (xs,[],[],-1,b-b,b,aA,()) 0 0=_:=e2;rw[show b-b=0 by omega]at e2';simp only[e1',e2',ag,aV,ar,aJ,bM];refine⟨_,_,_,⟨by rw[re];have:=q3.len;omega,λy hy=> ?_⟩,rfl,rfl⟩;obtain⟨t,ht,rfl⟩:=dF.1 hy;have:=q3.lt t ht;omega);·have e1':jb 1000 (xs,b,[],0,[],0,()) 0=_:=e1;have e2':j8 1000 (xs,[],[],-1,b-b,b,aA,()) 0 0=_:=e2;rw[show b-b=0 by omega]at e2';simp only[e1',e2',ag,bZ,aK];exact⟨_,_,_,no,rfl,rfl⟩
  .simp only[hv,hb,aV,ar,aJ,bZ,aK];exact⟨_,_,_,no,rfl,rfl⟩
 .simp only[hv,bZ,aK];exact⟨_,_,_,no,rfl,rfl⟩
end Pa
namespace Pa
def add_same{xs:ah aR.ty}{x:aR.ty}(hl:ae xs<=20)(hs:afV xs)(hx:ay7 x):Q4 xs x=HC xs x:=by
 have h1:ae x.1<4611686018427387904:=by have:=hx.1;unfold pI at this;omega
 have h2:ae x.2.1<4611686018427387904:=by have:=hx.2;unfold pK at this;omega
 have p2:∀i:ax,i<=ae xs->(ae xs:aw)≠12->tg xs i x=oA xs i x:=λi hi h12=>by(have wi:(i:aw)<=(ae xs:aw):=by omega);(have fm:ae xs+1<1099511627776:=by omega);(have n12:((ae xs:aw)==12)=aA:=by simpa using h12);(have e2:fN xs i [x]=ai (xs.take i++ [x]++xs.drop i,()):=by rw[ll];simp only[cT,aN,wi,fm,aF,bw,aK,aH]);(have l1:0+ae (xs.take i)<lim:=by rw[ez,cO];omega);(have l2:ae (xs.take i)+1<lim:=by rw[ez,cO];omega);(have l3:ae (xs.take i++ [x])+ae (xs.drop i)<lim:=by rw[ez];simp;omega);rw[Kn,J1,OS (by omega),ag];simp only[e2,n12,ar,aJ,aN,wi,aF,bw,aK,aH,cJ,bc,l1,l2,l3,ag,bM]
 have p1:∀i:ax,i<=ae xs->zM xs i x=sy xs i x:=λi hi=>by(have q:tg xs i x=if((ae xs:aw)==12)=aB then ai ([],5)else oA xs i x:=by by_cases c:(ae xs:aw)=12;(·rw[aQ (by simpa using c),Kn,aQ (by simpa using c)]);·rw[aP (by simpa using c),p2 i hi c]);rw[Z5,J0];simp only[q]
 have p0:∀(n i:ax),i+n=ae xs->zL xs i x=sx xs i x:=by intro n;induction n with|zero=>intro i hn;rw[Km,rX,p1 i (by omega),aP (by simp;omega),aP (by simp;omega)]|succ n ih=>intro i hn;rw[Km,rX,p1 i (by omega),eD (by omega),ih (i+1) (by omega)]
 have:=p0 (ae xs) 0 (by omega);rw[ahs,R9,(LI hl hs).1,(LI hl hs).2,NY x h1 h2,nG x h1 h2,show(0:aw)=((0:ax):aw)from rfl,this]
def aoX{xs:ah aR.ty}(hl:ae xs<=1000)(hg:∀x,x∈xs->LL x):Ia xs=CK xs:=by
 have p1:∀i:ax,(hi:i<ae xs)->(∀b m,oM xs b m ((i+1:ax):aw)=oi xs b m xs (ae xs) ((i+1:ax):aw))->∀(n k:ax) (b m s:aw),k+n=ae xs-> oN xs b m i s k=q8 xs b m i s xs (ae xs) i xs (ae xs) k xs[i]:=by intro i hi h0 n;induction n with|zero=>intro k b m s hk;(have:¬(k:aw)<(ae xs:aw):=by omega);rw[Kv,zC];simp only[this,aX,ar,aJ,eD (show i<4611686018427387904 by omega),h0]|succ n ih=>intro k b m s hk;(have hkl:k<ae xs:=by omega);(have dE:(k:aw)<(ae xs:aw):=by omega);have hc:=aup (hg xs[i] (bH hi)) (hg xs[k] (bH hkl));(have iS:((k:aw) !=(i:aw))=((i:aw) !=(k:aw)):=by rw[awB];simp;omega);rw[Kv,zC];simp only[dE,aF,aK,aN,aH,bY hi,bY hkl,ag,aqs,hc,iS,eD (show k<4611686018427387904 by omega),ih (k+1) _ _ _ (by omega)]
 have p0:∀(n i:ax) (b m:aw),i+n=ae xs->oM xs b m i=oi xs b m xs (ae xs) i:=by intro n;induction n with|zero=>intro i b m hi;(have:¬(i:aw)<(ae xs:aw):=by omega);rw[Ku,zB];simp only[this,aX,ar,aJ]|succ n ih=>intro i b m hi;(have tT:i<ae xs:=by omega);(have dE:(i:aw)<(ae xs:aw):=by omega);have:=p1 i tT (λb m=>ih (i+1) b m (by omega)) (ae xs) 0 b m 0 (by omega);rw[Ku,zB];simp only[dE,aF,aK,aN,aH,bY tT,ag];exact this
 rw[ahQ,aaC];exact p0 (ae xs) 0 (-1) 0 (by omega)
def axm:∀(n:ax) (xs:ah aR.ty) (r:aw),ae xs<=n->ae xs<=1000->(∀x,x∈xs->LL x)->CK xs=ai r->sf r xs=nF r xs:=by intro n;induction n with|zero=>intro xs r hn hl hg hr;obtain⟨r',e,h1,h2⟩:=Du hl;rw[hr]at e;cases e;rw[jr,aP (by simp;omega),uU,aP (by simp;omega)]|succ n ih=>intro xs r hn hl hg hr;obtain⟨r',e,h1,h2⟩:=Du hl;rw[hr]at e;cases e;by_cases c:0<=r;(·obtain⟨j,rfl⟩:∃j:ax,r=j:=⟨r.toNat,by omega⟩;(have eJ:ae (xs.take j++xs.drop (j+1))=ae xs-1:=by simp;omega);have hw:=eD (show j<4611686018427387904 by omega);(have c1:(j:aw)<((j+1:ax):aw):=by omega);(have c2:((j+1:ax):aw)<=(ae xs:aw):=by omega);(have c3:ae xs<1099511627776:=by omega);(have c4:(j:aw)<=(ae xs:aw):=by omega);(have hd:fM xs j ((j+1:ax):aw)=ai (xs.take j++xs.drop (j+1),()):=by rw[lj];simp only[aN,c1,c2,c3,aF,bw,aK,aH]);(have hv:(nu (j+1) xs).take (ae xs-(j+1))=xs.drop (j+1):=by rw[Jd,cH (by simp)]);(have fm:j+ae (xs.drop (j+1))<lim:=by rw[ez,dR];omega);(have hg':∀x,x∈xs.take j++xs.drop (j+1)->LL x:=λx hx=>by(rcases bt.1 hx with hx|hx);(·exact hg x (jO hx));·exact hg x (dk hx));obtain⟨r2,e2,_⟩:=Du (xs:=xs.take j++xs.drop (j+1)) (by omega);have es:=aoX (xs:=xs.take j++xs.drop (j+1)) (by omega) hg';rw[jr,aQ (by simp),uU,aQ (by simp)];simp only[aF,aK,hw,hd,ag,bc,bM,e2,es,aN,c2,c4,bw,aH,hv,fm];exact ih _ r2 (by omega) (by omega) hg' e2);·rw[jr,aP (by simpa using c),uU,aP (by simpa using c)]
def aAX{xs:ah aR.ty}(h:nV xs):Hg xs=yZ xs:=by
 have hf:=h.few;have hg:∀x,x∈xs->LL x:=λx hx=>h.axt hx;obtain⟨r,e,-⟩:=Du (xs:=xs) (by omega);have fm:0+ae xs<lim:=by rw[ez];omega
 rw[J3,h.valid.1,Z6,h.valid.2];simp only[ag,aV,ar,aJ,OS (show ae xs<=1048576 by omega),bM,e,fm,aF,aK,cJ,bc,aoX (show ae xs<=1000 by omega) hg];exact axm (ae xs) xs r (bx _) (by omega) hg e
end Pa
namespace Wo
def ay8(a:aw)(h: -1000000000<=a/\a<=1000000000):Dq a=ai (Oz a):=by rw[aod,fp (n:=0-a) (by omega) (by omega),yI,ag,Oz];congr 1;split<;>split<;>omega
def aoV(xs:ah be.ty)(hv:ku xs=aB)(w:aw)(k:ax)(hk:k<=60)(r:ah aw)(hr:ae r<=60):∀(m i:ax) (b:aW),i+m=ae xs->
 qH xs w k b i r=if(b||(xs.drop i).any λx=>ao (Oz (nt k-x.2.1)<=w))=aB then kO xs w (aj ak ((k:aw)+1)) (r++ [(k:aw)])else kO xs w (aj ak ((k:aw)+1)) r
 |0,i,b,hi=>by
  have:¬(i:aw)<(ae xs:aw):=by omega
  have fm:ae r+1<lim:=by rw[ez];omega
  rw[IV,fY (by omega)];simp only[this,aX,ar,aJ,List.any_nil,Bool.or_false,fm,aF,aK,bM]
 |m+1,i,b,hi=>by
  have tT:i<ae xs:=by omega
  have h10:=(aaG hv).1;have dE:(i:aw)<(ae xs:aw):=by omega
  have hw:aj ak ((i:aw)+1)=((i+1:ax):aw):=eD (by omega);have hb:=am1 hv tT;have hn:=aq5 k hk;rw[IV,drop_cons tT];simp only[dE,aF,aK,aN,aH,bY tT,ag,hw,oy,aFz tT,sg k hk,fp (n:=nt k-tn xs i) (by omega) (by omega),ay8 (nt k-tn xs i) (by omega)];cases b;·simp only[ar,aJ,Av];rw[aoV xs hv w k hk r hr m (i+1) _ (by omega)]
  .simp only[aK,Ct];rw[aoV xs hv w k hk r hr m (i+1) _ (by omega)];simp only[Ct,aK]
def awy(xs:ah be.ty)(hv:ku xs=aB)(w:aw):∀(m k:ax),k+m=61->kO xs w k (idx (agF xs w) k)=ai (idx (agF xs w) 61,0)
 |0,k,hk=>by
  obtain rfl:k=61:=by omega
  rw[IU];simp[bM]
 |m+1,k,hk=>by
  have dE:(k:aw)<=60:=by omega
  have hl:=Y5 (agF xs w) k;have hw:aj ak ((k:aw)+1)=((k+1:ax):aw):=eD (by omega);have e:=aoV xs hv w k (by omega) (idx (agF xs w) k) (by omega) (ae xs) 0 aA (by omega);rw[show((0:ax):aw)=0 from rfl,cL,Av]at e;rw[IU];simp only[dE,aF,aK];rw[e,hw];have hn:(xs.any λx=>ao (Oz (nt k-x.2.1)<=w))=agF xs w k:=rfl;have ih:=awy xs hv w m (k+1) (by omega);rw[adz]at ih;rw[hn];cases hb:agF xs w k;·rw[hb]at ih;simp only[ar,aJ,cD]at ih⊢;exact ih
  .rw[hb]at ih;simp only[aK]at ih⊢;exact ih
def aCm(xs:ah be.ty)(w:aw)(h:arX xs):∃l c,V4 l/\ME xs w=ai (l,c)/\EN xs w=ai (l,c):=by
 have no:V4 []:=⟨by simp,λ_ h=>by cases h⟩;rw[ae4,adW,YN xs h,aa2 xs (by have:=h.1;omega) λx hx=>by have:=h.2 x hx;unfold arW at this;omega];simp only[ag,bW,cY];cases e1:ku xs;·exact⟨_,_,no,rfl,rfl⟩
 cases e2:fS w 0 1000;·exact⟨_,_,no,rfl,rfl⟩
 simp only[aV,ar,aJ];exact⟨_,_,⟨by have:=Y5 (agF xs w) 61;omega,λy hy=>by have:=aEw _ _ y hy;omega⟩,aAm xs e1 w 61 0 (by omega),awy xs e1 w 61 0 (by omega)⟩
end Wo
namespace Be
def avF(n:aw)(xs:ah aZ.ty)(c:aw)(hv:mz xs=aB)(hn:1<=n/\n<=6)(hc:1<=c/\c<=20000):(M5 n xs c).2=0\/(M5 n xs c).2=3\/(M5 n xs c).2=5:=by
 unfold M5;rw[aP (by rw[hv];decide),aP (by omega)];split;·exact .inr (.inr rfl)
 split;·exact .inr (.inl rfl)
 .exact .inl rfl
def aBA(n:aw)(xs:ah aZ.ty)(c:aw)(h:aua xs)(hv:mz xs=aB)(hn:1<=n/\n<=6)(hc:1<=c/\c<=20000):Ri n xs c=ai (M5 n xs c):=by
 rw[ahM];unfold ae2;rw[aQ ⟨hn.1,hn.2,hc.1,hc.2⟩];have hs:ae xs<=1000/\xs.all Uv=aB:=⟨dQ h.1 (by decide),bz.2 λx hx=>aoW (Qr hv x hx)⟩;have e:M5 n xs c=(if(srP n xs c).2.1=aA then([],5)else if(srP n xs c).1=aA then([],3)else((srP n xs c).2.2.1,0)):=by unfold M5;rw[aP (by rw[hv];decide),aP (by omega)]
 unfold X0;rw[ag,aP (by decide),aP (by omega),aQ hs,e];show(if(srP n xs c).2.1=aA then ai ([],5)else if(srP n xs c).1=aA then ai ([],3)else ai ((srP n xs c).2.2.1,0))=_;split;·rfl
 .split<;>rfl
def ar5(xs:ah aZ.ty)(c:aw)(h:aua xs)(hv:mz xs=aB):∃n e:aw,(-1000000000000<=n/\n<=1000000000000)/\Cz xs c=ai (n,e)/\uW xs c=ai (n,e):=by
 rw[Wq,V8,aa3 xs (by have:=h.1;omega) λx hx=>by have:=h.2 x hx;unfold aJ9 at this;omega];simp only[ag,cY,hv,aV,ar,aJ];cases e2:fS c 1 20000
 .rw[qX];have:M5 1 xs c=([],2):=by unfold M5;rw[aP (by rw[hv];decide),aQ λq=>by have:fS c 1 20000=aB:=ck.2 ⟨q.2.2.1,q.2.2.2⟩;rw[this]at e2;cases e2]
  simp only[avG 1 xs c h,this,ag];exact⟨0,2,by omega,rfl,rfl⟩
 have hc:=ck.1 e2;simp only[aV,ar,aJ];have loop:∀(k i:ax),i+k=7->1<=i->∃n e:aw,(-1000000000000<=n/\n<=1000000000000)/\pD xs c i=ai (n,e)/\pJ xs c i=ai (n,e):=by intro k;induction k with|zero=>intro i hi h1;refine⟨0,3,by omega,?_,?_⟩;(·rw[qX,aP (by simp;omega)]);·rw[Bd,aP (by simp;omega)]|succ k ih=>intro i hi h1;(have hn:(1:aw)<=(i:aw)/\(i:aw)<=6:=by omega);(have wi:(i:aw)<=6:=by omega);rw[Bd,qX];simp only[wi,aF,aK,avG _ xs c h,aBA _ xs c h hv hn hc,ag,eD (show i<4611686018427387904 by omega)];(rcases avF i xs c hv hn hc with q|q|q);(·rw[q];exact⟨i,0,by omega,rfl,rfl⟩);(·rw[q];exact ih (i+1) (by omega) (by omega));·rw[q];exact⟨0,5,by omega,rfl,rfl⟩
 exact loop 6 1 (by omega) (by omega)
end Be
namespace Fi
def auQ(g:ah aw)(v:aw)(hg:ae g<=100):∀(k j:ax),j+k=ae g->EO g v j=ai ((g.drop j).any λx=>x==v)
 |0,j,hk=>by
  rw[Qa,br (by omega)];have:¬(j:aw)<(ae g:aw):=by omega
  simp[this]
 |k+1,j,hk=>by
  have hj:j<ae g:=by omega
  have dE:(j:aw)<(ae g:aw):=by omega
  have hw:aj ak ((j:aw)+1)=((j+1:ax):aw):=by rw[fp (by omega) (by omega)];omega
  have ih:=auQ g v hg k (j+1) (by omega);rw[Qa,ba hj];simp only[dE,aF,aK,aN,aH,aE hj,ag,hw,ih,oy];cases g[j]==v<;>simp
def aoy(n l3:ax)(xs:ah aZ.ty)(im:ah aw)(way v c v26 v27:aw)(g:ah aw)(y:aZ.ty)(hg:ae g<=100):
 ∀(k j:ax) (b:aW),j+k=ae g->De n l3 xs im way v b xs v26 v27 (ae g) j g y=De n l3 xs im way v (b||(g.drop j).any λx=>x==v) xs v26 v27 (ae g) (ae g) g y
 |0,j,b,hk=>by
  have:j=ae g:=by omega
  subst this;rw[br (bx _)];simp
 |k+1,j,b,hk=>by
  have hj:j<ae g:=by omega
  have dE:(j:aw)<(ae g:aw):=by omega
  have hw:aj ak ((j:aw)+1)=((j+1:ax):aw):=by rw[fp (by omega) (by omega)];omega
  have ih:=aoy n l3 xs im way v c v26 v27 g y hg k (j+1);rw[Xf,ba hj];simp only[dE,aF,aK,aN,aH,aE hj,ag,bw,hw,oy];cases b;·simp only[ar,aJ,Av];rw[ih _ (by omega)]
  .simp only[aK,Ct];rw[ih _ (by omega),Ct]
def inP(t l p h:aw):aw:=(if h-t>0 then h-t else 0)*p
def axN{t l p h:aw}(h1:20<=t/\t<=200)(h3:10<=p/\p<=100)(h4:20<=h/\h<=200):0<=inP t l p h/\inP t l p h<=20000:=by
 rw[inP];split
 .constructor;·exact aw2 (by omega) (by omega)
  .have:=Int.mul_le_mul (show h-t<=200 by omega) (show p<=100 by omega) (by omega) (by omega);omega
 .simp
def apA(nm:ah ay)(t l p h:aw)(h1:20<=t/\t<=200)(h3:10<=p/\p<=100)(h4:20<=h/\h<=200):Mt (nm,t,l,p,()) h=ai (inP t l p h,ao (inP t l p h<=l)):=by have hb:=axN (l:=l) h1 h3 h4;rw[adO];simp only;rw[fp (n:=h-t) (by omega) (by omega)];rw[inP]at hb⊢;rw[fp (by omega) (by omega)]
def ayt(nm:ah ay)(t l p h:aw)(h1:20<=t/\t<=200)(h3:10<=p/\p<=100)(h4:20<=h/\h<=200):UG (nm,t,l,p,()) h=ai (if inP t l p h>l then-1 else inP t l p h):=by
 have hb:=axN (l:=l) h1 h3 h4;rw[apY];simp only[yI,ag];rw[fp (n:=h-t) (by omega) (by omega)];rw[inP]at hb⊢;rw[fp (by omega) (by omega)];by_cases hc:(if h-t>0 then h-t else 0)*p>l;·simp only[hc,aF,aK]
 .simp only[hc,aX,ar,aJ]
def aBz{x:aZ.ty}(h:M4 x=aB):(20<=x.2.1/\x.2.1<=200)/\(100<=x.2.2.1/\x.2.2.1<=1000)/\(10<=x.2.2.2.1/\x.2.2.2.1<=100):=by rw[M4]at h;simp only[az,ck]at h;exact⟨h.2.1,h.2.2.1,h.2.2.2⟩
def auJ(xs:ah aZ.ty)(im:ah aw)(way:aw)(hx:∀x,x∈xs->M4 x=aB)(hh:∀h,h∈im->20<=h/\h<=200)(hl:ae xs<=8)(hl':im.length<=8)(m:ax):
 ∀(n:ax) (g:ah aw),ae g+n=im.length->(∀y,y∈g->0<=y/\y<=100)->∃(r:ah aw) (b:aW),(ae r<=8/\∀y,y∈r->0<=y/\y<=100)/\Qe (n+m+1) xs im way g=ai (r,b,())/\adY (n+m+1) xs im way g=ai (r,b,())
 |0,g,hg,hgv=>by
  refine⟨g,aB,⟨by omega,hgv⟩,?_,?_⟩;·rw[Yq,bM];simp[show ae g=im.length by omega]
  .rw[aix,bM];simp[show ae g=im.length by omega]
 |n+1,g,hg,hgv=>by
  have ih:=auJ xs im way hx hh hl hl' m n;rw[show n+1+m+1=(n+m+1)+1 by omega,Yq,aix];have iS:((ae g:aw)==(im.length:aw))=aA:=by rw[nc];omega
  simp only[iS,ar,aJ];have loop:∀(k i:ax),i+k=ae xs->∃(r:ah aw) (b:aW),(ae r<=8/\∀y,y∈r->0<=y/\y<=100)/\pt (n+m+1) (ae g) xs im way (ae g) i g=ai (r,b,())/\yg (n+m+1) (ae g) xs im way xs (ae xs) i g=ai (r,b,()):=by intro k;induction k with|zero=>intro i hi;refine⟨[],aA,⟨by simp,λ_ h=>by cases h⟩,?_,?_⟩;(·rw[Qf];(have:¬(i:aw)<(ae xs:aw):=by omega);simp only[this,aX,ar,aJ]);·rw[Xe];(have:¬(i:aw)<(ae xs:aw):=by omega);simp only[this,aX,ar,aJ]|succ k ihk=>intro i hk;(have hi:i<ae xs:=by omega);(have dE:(i:aw)<(ae xs:aw):=by omega);(have hw:aj ak ((i:aw)+1)=((i+1:ax):aw):=by rw[fp (by omega) (by omega)];omega);(have hgl:ae g<im.length:=by omega);obtain⟨r,b,q1,q2,q3⟩:=ihk (i+1) (by omega);have hp:=aBz (hx xs[i] (bH hi));have hq:=hh im[ae g] (bH hgl);have w1:=apA xs[i].1 xs[i].2.1 xs[i].2.2.1 xs[i].2.2.2.1 im[ae g] hp.1 hp.2.2 hq;have w2:UG xs[i] im[ae g]=_:=ayt xs[i].1 xs[i].2.1 xs[i].2.2.1 xs[i].2.2.2.1 im[ae g] hp.1 hp.2.2 hq;have w3:=axN (l:=xs[i].2.2.1) hp.1 hp.2.2 hq;(have h1:Yd g (i:aw)=ai (g.any λx=>x==(i:aw)):=by rw[an5];exact auQ g i (by omega) (ae g) 0 (by omega));have t1:=aoy (n+m+1) (ae g) xs im way i 0 (ae xs) i g xs[i] (by omega) (ae g) 0 aA (by omega);rw[Qf,Xe];simp only[TE,LN,cL,Av]at t1;have Gy:¬(ae g:aw)<(ae g:aw):=aMy _;simp only[dE,aF,aK,aN,aH,aE hi,aE hgl,ag,w2,h1,t1,bM];rw[Xf];simp only[Gy,aX,aF,ar,aJ,aK,aN,aH,aE hgl,ag,w1,hw,q2,q3];(cases aW9:g.any λx=>x==(i:aw));(·simp only[ar,aJ];generalize inP xs[i].2.1 xs[i].2.2.1 xs[i].2.2.2.1 im[ae g]=w at*;generalize (xs[i].2.2.1:aw)=L at*;by_cases hc:w>L;(·(have c1:¬w<=L:=by omega);simp only[hc,c1,aK,aX,bZ];exact⟨r,b,q1,by simp,by simp⟩);·(have c1:w<=L:=by omega);(have c2:¬w<0:=by omega);simp only[hc,c1,c2,aJ,aX,aF,aV,ar];by_cases hd:w>way;(·simp only[hd,aF,aK];exact⟨r,b,q1,rfl,rfl⟩);·simp only[hd,aX,ar,aJ];(obtain⟨r2,b2,z1,z2,z3⟩:=ih (g++ [(i:aw)]) (by simp;omega) λy hy=>by(rcases bt.1 hy with hy|hy);(·exact hgv y hy);·rw[aT.1 hy];omega);(have fm:0+ae g<lim:=by rw[ez];omega);(have aNU:ae g+1<lim:=by rw[ez];omega);(have aNV:ae g<lim:=by rw[ez];omega);rw[afj,amz,bM,Ye,ya];simp only[fm,aNU,aNV,aK,aF,aN,aH,bw,ag,cJ,bc,bM,z2,z3,hw,q2,q3];cases b2;(·simp only[ar,aJ];exact⟨r,b,q1,rfl,rfl⟩);·simp only[aK];exact⟨r2,aB,z1,rfl,rfl⟩);·simp only[aK];exact⟨r,b,q1,rfl,rfl⟩
  exact loop (ae xs) 0 (by omega)
def asj(xs:ah aZ.ty)(im:ah aw)(way:aw)(hs:ae xs<=1048576)(hx:∀x,x∈xs->ae x.1<=1048576)(hh:im.length<=1048576): ∃(r:ah aw) (c:aw),(ae r<=8/\∀y,y∈r->0<=y/\y<=100)/\Uw xs im way=ai (r,c)/\TN xs im way=ai (r,c):=by
 have no:ae ([]:ah aw)<=8/\∀y:aw,y∈([]:ah aw)->0<=y/\y<=100:=⟨by simp,λ_ h=>by cases h⟩;rw[akD,ajh,aa0 xs hs hx,Ph xs hs hx,aoh,apy,gO];simp only[cY,bW,ag];cases h1:CP xs;·exact⟨[],1,no,by simp,by simp⟩
 cases h2:fS way 0 1000;·exact⟨[],2,no,by simp,by simp⟩
 simp only[aV,ar,aJ];by_cases h3:(im.length:aw)>8
 .have h3':¬(im.length:aw)<=8:=by omega
  simp only[h3,h3',aF,aX,aK,bZ];exact⟨[],2,no,rfl,rfl⟩
 have h3':(im.length:aw)<=8:=by omega
 simp only[h3,h3',aF,aX,ar,aJ,aV];rw[ab8,abq];have a1:=KH im Lg (λh=>fS h 20 200) (λi=>BY xs im way i) ([],2) _ (λi=>ab9 xs im way i) (by omega) (λx _=>by rw[VV,cY];rfl) im.length 0 (by omega);have a2:=KH im Pq (λh=>fS h 20 200) (λi=>BF xs im way im im.length i) ([],2) _ (λi=>abr xs im way im im.length i) (by omega) (λx _=>by rw[Xk,bW];rfl) im.length 0 (by omega);simp only[TE,LN,cL]at a1 a2;rw[a1,a2];cases h4:im.all λh=>fS h 20 200
 .exact⟨[],2,no,by simp,by simp⟩
 simp only[aK];by_cases h5:(im.length:aw)=(ae xs:aw)
 .have h5':((im.length:aw) !=(ae xs:aw))=aA:=by rw[h5];simp
  simp only[h5',ar,aJ];obtain⟨r,b,z1,z2,z3⟩:=auJ xs im way (λx hx=>anI h1 x hx) (λh hm=>ck.1 (bz.1 h4 h hm)) (by omega) (by omega) (999-im.length) im.length [] (by simp) (λ_ h=>by cases h);rw[show im.length+(999-im.length)+1=1000 by omega]at z2 z3;rw[z2,z3];cases b;·exact⟨[],3,no,rfl,rfl⟩
  .exact⟨r,0,z1,by simp[bM],by simp[bM]⟩
 .have h5':((im.length:aw) !=(ae xs:aw))=aB:=by simpa using h5
  simp only[h5',aK];exact⟨[],7,no,rfl,rfl⟩
end Fi
namespace Re
def aiK(xs:ah aR.ty)(hs:ae xs<=1048576)(hx:∀x,x∈xs->gB x=aB):∀(k i:ax) (r:ah (ah (ah ay))),i+k=ae xs->ae r=i+1->
 kV xs i r=(af (Ic (r++(xs.drop i).map Q2)) λx5=>af (Lp x5) λx6=>ai (x6.1,x6.2))
 |0,i,r,hk,hr=>by
  have:¬(i:aw)<(ae xs:aw):=by omega
  rw[EK,br (by omega)];simp only[this,aX,ar,aJ,gJ,cD,bc,bM]
 |k+1,i,r,hk,hr=>by
  have hi:i<ae xs:=by omega
  have dE:(i:aw)<(ae xs:aw):=by omega
  have hw:aj ak ((i:aw)+1)=((i+1:ax):aw):=by rw[fp (by omega) (by omega)];omega
  have hp:=ahg (hx xs[i] (bH hi));have ih:=aiK xs hs hx k (i+1) (r++ [Q2 xs[i]]) (by omega) (by simp[hr]);have fm:ae r+1<lim:=by rw[ez];omega
  rw[EK,ba hi,aY];simp only[dE,aF,aK,aN,aH,aE hi,ag,hw];have rh:∀a b t:aw,1500<=a/\a<=2100->1500<=b/\b<=2100->1<=t/\t<=1000->(lq a=ai (bT a)/\lq b=ai (bT b)/\lq t=ai (bT t))/\ae (bT a)+ [45].length<=cQ/\ae ((bT a)++ [(45:ay)])+ae (bT b)<=cQ:=λa b t ha hb ht=>by have l1:=o7 a (by omega);have l2:=o7 b (by omega);refine⟨⟨kj a (by omega),kj b (by omega),kj t (by omega)⟩,?_,?_⟩;(·rw[jM];simp only[bl,bQ];omega);·rw[jM];simp only[bg,bl,bQ];omega
  obtain⟨⟨k4,k5,k6⟩,k7,k8⟩:=rh _ _ _ hp.2.2.1 hp.2.2.2.1 hp.2.2.2.2;rw[k4,ag,aQ (cF k7),k5,ag,aQ (cF k8),k6,ag,aQ (cF fm),bM];rw[df]at ih;exact ih
def avT(xs:ah aR.ty)(hs:ae xs<=1048576)(hx:∀x,x∈xs->ae x.1<=1048576/\ae x.2.1<=1048576):Hh xs=y9 xs:=by
 rw[aaa,J6,Rj xs hs hx,r8 xs hs hx,ag,ag];cases h:lF xs;·simp only[bZ,aK]
 have lO:=λx hx=>Uo h x hx;have s1:=aiK xs hs lO (ae xs) 0 [sw] (by omega) rfl;have s2:=abZ xs hs lO (ae xs) 0 [sw] (by omega) rfl;have s1:kV xs 0 [sw]=_:=s1;have s2:iq xs (ae xs) 0 [sw]=_:=s2;rw[cL]at s1 s2;have h12:(ae xs:aw)<=12:=by simp only[lF,az,aG]at h;exact h.2
 have hm:∀row,row∈ [sw]++xs.map Q2->(ae row<=12/\∀c,c∈row->ae c<=1000)/\KI row=aB:=λrow hm=>by(rcases bt.1 hm with hm|hm);(·rw[aT]at hm;subst hm;exact auT);·obtain⟨x,h1,rfl⟩:=dF.1 hm;exact az3 (lO x h1)
 have eJ:ae ([sw]++xs.map Q2)<=1048576:=by simp only[bg,bf,bl,bQ];omega
 have hT:Va ([sw]++xs.map Q2):=λrow h=>(hm row h).1;obtain⟨t1,t2,t3⟩:=atg _ hT;have hb:∀x,x∈([sw]++xs.map Q2).map (Vy (afz ([sw]++xs.map Q2)))->ae x<=1048576:=λx hx=>by obtain⟨row,h1,rfl⟩:=dF.1 hx;exact dQ (aqR t2 row (t3 row h1) (hT row h1).1) (by decide)
 rw[ahT _ eJ hT,ag,alc _ (by rw[bf];exact eJ) hb,ag]at s1;rw[MA _ eJ hT (λrow h=>(hm row h).2),ag]at s2;show kV xs 0 [sw]=iq xs (ae xs) 0 [sw];rw[s1,s2];generalize ([sw]++xs.map Q2).map (Vy (afz ([sw]++xs.map Q2)))=ls;cases hr:pe ls;·simp
 .simp only[aK,bc]
end Re
namespace Ry
def aiQ(Vb LA vp:aw)(xs:ah aZ.ty)(hs:ae xs<=1000)(Ap:∀(j:ax) (h:j<ae xs),jw xs[j]=aB)(ha:0<=Vb/\Vb<=1000)(hd:0<=LA/\LA<=36524):∀(k i:ax),i+k=ae xs->
 kW xs Vb LA vp i (idx (af6 xs Vb LA vp) i)=ai (idx (af6 xs Vb LA vp) (ae xs),0)
 |0,i,hk=>by
  have hi:i=ae xs:=by omega
  subst hi;rw[EL];have:¬((ae xs:ax):aw)<(ae xs:aw):=by omega
  simp only[this,aX,ar,aJ,bc,bM]
 |k+1,i,hk=>by
  have hi:i<ae xs:=by omega
  have dE:(i:aw)<(ae xs:aw):=by omega
  have hi0:(0:aw)<=(i:aw):=by omega
  have hv:=aJG (Ap i hi);have fm:ae (idx (af6 xs Vb LA vp) i)+1<lim:=by have:=Y5 (af6 xs Vb LA vp) i;rw[ez];omega
  have ih:=aiQ Vb LA vp xs hs Ap ha hd k (i+1) (by omega);rw[adz]at ih;have hP:af6 xs Vb LA vp i=(fS (LA-sS xs[i]) 0 4000&&ao (aft (FQ Vb) (sT xs[i]) (LA-sS xs[i]).toNat (sM xs[i])<=vp)):=by unfold af6;rw[bY hi]
  rw[hP]at ih;rw[EL];simp only[dE,aF,aK,hi0,aH,bY hi,ag,eD (show i<4611686018427387904 by omega),aOE,fp (n:=LA-sS xs[i]) (by omega) (by omega),akL,cY,akN _ ha,bc,bM];cases hr:fS (LA-sS xs[i]) 0 4000;·rw[hr]at ih;simp only[qe,ar,aJ,cD]at ih⊢;exact ih
  .have kr:=ck.1 hr;have ea:Bh (sM xs[i]) (FQ Vb) (sT xs[i]) (LA-sS xs[i])=ai (aft (FQ Vb) (sT xs[i]) (LA-sS xs[i]).toNat (sM xs[i])):=ahA _ _ _ _ hv.2.1 hv.2.2.1 (by have:=auE ha;omega) kr;rw[hr]at ih;have ea:Bh xs[i].2.1 (FQ Vb) xs[i].2.2.1 (LA-sS xs[i])=_:=ea;simp only[aK,ea,ag,jz]at ih⊢;by_cases hc:aft (FQ Vb) (sT xs[i]) (LA-sS xs[i]).toNat (sM xs[i])<=vp;(·simp only[hc,aF,aK,fm]at ih⊢;exact ih);·simp only[hc,aX,ar,aJ,cD]at ih⊢;exact ih
def ayl(xs:ah aZ.ty)(h1:nT xs=aB)(hl:ae xs<=12)(hx:∀x,x∈xs->ae x.1<=1048576)(Vb LA vp:aw):∃l c,V4 l/\GL xs Vb LA vp=ai (l,c)/\Hl xs Vb LA vp=ai (l,c):=by
 have no:V4 []:=⟨by simp,λ_ h=>by cases h⟩;rw[aab,aaT _ (by omega) hx,h1,ZE,J9 _ (by omega) hx,h1,Hp,Yi,Hp,MI,HJ,MI];simp only[bW,cY,ag,aV,ar,aJ];split;·exact⟨_,_,no,rfl,rfl⟩
 rename_i q1;split;·exact⟨_,_,no,rfl,rfl⟩
 rename_i q2;split;·exact⟨_,_,no,rfl,rfl⟩
 rw[TO,Ux];have q1:=ck.1 (show fS Vb 0 1000=aB by simpa using q1);have q2:=ck.1 (show fS LA 0 36524=aB by simpa using q2);exact⟨_,_,⟨by have:=Y5 (af6 xs Vb LA vp) (ae xs);omega,λy hy=>by have:=aEw _ _ y hy;omega⟩,anQ Vb LA vp xs (by omega) (λj h=>UU h1 _ (bH h)) q1 q2 (ae xs) 0 (by omega),aiQ Vb LA vp xs (by omega) (λj h=>UU h1 _ (bH h)) q1 q2 (ae xs) 0 (by omega)⟩
end Ry
namespace Li
def tlP(l:ah aw):ah ay:=l.flatMap λx=>44::bT x
def amX(x:aw):∀l:ah aw,lg (x::l)=bT x++tlP l
 | []=>by simp[lg,tlP,jT]
 |y::l=>by have:=amX y l;unfold lg at this⊢;rw[aY,aY,yt,<-aY,this];simp[tlP]
def loop(l:ah aw)(hl:ae l<=64)(hx:∀x,x∈l-> -1000000000000<=x/\x<=1000000000000):∀(k i:ax) (a:ah ay),i+k=ae l->0<i->ae a<=100*i->B9 l a i=ai (a++tlP (l.drop i))
 |0,i,a,hk,h0,ha=>by rw[CV,aP (by simp;omega),br (by omega)];simp[tlP]
 |k+1,i,a,hk,h0,ha=>by
  have hi:i<ae l:=by omega
  have hb:=hx _ (bH hi);have hn:=o7 l[i] (by omega);rw[CV,aQ (by simp;omega),aQ (by simp;omega),aQ (by simp[cQ];omega),Nq,aQ (by simp)];simp only[aH,aE hi,ag,kj l[i] (by omega)];rw[aQ (by simp[cQ];omega),eD (by omega),loop l hl hx k (i+1) _ (by omega) (by omega) (by simp;omega),ba hi];simp only[tlP,cr,df,Am,cJ]
def az7(l:ah aw)(hl:ae l<=64)(hx:∀x,x∈l-> -1000000000000<=x/\x<=1000000000000):EU l=ai (XA l):=by rw[akJ];cases l with|nil=>rfl|cons x l=>have hb:=hx x (by simp);have hn:=o7 x (by omega);rw[aP (by simp;omega),CV,aQ (by simp),aP (by simp),Nq,aQ (by simp)];simp only[aJ7,aD,ag,kj x (by omega)];rw[aQ (by simp[cQ];omega)];have:=loop (x::l) hl hx (ae l) 1 ([]++bT x) (by simp[Nat.add_comm]) (by omega) (by simp;omega);refine Tv this ?_;rw[XA,aP (by simp),amX];simp
end Li
namespace Pl
def ayD(l:ah (ah aw)):ah ay:=l.flatMap λx=>47::lg x
def aiN(x:ah aw):∀l:ah (ah aw),Up (x::l)=lg x++ayD l
 | []=>by simp[Up,ayD,jT]
 |y::l=>by have:=aiN y l;unfold Up at this⊢;rw[aY,aY,yt,<-aY,this];simp[ayD]
def aro(xs:ah (ah aw))(h:eh xs=aB){i:ax}(hi:i<ae xs):EU xs[i]=ai (lg xs[i])/\ae (lg xs[i])<=1024:=by have hr:=ahl xs h hi;refine⟨?_,Dh _ hr.2.1 hr.2.2⟩;rw[Li.az7 _ hr.2.1 hr.2.2,XA,aP hr.1]
def an0(xs:ah (ah aw))(h:eh xs=aB):∀(k i:ax) (a:ah ay),i+k=ae xs->0<i->ae a<=2000*i->Cg xs a i=ai (a++ayD (xs.drop i))
 |0,i,a,hk,h0,ha=>by rw[CX,aP (by simp;omega),br (by omega)];simp[ayD]
 |k+1,i,a,hk,h0,ha=>by
  have hi:i<ae xs:=by omega
  have Md:=zG h;obtain⟨e,hn⟩:=aro xs h hi;rw[CX,aQ (by simp;omega),aQ (by simp;omega),aQ (by simp[cQ];omega),NG,aQ (by simp)];simp only[aH,aE hi,ag,e];rw[aQ (by simp[cQ];omega),eD (by omega),an0 xs h k (i+1) _ (by omega) (by omega) (by simp;omega),ba hi];simp only[ayD,cr,df,Am,cJ]
def aB3(xs:ah (ah aw))(h:eh xs=aB):po xs=oV xs:=by
 have hz:=yz h;have Md:=zG h;rw[O8 xs h,P9,ou xs hz.1 hz.2,ag,h];simp only[aV,ar,aJ];obtain⟨h1,-⟩:=mM h;have h0:0<ae xs:=by omega
 obtain⟨e,hn⟩:=aro xs h h0;rw[akT,CX,aQ (by simpa using h0),aP (by simp),NG,aQ (by simp)];simp only[aJ7,aE h0,ag,e];rw[aQ (by simp[cQ];omega)];have hl:=an0 xs h (ae xs-1) 1 ([]++lg xs[0]) (by omega) (by omega) (by simp;omega);have e1:Up xs=[]++lg xs[0]++ayD (xs.drop 1):=by rw[cJ,<-aiN,<-ba h0,cL]
 rw[e1];exact(wE (λz=>af z λc=>ai c) hl)
end Pl
namespace Sh
def ate(a b c d e:aw)(hb:100<=b/\b<=10000)(hc:0<=c/\c<=500)(hd: -1000000<=d/\d<=1000000):UE (a,b,c,e,()) d=ai (azV b c d):=by obtain⟨h1,h2⟩:=azW hb hc hd;rw[akU];simp only[fp (n:=b*d) (by omega) (by omega),pr (b*d) 1000 (by omega) (by omega),ag,fp (n:=c+fo (b*d) 1000) (by omega) (by omega)];rfl
def aqV(h j a b c d:aw)(hb:100<=b/\b<=10000)(hc:0<=c/\c<=500)(hd:0<=d/\d<=300)(hj:1<=j/\j<=1000):∀(k:ax) (i u:aw),i+k=201->0<=i->
 B8 h j i (a,b,c,d,())=vD h j d i (a,b,c,u,())
 |0,i,u,hk,h0=>by
  rw[uB,Nh];have:¬i<=200:=by omega
  simp only[this,aX,ar,aJ]
 |k+1,i,u,hk,h0=>by
  rw[uB,Nh];have:i<=200:=by omega
  have hs:=az5 (s:=i) hd hj (by omega);simp only[this,aF,aK,fp (n:=1000*i) (by omega) (by omega),kf (1000*i) j (by omega) (by omega),pr (1000*i) j (by omega) (by omega),ag,fp (n:=d+fo (1000*i) j) (by omega) (by omega),ad6 a b c (d+fo (1000*i) j) hb hc (by omega),ate a b c (d+fo (1000*i) j) d hb hc (by omega)];rw[fp (n:=i+1) (by omega) (by omega),aqV h j a b c d hb hc hd hj k (i+1) _ (by omega) (by omega)]
def same(x:iZ.ty)(h4:AG x=aB)(y z:aw):K9 x y z=D8 x y z:=by
 have hn:=am3.1 h4;rw[akF,Q9,Vt,qu,h4,SG,afi];simp only[bW,cY,ag,aV,ar,aJ];split;·rfl
 split;·rfl
 rename_i q2;rw[acd,My];exact aqV y z x.1 x.2.1 x.2.2.1 x.2.2.2.1 hn.2.1 hn.2.2.1 hn.2.2.2 (ck.1 (by simpa using q2)) 201 0 x.2.2.2.1 (by omega) (by omega)
end Sh
namespace No
def same(a:aw):HR a=A0 a:=by
 rw[ahu,Sn,ak4,bW,cY];simp only[ag];cases h:fS a 0 60;·rfl
 have h:=ck.1 h;obtain⟨n,rfl⟩:∃n:ax,a=n:=⟨a.toNat,by omega⟩;have e1:((n:aw).tmod 12)=((n%12:ax):aw):=rfl;have e2:((n:aw).tdiv 12)=((n/12:ax):aw):=rfl;have hl:n%12< [[99],[99,35],[100],[100,35],[101],[102],[102,35],[103],[103,35],[97],[97,35],[(98:ay)]].length:=by show n%12<12;omega
 have c1:((n%12:ax):aw)<12:=by omega
 rw[e1,e2,TY _ _ hl,fp (n:=((n/12:ax):aw)) (by omega) (by omega),ic _ (by omega),kj _ (by omega),aH,aE hl];simp only[aV,ar,aJ,aN,c1,aF,bw,aK,ag]
end No
open Pa (Y0)
def aLa{α:Type}{ok:α->aW}{id:α->ah ay}{xs:ah α}{x:α}(h:gI ok id au xs=aB)(hx:ok x=aB)(i:ax)(h1:∀b,b∈xs.take i->id b<id x)(h2:∀b,b∈xs.drop i->id x<id b):gI ok id au (xs.take i++ [x]++xs.drop i)=aB:=by
 obtain⟨q1,q2,-⟩:=Y0.1 h;refine Y0.2 ⟨λy hy=> ?_,?_,λ_ h=>by cases h⟩
 .rcases bt.1 hy with hy|hy
  ·(rcases bt.1 hy with hy|hy);(·exact q1 y (jO hy));·rw[aT.1 hy];exact hx
  .exact q1 y (dk hy)
 .rw[df,OP];refine⟨q2.sublist (List.take_sublist _ _),?_,λa ha b hb=> ?_⟩;·rw[qO,kR];exact⟨h2,q2.sublist (aIX _ _)⟩
  .rw[qO]at hb;(rcases bP.1 hb with rfl|hb);(·exact h1 a ha);·exact aim (h1 a ha) (h2 b hb)
def Gw{α:Type}(xs:ah α)(id:α->ah ay)(x:α)(m:aw)(ys:ah α)(c:aw):Prop:=0<=c/\c<=11/\∃a,ow (xs.map id) (id x) m=ai (a,c)/\(c=0->∃j:ax,j<=ae xs/\a=j/\ys=xs.take j++ [x]++xs.drop j)
def Zb{α:Type}{ok:α->aW}{id:α->ah ay}{xs:ah α}{x:α}{m:aw}(hl:ae xs<=1000)(hm:(ae xs:aw)<=m)(h:gI ok id au xs=aB)(hx:ok x=aB)(P0 P1 P2 P3:aw->aq (ah α×aw×mW)) (e0:∀v,P0 v=if ao (v<(ae xs:aw))then if ao (0<=v)&&ao (v<(ae xs:aw))then af (xs[v.toNat]?) λy=>if dB (id y) (id x)then P0 (aj ak (v+1))else P1 v else au else P1 v) (e1:∀v,P1 v=if ao (v<(ae xs:aw))then if ao (0<=v)&&ao (v<(ae xs:aw))then af (xs[v.toNat]?) λy=>if(id y==id x)then ai (tk xs,4,())else P2 v else au else P2 v) (e2:∀v,P2 v=if ao ((ae xs:aw)>=m)then ai (tk xs,5,())else P3 v) (e3:∀i:ax,i<=ae xs->P3 i=ai (xs.take i++ [x]++xs.drop i,0,())): ∃ys c,P0 0=ai (ys,c,())/\(c=0->gI ok id au ys=aB/\(ae ys:aw)<=m)/\Gw xs id x m ys c:=by
 have q2:=(Y0.1 h).2.1;have hml:ae (xs.map id)=ae xs:=bf ..;let R:aq (ah α×aw×mW)->aq (aw×aw)->Prop:=λP S=>∃ys c,P=ai (ys,c,())/\(c=0->gI ok id au ys=aB/\(ae ys:aw)<=m)/\0<=c/\c<=11/\∃a,S=ai (a,c)/\(c=0->∃j:ax,j<=ae xs/\a=j/\ys=xs.take j++ [x]++xs.drop j)
 have p2:∀i:ax,i<=ae xs->(∀b,b∈xs.take i->id b<id x)->(∀b,b∈xs.drop i->id x<id b)->R (P2 i) (Aa (xs.map id) m i):=λi hi a1 a2=>by rw[e2,aah,hml];by_cases c:(ae xs:aw)>=m;(·rw[aQ (cF c),aQ (by simp;omega)];exact⟨_,5,rfl,λh=>(by cases h),by omega,by omega,0,rfl,λh=>(by cases h)⟩);·rw[aP (by simpa using c),e3 i hi,aP (by simp;omega)];exact⟨_,0,rfl,λ_=>⟨aLa h hx i a1 a2,by simp;omega⟩,by omega,by omega,i,rfl,λ_=>⟨i,hi,rfl,rfl⟩⟩
 have p1:∀i:ax,i<=ae xs->(∀b,b∈xs.take i->id b<id x)->(∀hi:i<ae xs,¬id xs[i]<id x)->R (P1 i) (zZ (xs.map id) (id x) m i):=λi hi a1 a2=>by rw[e1,aag,hml];by_cases c:i<ae xs;(·(have dE:(i:aw)<(ae xs:aw):=by omega);(have hmi:(xs.map id)[i]? =ai (id xs[i]):=by rw[cC,aE c];rfl);simp only[dE,aF,aK,bw,aN,aH,aE c,hmi,ag];by_cases c2:(id xs[i]==id x)=aB;(·rw[aQ c2,aQ c2];exact⟨_,4,rfl,λh=>(by cases h),by omega,by omega,0,rfl,λh=>(by cases h)⟩);·rw[aP c2,aP c2];(have xp:id x<id xs[i]:=by(rcases List.le_iff_lt_or_eq.1 (List.not_lt.1 (a2 c))with q|q);(·exact q);·exact bG (cS.2 q.symm) c2);refine p2 i hi a1 λb hb=> ?_;have hd:=q2.sublist (aIX i xs);rw[ba c]at hb hd;(rcases bP.1 hb with rfl|hb);(·exact xp);·exact aim xp ((kR.1 hd).1 b hb));·(have dE:¬(i:aw)<(ae xs:aw):=by omega);simp only[dE,aX,ar,aJ];exact p2 i hi a1 λb hb=>by rw[br (by omega)]at hb;cases hb
 have p0:∀(n i:ax),i+n=ae xs->(∀b,b∈xs.take i->id b<id x)->R (P0 i) (zY (xs.map id) (id x) m i):=by intro n;induction n with|zero=>intro i hn a1;rw[e0,aP (by simp;omega),KC,aP (by simp;omega)];exact p1 i (by omega) a1 λhc=>by omega|succ n ih=>intro i hn a1;(have hi:i<ae xs:=by omega);(have dE:(i:aw)<(ae xs:aw):=by omega);(have hmi:(xs.map id)[i]? =ai (id xs[i]):=by rw[cC,aE hi];rfl);rw[e0,KC,hml];simp only[dE,aF,aK,bw,aN,aH,aE hi,hmi,ag,aa9,aG,eD (show i<4611686018427387904 by omega)];by_cases c:id xs[i]<id x;(·rw[aQ c,aQ c];refine ih (i+1) (by omega) λb hb=> ?_;rw[WL,aE hi]at hb;(rcases bt.1 hb with hb|hb);(·exact a1 b hb);·simp at hb;rw[hb];exact c);·rw[aP c,aP c];exact p1 i (by omega) a1 λ_=>c
 obtain⟨ys,c,r1,r2,r3⟩:=p0 (ae xs) 0 (by omega) λb hb=>by simp at hb
 exact⟨ys,c,r1,r2,r3.1,r3.2.1,by rw[ahU];exact r3.2.2⟩
def avL{xs:ah aZ.ty}(h:nT xs=aB){x:aZ.ty}(hx:jw x=aB):∃ys c,fG xs (x.1,x.2.1,x.2.2.1,x.2.2.2.1,()) 12 ()=ai (ys,c,())/\(c=0->nT ys=aB)/\Gw xs (λy=>y.1) x 12 ys c:=by
 rw[nT,az,aG]at h;have hl:ae xs<=1000:=by omega
 obtain⟨ys,c,q1,q2,q3⟩:=Zb (id:=λy:aZ.ty=>y.1) (m:=12) hl h.2 h.1 hx (λv=>eR (ae xs) 12 v xs x) (λv=>eT (ae xs) 12 v xs x) (λv=>eU (ae xs) 12 v xs x) (λv=>gV (ae xs) v xs x) (λv=>by rw[rR];simp only[Pz,ag]) (λv=>by rw[rS];simp only[Pz,ag]) (λv=>rT _ _ _ _ _) (λi hi=>by(have wi:(i:aw)<=(ae xs:aw):=by omega);(have fm:ae xs+1<1099511627776:=by omega);have e1:([x]:ah aZ.ty)=[x]:=rfl;rw[rU,aQ (by simp),e1,vT];simp only[cT,aN,wi,fm,aF,bw,aK,aH,ag,bc,bM]);refine⟨ys,c,by rw[uN];exact q1,λhc=> ?_,q3⟩;rw[nT,az,aG];exact q2 hc
def aBE{xs:ah be.ty}(h:rq xs=aB){x:be.ty}(hx:PZ x=aB):∃ys c,fW xs (x.1,x.2.1,x.2.2.1,()) 8 ()=ai (ys,c,())/\(c=0->rq ys=aB)/\Gw xs (λy=>y.1) x 8 ys c:=by
 rw[rq,az,aG]at h;have hl:ae xs<=1000:=by omega
 obtain⟨ys,c,q1,q2,q3⟩:=Zb (id:=λy:be.ty=>y.1) (m:=8) hl h.2 h.1 hx (λv=>fB (ae xs) 8 v xs x) (λv=>fC (ae xs) 8 v xs x) (λv=>fD (ae xs) 8 v xs x) (λv=>iF (ae xs) v xs x) (λv=>by rw[ue];simp only[PB,ag]) (λv=>by rw[uf];simp only[PB,ag]) (λv=>ug _ _ _ _ _) (λi hi=>by(have wi:(i:aw)<=(ae xs:aw):=by omega);(have fm:ae xs+1<1099511627776:=by omega);have e1:([x]:ah be.ty)=[x]:=rfl;rw[uh,aQ (by simp),e1,zK];simp only[cT,aN,wi,fm,aF,bw,aK,aH,ag,bc,bM]);refine⟨ys,c,by rw[wJ];exact q1,λhc=> ?_,q3⟩;rw[rq,az,aG];exact q2 hc
def aBC{xs:ah aZ.ty}(h:CP xs=aB){x:aZ.ty}(hx:M4 x=aB):∃ys c,fU xs (x.1,x.2.1,x.2.2.1,x.2.2.2.1,()) 8 ()=ai (ys,c,())/\(c=0->CP ys=aB)/\Gw xs (λy=>y.1) x 8 ys c:=by
 rw[CP,az,aG]at h;have hl:ae xs<=1000:=by omega
 obtain⟨ys,c,q1,q2,q3⟩:=Zb (id:=λy:aZ.ty=>y.1) (m:=8) hl h.2 h.1 hx (λv=>ft (ae xs) 8 v xs x) (λv=>fv (ae xs) 8 v xs x) (λv=>fw (ae xs) 8 v xs x) (λv=>iC (ae xs) v xs x) (λv=>by rw[tV];simp only[PD,ag]) (λv=>by rw[tX];simp only[PD,ag]) (λv=>tY _ _ _ _ _) (λi hi=>by(have wi:(i:aw)<=(ae xs:aw):=by omega);(have fm:ae xs+1<1099511627776:=by omega);have e1:([x]:ah aZ.ty)=[x]:=rfl;rw[tZ,aQ (by simp),e1,zI];simp only[cT,aN,wi,fm,aF,bw,aK,aH,ag,bc,bM]);refine⟨ys,c,by rw[wH];exact q1,λhc=> ?_,q3⟩;rw[CP,az,aG];exact q2 hc
def aBD{xs:ah cx.ty}(h:rp xs=aB){x:cx.ty}(hx:CQ x=aB):∃ys c,fV xs (x.1,x.2.1,x.2.2.1,x.2.2.2.1,x.2.2.2.2.1,()) 8 ()=ai (ys,c,())/\(c=0->rp ys=aB)/\Gw xs (λy=>y.1) x 8 ys c:=by
 rw[rp,az,aG]at h;have hl:ae xs<=1000:=by omega
 obtain⟨ys,c,q1,q2,q3⟩:=Zb (id:=λy:cx.ty=>y.1) (m:=8) hl h.2 h.1 hx (λv=>fx (ae xs) 8 v xs x) (λv=>fy (ae xs) 8 v xs x) (λv=>fA (ae xs) 8 v xs x) (λv=>iD (ae xs) v xs x) (λv=>by rw[ua];simp only[PE,ag]) (λv=>by rw[ub];simp only[PE,ag]) (λv=>uc _ _ _ _ _) (λi hi=>by(have wi:(i:aw)<=(ae xs:aw):=by omega);(have fm:ae xs+1<1099511627776:=by omega);have e1:([x]:ah cx.ty)=[x]:=rfl;rw[ud,aQ (by simp),e1,zJ];simp only[cT,aN,wi,fm,aF,bw,aK,aH,ag,bc,bM]);refine⟨ys,c,by rw[wI];exact q1,λhc=> ?_,q3⟩;rw[rp,az,aG];exact q2 hc
def ayi{xs:ah be.ty}(h:ku xs=aB){x:be.ty}(hx:CL x=aB):∃ys c,fK xs (x.1,x.2.1,x.2.2.1,()) 10 ()=ai (ys,c,())/\(c=0->ku ys=aB)/\Gw xs (λy=>y.1) x 10 ys c:=by
 rw[ku,az,aG]at h;have hl:ae xs<=1000:=by omega
 obtain⟨ys,c,q1,q2,q3⟩:=Zb (id:=λy:be.ty=>y.1) (m:=10) hl h.2 h.1 hx (λv=>eY (ae xs) 10 v xs x) (λv=>eZ (ae xs) 10 v xs x) (λv=>fe (ae xs) 10 v xs x) (λv=>ig (ae xs) v xs x) (λv=>by rw[sV];simp only[PF,ag]) (λv=>by rw[sW];simp only[PF,ag]) (λv=>sX _ _ _ _ _) (λi hi=>by(have wi:(i:aw)<=(ae xs:aw):=by omega);(have fm:ae xs+1<1099511627776:=by omega);have e1:([x]:ah be.ty)=[x]:=rfl;rw[sY,aQ (by simp),e1,xt];simp only[cT,aN,wi,fm,aF,bw,aK,aH,ag,bc,bM]);refine⟨ys,c,by rw[vK];exact q1,λhc=> ?_,q3⟩;rw[ku,az,aG];exact q2 hc
def ayj{xs:ah aZ.ty}(h:mz xs=aB){x:aZ.ty}(hx:AK x=aB):∃ys c,fL xs (x.1,x.2.1,x.2.2.1,x.2.2.2.1,()) 8 ()=ai (ys,c,())/\(c=0->mz ys=aB)/\Gw xs (λy=>y.1) x 8 ys c:=by
 rw[mz,az,aG]at h;have hl:ae xs<=1000:=by omega
 obtain⟨ys,c,q1,q2,q3⟩:=Zb (id:=λy:aZ.ty=>y.1) (m:=8) hl h.2 h.1 hx (λv=>ff (ae xs) 8 v xs x) (λv=>fg (ae xs) 8 v xs x) (λv=>fh (ae xs) 8 v xs x) (λv=>ij (ae xs) v xs x) (λv=>by rw[sZ];simp only[PG,ag]) (λv=>by rw[s9];simp only[PG,ag]) (λv=>tc _ _ _ _ _) (λi hi=>by(have wi:(i:aw)<=(ae xs:aw):=by omega);(have fm:ae xs+1<1099511627776:=by omega);have e1:([x]:ah aZ.ty)=[x]:=rfl;rw[te,aQ (by simp),e1,xu];simp only[cT,aN,wi,fm,aF,bw,aK,aH,ag,bc,bM]);refine⟨ys,c,by rw[vL];exact q1,λhc=> ?_,q3⟩;rw[mz,az,aG];exact q2 hc
def dq{x:cM.ty}:lN x=aB↔nT x.1=aB/\rq x.2.1=aB/\eh x.2.2.1=aB/\AG (x.2.2.2.1,x.2.2.2.2.1,x.2.2.2.2.2.1,x.2.2.2.2.2.2.1,())=aB/\CP x.2.2.2.2.2.2.2.1=aB/\rp x.2.2.2.2.2.2.2.2.1=aB/\ku x.2.2.2.2.2.2.2.2.2.1=aB/\mz x.2.2.2.2.2.2.2.2.2.2.1=aB/\lF x.2.2.2.2.2.2.2.2.2.2.2.1=aB:=by simp only[lN,az]
def A5{s:ah ay}(h:eV s=aB):ae s<=10:=(MR h).2
def Ta{x:cM.ty}(h:lN x=aB):RU x:=by
 obtain⟨h1,h2,h3,-,h5,h6,h7,h8,h9⟩:=dq.1 h;have g1:=UU h1;have g2:=ab3 h2;have g5:=anI h5;have g6:=Uq h6;have g7:=PH h7;have g8:=Qr h8;have g9:=Uo h9;simp only[nT,rq,CP,rp,ku,mz,lF,az,aG]at h1 h2 h5 h6 h7 h8 h9;simp only[jw,PZ,M4,CL,AK,gB,az]at g1 g2 g5 g7 g8 g9;have hp:=(Pl.mM h3);obtain⟨p1,c,p2,p3⟩:=hp;have nm:∀{s:ah ay},eV s=aB->ae s<=1048576:=λh=>by have:=A5 h;omega
 refine⟨⟨by omega,λy hy=>nm (g1 y hy).1⟩,⟨by omega,λy hy=>nm (g2 y hy).1⟩,⟨by omega,λy hy=>by have:=(p3 y hy).1;omega⟩,⟨by omega,λy hy=>nm (g5 y hy).1⟩,⟨by omega,λy hy=>nm ?_⟩,⟨by omega,λy hy=>nm (g7 y hy).1⟩,⟨by omega,λy hy=>nm (g8 y hy).1⟩,by omega,λy hy=>⟨nm (g9 y hy).1,nm (g9 y hy).2.1⟩⟩;have:=g6 y hy;simp only[CQ,Kl,az]at this;exact this.1
def xC(ls:ah (ah ay)):Prop:=ae ls<=1000/\∀l,l∈ls->ae l<=1000000
def Dg{l:ah aw}(h:V4 l)(c:aw):oh l c=ai ([XA l],c):=by rw[agu,O4 l h.1 h.2,ag,IJ];simp[bM]
def M2{l:ah aw}(h:V4 l):xC [XA l]:=⟨by simp,λx hx=>by rw[aT.1 hx];have:=avj l h.1 h.2;omega⟩
def A6{n:aw}(h: -1000000000000<=n/\n<=1000000000000)(c:aw):p5 n c=ai ([bT n],c):=by rw[abE,ic n (by omega),ag,IJ];simp[bM]
def aeO{n:aw}(h: -1000000000000<=n/\n<=1000000000000):xC [bT n]:=⟨by simp,λx hx=>by rw[aT.1 hx];have:=o7 n h;omega⟩
def aFM{d:cM.ty}(hd:lN d=aB)(x y:aw):∃n c:aw,(-1000000000000<=n/\n<=1000000000000)/\xS d.2.2.1 x y=ai (n,c):=by
 obtain⟨-,-,h3,-⟩:=dq.1 hd;by_cases hc:fS x 1 10000=aB/\fS y 1 2000=aB;·have b1:=ck.1 hc.1;have b2:=ck.1 hc.2;have hf:=Pl.M6 h3;have hs:=Pl.Ih d.2.2.1.flatten hf.2;have hb:=Pl.asG (s:=Pl.Fz d.2.2.1.flatten) (c:=x) (d:=y) (by omega) b1 b2;have hr:=X1 (a:=Pl.Fz d.2.2.1.flatten*x*y) (b:=10000) (m:=900000000000) (by omega) (by omega);exact⟨_,_,by unfold Pl.aqX;omega,Pl.O6 _ h3 x y b1 b2⟩
 .refine⟨0,2,by omega,?_⟩;rw[D4,eG _ (Pl.yz h3).1 (Pl.yz h3).2,h3,Pl.MG];have:(fS x 1 10000&&fS y 1 2000)=aA:=by cases h1:fS x 1 10000<;>cases h2:fS y 1 2000<;>simp_all
  rw[ag,ag,this];rfl
def asK{k:ax}(h:k<=60):∃t,A0 (k:aw)=ai t/\ae t<=1000000:=by
 have hm:(k:aw).tmod 12=((k%12:ax):aw):=by rw[py (by omega)];omega
 have hd:(k:aw).tdiv 12=((k/12:ax):aw):=by rw[tN (by omega)];omega
 have hl:k%12<ae (([[99],[99,35],[100],[100,35],[101],[102],[102,35],[103],[103,35],[97],[97,35],[98]]:ah (ah ay))):=by show k%12<12;omega
 have hi:=axR (k/12) (by omega);have hn:=asL (k%12) (by omega);rw[Sn,bW,show fS (k:aw) 0 60=aB from ck.2 (by omega),hm,hd,fp (n:=((k/12:ax):aw)) (by omega) (by omega),ic _ (by omega),TY _ _ hl];rw[aE hl,jA]at hn;generalize (([[99],[99,35],[100],[100,35],[101],[102],[102,35],[103],[103,35],[97],[97,35],[98]]:ah (ah ay)))[k%12]=a at hn⊢;generalize bT ((k/12:ax):aw)=b at hi⊢;have hs:ae a+ae b<=cQ:=by rw[jM];omega
 simp only[ag,aV,ar,aJ,hs,aF,aK];exact⟨_,rfl,by simp;omega⟩
def aFN(x:aw):∃(k:ax) (e v:aw) (t:ah ay),k<=60/\xP x=ai ((k:aw),v,e)/\A0 (k:aw)=ai t/\ae t<=1000000:=by
 have rh:∃k:ax,∃e v:aw,k<=60/\xP x=ai ((k:aw),v,e):=by by_cases hr:fS x 1000 100000=aB;(·obtain⟨c,hc,-,q⟩:=amu x (ck.1 hr);exact⟨c,_,_,hc,q⟩);·exact⟨0,2,0,by omega,ajj x (by simpa using hr)⟩
 obtain⟨k,e,v,hk,q⟩:=rh;obtain⟨t,ht,hl⟩:=asK hk;exact⟨k,e,v,t,hk,q,ht,hl⟩
def aeS{xs:ah aR.ty}(h:lF xs=aB):ae xs<=20/\Pa.afV xs:=by have hp:=Pa.CO.1 h;refine⟨by have:=hp.few;omega,λx hx=> ?_⟩;have g:=Pa.azr (hp.ok x hx);exact⟨by have:=A5 g.i;omega,by have:=A5 g.k;omega⟩
def aFP{d:cM.ty}(hd:lN d=aB)(x y:aw):∃n c:aw,(-1000000000000<=n/\n<=1000000000000)/\D8 (d.2.2.2.1,d.2.2.2.2.1,d.2.2.2.2.2.1,d.2.2.2.2.2.2.1,()) x y=ai (n,c):=by
 obtain⟨-,-,-,h4,-⟩:=dq.1 hd;have hn:=am3.1 h4;have rh:∃n c:aw,(0<=n/\n<=200)/\D8 (d.2.2.2.1,d.2.2.2.2.1,d.2.2.2.2.2.1,d.2.2.2.2.2.2.1,()) x y=ai (n,c):=by rw[Vt,qu,h4,SG];simp only[bW,ag,aV,ar,aJ];split;(·exact⟨0,2,by omega,rfl⟩);split;(·exact⟨0,2,by omega,rfl⟩);rename_i q2;rw[My];obtain⟨n,e,q,r⟩:=Sh.arq x y d.2.2.2.1 d.2.2.2.2.1 d.2.2.2.2.2.1 d.2.2.2.2.2.2.1 hn.2.1 hn.2.2.1 hn.2.2.2 (ck.1 (by simpa using q2)) 201 0 d.2.2.2.2.2.2.1 (by omega) (by omega) (.inl rfl);exact⟨n,e,by omega,q⟩
 obtain⟨n,c,q1,q2⟩:=rh;exact⟨n,c,by omega,q2⟩
def aEK{d:cM.ty}(hd:lN d=aB):Wo.arX d.2.2.2.2.2.2.2.2.2.1:=by obtain⟨-,-,-,-,-,-,h7,-⟩:=dq.1 hd;have h10:=h7;simp only[ku,az,aG]at h10;have g:=PH h7;simp only[CL,az]at g;exact⟨by omega,λy hy=>by have:=A5 (g y hy).1;unfold Wo.arW;omega⟩
def aGg{d:cM.ty}(hd:lN d=aB):Be.aua d.2.2.2.2.2.2.2.2.2.2.1:=by obtain⟨-,-,-,-,-,-,-,h8,-⟩:=dq.1 hd;have h10:=h8;simp only[mz,az,aG]at h10;have g:=Qr h8;simp only[AK,az]at g;exact⟨by omega,λy hy=>by have:=A5 (g y hy).1;unfold Be.aJ9;omega⟩
def ax7{ls:ah (ah ay)}(h:pe ls=aB):xC ls:=by simp only[pe,az,aG,bz]at h;refine⟨by omega,λl hl=> ?_⟩;have:=h.1 l hl;simp only[QV,az,aG]at this;omega
def aHT{d:cM.ty}(hd:lN d=aB):Gl.aw5 d.2.2.2.2.2.2.2.2.1:=by obtain⟨-,-,-,-,-,h6,-⟩:=dq.1 hd;have h8:=h6;simp only[rp,az,aG]at h8;exact⟨by omega,λy hy=>by have:=Uq h6 y hy;simp only[CQ,Kl,az]at this;have:=A5 this.1;unfold Gl.ay3;omega⟩
def aH6{d:cM.ty}(hd:lN d=aB):Cu.ar0 d.2.1:=by obtain⟨-,h2,-⟩:=dq.1 hd;have h8:=h2;simp only[rq,az,aG]at h8;exact⟨by omega,λw hw=>by have:=ab3 h2 w hw;simp only[PZ,az]at this;have:=A5 this.1;unfold Cu.ay6;omega⟩
def aye{xs:ah (ah aw)}(h:eh xs=aB):oV xs=ai (Pl.Up xs)/\ae (Pl.Up xs)<=1000000:=by
 obtain⟨h1,c,hc,h2⟩:=Pl.mM h;refine⟨Pl.O8 xs h,?_⟩
 .have:=amS (m:=1024) (c:=47) (xs.map lg) λx hx=>by obtain⟨r,hr,rfl⟩:=dF.1 hx;exact Dh r (by have:=(h2 r hr).1;omega) λy hy=>by have:=(h2 r hr).2 y hy;omega
  rw[bf]at this;unfold Pl.Up;omega
def azh(c:aw):∃t,wj c=ai t/\ae t<=100:=by
 have rh:∀l:ah (ah ay),(∀x,x∈l->ae x<=100)->ae l<=100->∃t,GS c l=ai t/\ae t<=100:=λl hl aWO=>by by_cases h:0<=c/\c<(ae l:aw);(·(have h1:c.toNat<ae l:=by omega);(have e:adX c (ae l:aw)=ai aB:=by rw[TS,aQ (cF (show c>=0 from h.1)),cF h.2]);rw[KU,e];simp only[ag,aV,ar,aJ,cF h.1,aK,aE h1];exact⟨_,rfl,hl _ (bH h1)⟩);·(have e:adX c (ae l:aw)=ai aA:=by rw[TS];split;(·rename_i h2;(have h2:c>=0:=by simpa using h2);rw[wh (by omega)]);·rfl);rw[KU,e];exact⟨[],rfl,by simp⟩
 have:∃l:ah (ah ay),wj c=af (GS c l) (λx=>ai x)/\(∀x,x∈l->ae x<=100)/\ae l<=100:=by refine⟨_,Sa c,?_,?_⟩<;>decide
 obtain⟨l,e0,h1,h2⟩:=this;obtain⟨t,e,ht⟩:=rh l h1 h2;exact⟨t,by rw[e0,e];rfl,ht⟩
def aip:∀(k:ax) (v:ah (ah aw)) (i:ax),i+k=ae v->ae v<=1048576->(∀x,x∈v->ae x<=1048576)->sO v (ae v) i (v.take i)=ai v
 |0,v,i,hk,hl,hx=>by
  have:i=ae v:=by omega
  subst this;rw[Kc,aP (by simp)];simp[bM]
 |k+1,v,i,hk,hl,hx=>by
  have h:i<ae v:=by omega
  have dE:(i:aw)<(ae v:aw):=by omega
  have hc:=ID v[i] (by have:=hx _ (bH h);omega);have fm:ae (v.take i)+1<lim:=by rw[ez,cO];omega
  rw[Kc];simp only[dE,aF,aK,aN,aH,aE h,ag,hc,fm,bc,bM,bF,eD (show i<4611686018427387904 by omega)];have e:v.take i++ [v[i]]=v.take (i+1):=by rw[WL,aE h];rfl
  rw[e];exact aip k v (i+1) (by omega) hl hx
def aur(d:cM.ty)(s:RU d):HI d=ai d:=by
 obtain⟨s1,s2,s3,s4,s5,s6,s7,s8⟩:=s;have c:=aip (ae d.2.2.1) d.2.2.1 0 (by omega) s3.1 s3.2;have k:∀n:ax,n<=1048576->(ao ((0:aw)<=(n:aw))&&ao ((n:aw).toNat<lim))=aB/\ao (0+n<lim)=aB:=λn hn=>by rw[ez];simp;omega
 rw[agp,OC,SA,agq,Sx,Sy,QH,QI,GR];have c:sO d.2.2.1 (ae (α:=ah aw) d.2.2.1) 0 []=ai d.2.2.1:=c;simp only[(k _ s1.1).1,(k _ s1.1).2,(k _ s2.1).1,(k _ s2.1).2,(k _ s4.1).1,(k _ s4.1).2,(k _ s5.1).1,(k _ s5.1).2,(k _ s6.1).1,(k _ s6.1).2,(k _ s7.1).1,(k _ s7.1).2,(k _ s8.1).1,(k _ s8.1).2,aK,ag,cJ,bc,bM,bF,c]
def aja(ls:ah (ah ay)):ah ay:=ls.flatMap λl=>l++ [10]
def auB:∀{ls:ah (ah ay)},(∀l,l∈ls->ae l<=1000000)->ae (aja ls)<=1000001*ae ls
 | [],_=>by simp[aja]
 |l::ls,h=>by have h1:=h l (by simp);have h2:=auB (ls:=ls) λx hx=>h x (bm _ hx);simp only[aja,cr,bg,bl,bQ]at h2⊢;omega
def ama(v:ah (ah ay))(hv:xC v):∀(k i:ax) (a:ah ay),i+k=ae v->ae a<=1000001*i->uK a v (ae v) i=ai (a++aja (v.drop i))
 |0,i,a,hk,ha=>by rw[F5,aP (by simp;omega),br (by omega)];simp[aja]
 |k+1,i,a,hk,ha=>by
  have hi:i<ae v:=by omega
  have dE:(i:aw)<(ae v:aw):=by omega
  have h1:=hv.1;have h2:=hv.2 _ (bH hi);rw[F5];simp only[dE,aF,aK,aN,aH,aE hi,ag,eD (show i<4611686018427387904 by omega)];rw[aQ (by simp[cQ];omega),aQ (by simp[cQ];omega),ama v hv k (i+1) _ (by omega) (by simp;omega),ba hi];simp only[aja,cr,df]
def aDN{v:ah (ah ay)}(hv:xC v):Jy v=ai (aja v)/\ae (aja v)<=1000001000:=by refine⟨?_,by have:=auB hv.2;have:=hv.1;omega⟩;rw[abD];exact ama v hv (ae v) 0 [] (by omega) (by simp)
noncomputable def aLe:cM.ty:=([],[],[[30,32],[31,33]],1300,1950,60,110,[],[],[],[],[],())
def aHL:lN aLe=aB:=by unfold aLe;decide
namespace Tx
def aAO(c:aw):Q5 c=wj c:=by
 rw[aht,Sa,cY,ag];by_cases h:0<=c/\c<=11
 .rw[ck.2 h];obtain⟨k,rfl⟩:∃k:ax,c=k:=⟨c.toNat,by omega⟩;have h2:(k:aw)<12:=by omega
  rw[TY k _ (by show k<12;omega)];simp only[aV,ar,aJ,aN,h2,aF,bw,aK,aH,ag];rw[aE (by show k<12;omega)];rfl
 .have hr:fS c 0 11=aA:=by cases q:fS c 0 11;(·rfl);·exact bG (ck.1 q) h
  have e:∀l:ah (ah ay),ae l=12->GS c l=ai []:=λl hl=>by(have ea:adX c (ae l:aw)=ai aA:=by rw[TS,hl];split;(·rename_i h2;(have h2:c>=0:=by simpa using h2);rw[wh (by omega)]);·rfl);rw[KU,ea];rfl
  rw[e _ rfl,hr];rfl
noncomputable def aG4(c:aw):ah ay:=[101,114,114,111,114,32]++(wj c).getD []
noncomputable def ays(c:aw):ah (ah ay):=if c=0 then [[111,107]]else [aG4 c]
def Na(c:aw):lx c=ai (ays c):=by
 obtain⟨t,e,ht⟩:=azh c;rw[aos,aAO,e];unfold ays aG4;by_cases h:c=0;·rw[aQ (by simpa using h),aQ h]
 .rw[aP (by simpa using h),aP h,ag,aQ (by simp[cQ];omega),e];rfl
def Y4{α β:Type}{id:α->ah ay}{xs:ah α}(hl:ae xs<=1000)(P:aw->ah (ah ay)->aq β)(fin:ah (ah ay)->aq β) (e:∀v r,P v r=if ao (v<(ae xs:aw))then if ao (0<=v)&&ao (v<(ae xs:aw))then af (xs[v.toNat]?) λy=>if ao (ae r+1<lim)then P (aj ak (v+1)) ((tk r)++ [id y])else au else au else fin r):P 0 []=fin (xs.map id):=by
 have loop:∀(k i:ax),i+k=ae xs->P i ((xs.take i).map id)=fin (xs.map id):=by intro k;induction k with|zero=>intro i hi;rw[e,aP (by simp;omega),cH (by omega)]|succ k ih=>intro i hi;(have tT:i<ae xs:=by omega);(have dE:(i:aw)<(ae xs:aw):=by omega);(have fm:ae ((xs.take i).map id)+1<lim:=by rw[ez,bf,cO];omega);have ih:=ih (i+1) (by omega);rw[jo tT,dP]at ih;rw[e];simp only[dE,aF,aK,aN,bw,aH,aE tT,ag,fm,bM,eD (show i<4611686018427387904 by omega)];exact ih
 exact loop (ae xs) 0 (by omega)
def aas(u:ah ay)(f:cM.ty->ah ay->aq (aW×aw×cM.ty)):Prop:=∀d s,lN d=aB->ae s<=400->∃ok c d',f d s=ai (ok,c,d')/\(c=0->lN d'=aB)/\∃l dS,vk d u s=ai (l,ok,dS)/\(ok=aB->l=ays c)/\(ok=aB->c=0->dS=d')/\(¬(ok=aB/\c=0)->dS=d)
def aqN{α:Type}{xs:ah α}(x:α){j:ax}(hl:ae xs<=1000)(h1:j<=ae xs):(j:aw)<=(ae xs:aw)/\0+ae (xs.take j)<lim/\ae (xs.take j)+1<lim/\ae (xs.take j++ [x])+ae (xs.drop j)<lim/\(xs.drop j).take (ae xs-j)=xs.drop j:=by rw[ez];exact⟨by omega,by simp;omega,by simp;omega,by simp;omega,cH (by simp)⟩
def aBF{d:cM.ty}{x:aZ.ty}{ys:ah aZ.ty}{c:aw}(hl:ae (α:=aZ.ty) d.1<=1000)(h:Gw (α:=aZ.ty) d.1 (λy=>y.1) x 12 ys c):Rm d x=ai (c,if c=0 then(ys,d.2.1,d.2.2.1,d.2.2.2.1,d.2.2.2.2.1,d.2.2.2.2.2.1,d.2.2.2.2.2.2.1,d.2.2.2.2.2.2.2.1,d.2.2.2.2.2.2.2.2.1,d.2.2.2.2.2.2.2.2.2.1,d.2.2.2.2.2.2.2.2.2.2.1,d.2.2.2.2.2.2.2.2.2.2.2.1,())else d):=by
 obtain⟨-,-,a,e,hj⟩:=h;have g:=Y4 (id:=λy:aZ.ty=>y.1) hl (λv r=>Ac v d x r) _ (λv r=>aai v d x r);rw[ahV];refine g.trans ?_;simp only[bM];rw[e,ag];by_cases hc:c=0;·subst hc;obtain⟨j,h1,rfl,rfl⟩:=hj rfl;obtain⟨wi,l1,l2,l3,hv⟩:=aqN x hl h1;simp only[eB,aK,aN,wi,aF,bw,aH,l1,cJ,bc,l2,Jd,hv,l3]
 .rw[aP (by simpa using hc),aP hc,bF]
def aHX{d:cM.ty}{x:be.ty}{ys:ah be.ty}{c:aw}(hl:ae (α:=be.ty) d.2.1<=1000)(h:Gw (α:=be.ty) d.2.1 (λy=>y.1) x 8 ys c):Yz d x=ai (c,if c=0 then(d.1,ys,d.2.2.1,d.2.2.2.1,d.2.2.2.2.1,d.2.2.2.2.2.1,d.2.2.2.2.2.2.1,d.2.2.2.2.2.2.2.1,d.2.2.2.2.2.2.2.2.1,d.2.2.2.2.2.2.2.2.2.1,d.2.2.2.2.2.2.2.2.2.2.1,d.2.2.2.2.2.2.2.2.2.2.2.1,())else d):=by
 obtain⟨-,-,a,e,hj⟩:=h;have g:=Y4 (id:=λy:be.ty=>y.1) hl (λv r=>Fv v d x r) _ (λv r=>afw v d x r);rw[aor];refine g.trans ?_;simp only[bM];rw[e,ag];by_cases hc:c=0;·subst hc;obtain⟨j,h1,rfl,rfl⟩:=hj rfl;obtain⟨wi,l1,l2,l3,hv⟩:=aqN x hl h1;simp only[eB,aK,aN,wi,aF,bw,aH,l1,cJ,bc,l2,Jd,hv,l3]
 .rw[aP (by simpa using hc),aP hc,bF]
def aHV{d:cM.ty}{x:aZ.ty}{ys:ah aZ.ty}{c:aw}(hl:ae (α:=aZ.ty) d.2.2.2.2.2.2.2.1<=1000)(h:Gw (α:=aZ.ty) d.2.2.2.2.2.2.2.1 (λy=>y.1) x 8 ys c):Yx d x=ai (c,if c=0 then(d.1,d.2.1,d.2.2.1,d.2.2.2.1,d.2.2.2.2.1,d.2.2.2.2.2.1,d.2.2.2.2.2.2.1,ys,d.2.2.2.2.2.2.2.2.1,d.2.2.2.2.2.2.2.2.2.1,d.2.2.2.2.2.2.2.2.2.2.1,d.2.2.2.2.2.2.2.2.2.2.2.1,())else d):=by
 obtain⟨-,-,a,e,hj⟩:=h;have g:=Y4 (id:=λy:aZ.ty=>y.1) hl (λv r=>Ft v d x r) _ (λv r=>afu v d x r);rw[aop];refine g.trans ?_;simp only[bM];rw[e,ag];by_cases hc:c=0;·subst hc;obtain⟨j,h1,rfl,rfl⟩:=hj rfl;obtain⟨wi,l1,l2,l3,hv⟩:=aqN x hl h1;simp only[eB,aK,aN,wi,aF,bw,aH,l1,cJ,bc,l2,Jd,hv,l3]
 .rw[aP (by simpa using hc),aP hc,bF]
def aHW{d:cM.ty}{x:cx.ty}{ys:ah cx.ty}{c:aw}(hl:ae (α:=cx.ty) d.2.2.2.2.2.2.2.2.1<=1000)(h:Gw (α:=cx.ty) d.2.2.2.2.2.2.2.2.1 (λy=>y.1) x 8 ys c):Yy d x=ai (c,if c=0 then(d.1,d.2.1,d.2.2.1,d.2.2.2.1,d.2.2.2.2.1,d.2.2.2.2.2.1,d.2.2.2.2.2.2.1,d.2.2.2.2.2.2.2.1,ys,d.2.2.2.2.2.2.2.2.2.1,d.2.2.2.2.2.2.2.2.2.2.1,d.2.2.2.2.2.2.2.2.2.2.2.1,())else d):=by
 obtain⟨-,-,a,e,hj⟩:=h;have g:=Y4 (id:=λy:cx.ty=>y.1) hl (λv r=>Fu v d x r) _ (λv r=>afv v d x r);rw[aoq];refine g.trans ?_;simp only[bM];rw[e,ag];by_cases hc:c=0;·subst hc;obtain⟨j,h1,rfl,rfl⟩:=hj rfl;obtain⟨wi,l1,l2,l3,hv⟩:=aqN x hl h1;simp only[eB,aK,aN,wi,aF,bw,aH,l1,cJ,bc,l2,Jd,hv,l3]
 .rw[aP (by simpa using hc),aP hc,bF]
def aFc{d:cM.ty}{x:be.ty}{ys:ah be.ty}{c:aw}(hl:ae (α:=be.ty) d.2.2.2.2.2.2.2.2.2.1<=1000)(h:Gw (α:=be.ty) d.2.2.2.2.2.2.2.2.2.1 (λy=>y.1) x 10 ys c):UR d x=ai (c,if c=0 then(d.1,d.2.1,d.2.2.1,d.2.2.2.1,d.2.2.2.2.1,d.2.2.2.2.2.1,d.2.2.2.2.2.2.1,d.2.2.2.2.2.2.2.1,d.2.2.2.2.2.2.2.2.1,ys,d.2.2.2.2.2.2.2.2.2.2.1,d.2.2.2.2.2.2.2.2.2.2.2.1,())else d):=by
 obtain⟨-,-,a,e,hj⟩:=h;have g:=Y4 (id:=λy:be.ty=>y.1) hl (λv r=>Co v d x r) _ (λv r=>acr v d x r);rw[alg];refine g.trans ?_;simp only[bM];rw[e,ag];by_cases hc:c=0;·subst hc;obtain⟨j,h1,rfl,rfl⟩:=hj rfl;obtain⟨wi,l1,l2,l3,hv⟩:=aqN x hl h1;simp only[eB,aK,aN,wi,aF,bw,aH,l1,cJ,bc,l2,Jd,hv,l3]
 .rw[aP (by simpa using hc),aP hc,bF]
def aFd{d:cM.ty}{x:aZ.ty}{ys:ah aZ.ty}{c:aw}(hl:ae (α:=aZ.ty) d.2.2.2.2.2.2.2.2.2.2.1<=1000)(h:Gw (α:=aZ.ty) d.2.2.2.2.2.2.2.2.2.2.1 (λy=>y.1) x 8 ys c):UT d x=ai (c,if c=0 then(d.1,d.2.1,d.2.2.1,d.2.2.2.1,d.2.2.2.2.1,d.2.2.2.2.2.1,d.2.2.2.2.2.2.1,d.2.2.2.2.2.2.2.1,d.2.2.2.2.2.2.2.2.1,d.2.2.2.2.2.2.2.2.2.1,ys,d.2.2.2.2.2.2.2.2.2.2.2.1,())else d):=by
 obtain⟨-,-,a,e,hj⟩:=h;have g:=Y4 (id:=λy:aZ.ty=>y.1) hl (λv r=>Cq v d x r) _ (λv r=>acw v d x r);rw[alh];refine g.trans ?_;simp only[bM];rw[e,ag];by_cases hc:c=0;·subst hc;obtain⟨j,h1,rfl,rfl⟩:=hj rfl;obtain⟨wi,l1,l2,l3,hv⟩:=aqN x hl h1;simp only[eB,aK,aN,wi,aF,bw,aH,l1,cJ,bc,l2,Jd,hv,l3]
 .rw[aP (by simpa using hc),aP hc,bF]
def awe:aas dl TZ:=λd s h hs=>by obtain⟨x,ok,e,hx⟩:=apP s (by omega);obtain⟨h1,h2,h3,h4,h5,h6,h7,h8,h9⟩:=dq.1 h;have es:Lb s=ai (x,ok):=(Sp.ayu s (by omega)).trans e;rw[ajp,e,jl];rw[aQ (show((dl:ah ay)==dl)=aB by decide)];rw[es];cases ok with|false=>simp only[ag,bZ,aK,ar,aJ,bF,bM];exact⟨_,_,_,rfl,λ_=>h,_,_,rfl,λh=>(by cases h),λh=>(by cases h),λ_=>rfl⟩|true=>obtain⟨ys,c,q1,q2,q3⟩:=avL h1 (hx rfl);have hl:=h1;simp only[nT,az,aG]at hl;have q1:fG _ x _ _=_:=q1;simp only[ag,aV,ar,aJ,aK,aF,q1,bM,bF];rw[aBF (by omega) q3];simp only[ag,Na];exact⟨_,_,_,rfl,λhc=>dq.2 ⟨q2 hc,h2,h3,h4,h5,h6,h7,h8,h9⟩,_,_,rfl,λ_=>rfl,λ_ hc=>aQ hc,λhc=>aP λq=>hc ⟨rfl,q⟩⟩
def aB1:aas d7 T0:=λd s h hs=>by obtain⟨x,ok,e,hx⟩:=avQ s (by omega);obtain⟨h1,h2,h3,h4,h5,h6,h7,h8,h9⟩:=dq.1 h;have es:Lc s=ai (x,ok):=(Sp.aFj s (by omega)).trans e;rw[ajq,e,jl];rw[aP (show¬((d7:ah ay)==dl)=aB by decide),aQ (show((d7:ah ay)==d7)=aB by decide)];rw[es];cases ok with|false=>simp only[ag,bZ,aK,ar,aJ,bF,bM];exact⟨_,_,_,rfl,λ_=>h,_,_,rfl,λh=>(by cases h),λh=>(by cases h),λ_=>rfl⟩|true=>obtain⟨ys,c,q1,q2,q3⟩:=aBE h2 (hx rfl);have hl:=h2;simp only[rq,az,aG]at hl;have q1:fW _ x _ _=_:=q1;simp only[ag,aV,ar,aJ,aK,aF,q1,bM,bF];rw[aHX (by omega) q3];simp only[ag,Na];exact⟨_,_,_,rfl,λhc=>dq.2 ⟨h1,q2 hc,h3,h4,h5,h6,h7,h8,h9⟩,_,_,rfl,λ_=>rfl,λ_ hc=>aQ hc,λhc=>aP λq=>hc ⟨rfl,q⟩⟩
def aBZ:aas d8 T4:=λd s h hs=>by obtain⟨x,ok,e,hx⟩:=avO s (by omega);obtain⟨h1,h2,h3,h4,h5,h6,h7,h8,h9⟩:=dq.1 h;have es:Lj s=ai (x,ok):=(Sp.aE6 s (by omega)).trans e;rw[ajt,e,jl];rw[aP (show¬((d8:ah ay)==dl)=aB by decide),aP (show¬((d8:ah ay)==d7)=aB by decide),aP (show¬((d8:ah ay)==d9)=aB by decide),aP (show¬((d8:ah ay)==eq)=aB by decide),aQ (show((d8:ah ay)==d8)=aB by decide)];rw[es];cases ok with|false=>simp only[ag,bZ,aK,ar,aJ,bF,bM];exact⟨_,_,_,rfl,λ_=>h,_,_,rfl,λh=>(by cases h),λh=>(by cases h),λ_=>rfl⟩|true=>obtain⟨ys,c,q1,q2,q3⟩:=aBC h5 (hx rfl);have hl:=h5;simp only[CP,az,aG]at hl;have q1:fU _ x _ _=_:=q1;simp only[ag,aV,ar,aJ,aK,aF,q1,bM,bF];rw[aHV (by omega) q3];simp only[ag,Na];exact⟨_,_,_,rfl,λhc=>dq.2 ⟨h1,h2,h3,h4,q2 hc,h6,h7,h8,h9⟩,_,_,rfl,λ_=>rfl,λ_ hc=>aQ hc,λhc=>aP λq=>hc ⟨rfl,q⟩⟩
def aB0:aas f8 T5:=λd s h hs=>by obtain⟨x,ok,e,hx⟩:=avP s (by omega);obtain⟨h1,h2,h3,h4,h5,h6,h7,h8,h9⟩:=dq.1 h;have es:Lk s=ai (x,ok):=(Sp.aE9 s (by omega)).trans e;rw[aju,e,jl];rw[aP (show¬((f8:ah ay)==dl)=aB by decide),aP (show¬((f8:ah ay)==d7)=aB by decide),aP (show¬((f8:ah ay)==d9)=aB by decide),aP (show¬((f8:ah ay)==eq)=aB by decide),aP (show¬((f8:ah ay)==d8)=aB by decide),wa,bF,aQ (show((f8:ah ay)==f8)=aB by decide)];rw[es];cases ok with|false=>simp only[ag,bZ,aK,ar,aJ,bF,bM];exact⟨_,_,_,rfl,λ_=>h,_,_,rfl,λh=>(by cases h),λh=>(by cases h),λ_=>rfl⟩|true=>obtain⟨ys,c,q1,q2,q3⟩:=aBD h6 (hx rfl);have hl:=h6;simp only[rp,az,aG]at hl;have q1:fV _ x _ _=_:=q1;simp only[ag,aV,ar,aJ,aK,aF,q1,bM,bF];rw[aHW (by omega) q3];simp only[ag,Na];exact⟨_,_,_,rfl,λhc=>dq.2 ⟨h1,h2,h3,h4,h5,q2 hc,h7,h8,h9⟩,_,_,rfl,λ_=>rfl,λ_ hc=>aQ hc,λhc=>aP λq=>hc ⟨rfl,q⟩⟩
def ayz:aas f9 T6:=λd s h hs=>by obtain⟨x,ok,e,hx⟩:=asZ s (by omega);obtain⟨h1,h2,h3,h4,h5,h6,h7,h8,h9⟩:=dq.1 h;have es:Ll s=ai (x,ok):=(Sp.aBr s (by omega)).trans e;rw[ajv,e,jl];rw[aP (show¬((f9:ah ay)==dl)=aB by decide),aP (show¬((f9:ah ay)==d7)=aB by decide),aP (show¬((f9:ah ay)==d9)=aB by decide),aP (show¬((f9:ah ay)==eq)=aB by decide),aP (show¬((f9:ah ay)==d8)=aB by decide),wa,bF,aP (show¬((f9:ah ay)==f8)=aB by decide),aQ (show((f9:ah ay)==f9)=aB by decide)];rw[es];cases ok with|false=>simp only[ag,bZ,aK,ar,aJ,bF,bM];exact⟨_,_,_,rfl,λ_=>h,_,_,rfl,λh=>(by cases h),λh=>(by cases h),λ_=>rfl⟩|true=>obtain⟨ys,c,q1,q2,q3⟩:=ayi h7 (hx rfl);have hl:=h7;simp only[ku,az,aG]at hl;have q1:fK _ x _ _=_:=q1;simp only[ag,aV,ar,aJ,aK,aF,q1,bM,bF];rw[aFc (by omega) q3];simp only[ag,Na];exact⟨_,_,_,rfl,λhc=>dq.2 ⟨h1,h2,h3,h4,h5,h6,q2 hc,h8,h9⟩,_,_,rfl,λ_=>rfl,λ_ hc=>aQ hc,λhc=>aP λq=>hc ⟨rfl,q⟩⟩
def ayA:aas gt T7:=λd s h hs=>by obtain⟨x,ok,e,hx⟩:=as2 s (by omega);obtain⟨h1,h2,h3,h4,h5,h6,h7,h8,h9⟩:=dq.1 h;have es:Lm s=ai (x,ok):=(Sp.aCn s (by omega)).trans e;rw[ajw,e,jl];rw[aP (show¬((gt:ah ay)==dl)=aB by decide),aP (show¬((gt:ah ay)==d7)=aB by decide),aP (show¬((gt:ah ay)==d9)=aB by decide),aP (show¬((gt:ah ay)==eq)=aB by decide),aP (show¬((gt:ah ay)==d8)=aB by decide),wa,bF,aP (show¬((gt:ah ay)==f8)=aB by decide),aP (show¬((gt:ah ay)==f9)=aB by decide),aQ (show((gt:ah ay)==gt)=aB by decide)];rw[es];cases ok with|false=>simp only[ag,bZ,aK,ar,aJ,bF,bM];exact⟨_,_,_,rfl,λ_=>h,_,_,rfl,λh=>(by cases h),λh=>(by cases h),λ_=>rfl⟩|true=>obtain⟨ys,c,q1,q2,q3⟩:=ayj h8 (hx rfl);have hl:=h8;simp only[mz,az,aG]at hl;have q1:fL _ x _ _=_:=q1;simp only[ag,aV,ar,aJ,aK,aF,q1,bM,bF];rw[aFd (by omega) q3];simp only[ag,Na];exact⟨_,_,_,rfl,λhc=>dq.2 ⟨h1,h2,h3,h4,h5,h6,h7,q2 hc,h9⟩,_,_,rfl,λ_=>rfl,λ_ hc=>aQ hc,λhc=>aP λq=>hc ⟨rfl,q⟩⟩
def awg:aas d9 T1:=λd s h hs=>by obtain⟨x,ok,e,hx⟩:=apO s (by omega);obtain⟨h1,h2,h3,h4,h5,h6,h7,h8,h9⟩:=dq.1 h;have es:Ld s=ai (x,ok):=(Sp.ayd s (by omega)).trans e;rw[ajr,e,jl];rw[aP (show¬((d9:ah ay)==dl)=aB by decide),aP (show¬((d9:ah ay)==d7)=aB by decide),aQ (show((d9:ah ay)==d9)=aB by decide)];rw[es];cases ok with|false=>simp only[ag,ar,aJ,bF,atP];exact⟨_,_,_,rfl,λ_=>h,_,_,rfl,λh=>(by cases h),λh=>(by cases h),λ_=>rfl⟩|true=>simp only[ag,aK,bM,Ag];exact⟨_,_,_,rfl,λ_=>dq.2 ⟨h1,h2,hx rfl,h4,h5,h6,h7,h8,h9⟩,_,_,rfl,λ_=>rfl,λ_ _=>rfl,λhc=>bG ⟨rfl,rfl⟩ hc⟩
def ayB:aas eq T3:=λd s h hs=>by obtain⟨x,ok,e,hx⟩:=as1 s (by omega);obtain⟨h1,h2,h3,h4,h5,h6,h7,h8,h9⟩:=dq.1 h;have es:Lf s=ai (x,ok):=(Sp.aBs s (by omega)).trans e;rw[ajs,e,jl];rw[aP (show¬((eq:ah ay)==dl)=aB by decide),aP (show¬((eq:ah ay)==d7)=aB by decide),aP (show¬((eq:ah ay)==d9)=aB by decide),aQ (show((eq:ah ay)==eq)=aB by decide)];rw[es];cases ok with|false=>simp only[ag,ar,aJ,bF,atP];exact⟨_,_,_,rfl,λ_=>h,_,_,rfl,λh=>(by cases h),λh=>(by cases h),λ_=>rfl⟩|true=>simp only[ag,aK,bM,Ag];exact⟨_,_,_,rfl,λ_=>dq.2 ⟨h1,h2,h3,hx rfl,h5,h6,h7,h8,h9⟩,_,_,rfl,λ_=>rfl,λ_ _=>rfl,λhc=>bG ⟨rfl,rfl⟩ hc⟩
def awf:aas ii T8:=λd s h hs=>by obtain⟨x,ok,e,hx⟩:=apN s (by omega);obtain⟨h1,h2,h3,h4,h5,h6,h7,h8,h9⟩:=dq.1 h;have es:Ln s=ai (x,ok):=(Sp.ax9 s (by omega)).trans e;rw[ajx,e,jl];rw[aP (show¬((ii:ah ay)==dl)=aB by decide),aP (show¬((ii:ah ay)==d7)=aB by decide),aP (show¬((ii:ah ay)==d9)=aB by decide),aP (show¬((ii:ah ay)==eq)=aB by decide),aP (show¬((ii:ah ay)==d8)=aB by decide),wa,bF,aP (show¬((ii:ah ay)==f8)=aB by decide),aP (show¬((ii:ah ay)==f9)=aB by decide),aP (show¬((ii:ah ay)==gt)=aB by decide),aQ (show((ii:ah ay)==ii)=aB by decide)];rw[es];cases ok with|false=>simp only[ag,bZ,aK,ar,bF,atP,aJ,bM];exact⟨_,_,_,rfl,λ_=>h,_,_,rfl,λh=>(by cases h),λh=>(by cases h),λ_=>rfl⟩|true=>have g:=Pa.azr (hx rfl);obtain⟨k1,k2⟩:=aeS h9;have hs:Pa.ay7 x:=⟨by have:=A5 g.i;omega,by have:=A5 g.k;omega⟩;obtain⟨l,c,q1,q2⟩:=Pa.aKb k1 k2 hs;have q3:=(Pa.add_same k1 k2 hs).trans q1;simp only[ag,aV,ar,aJ,q1,q3,bM,bF,acs,Na,Ag];by_cases c0:c=0;(·subst c0;simp only[eB,aK,ag];exact⟨_,_,_,rfl,λ_=>dq.2 ⟨h1,h2,h3,h4,h5,h6,h7,h8,by(rcases q2 with q|q);(·exact bG rfl q.1);·exact Pa.CO.2 q.2.2.1⟩,_,_,rfl,λ_=>rfl,λ_ _=>rfl,λhc=>bG ⟨rfl,rfl⟩ hc⟩);·(have c1:(c==0)=aA:=by simpa using c0);simp only[c1,ar,aJ,ag];exact⟨_,_,_,rfl,λhc=>bG hc c0,_,_,rfl,λ_=>rfl,λ_ hc=>bG hc c0,λ_=>rfl⟩
def aIj(d:cM.ty)(u s:ah ay)(h:∀p,p∈cP.tt->p.1≠u):vk d u s=ai ([],aA,d):=by
 simp only[cP,bP,iT,FG,forall_eq_or_imp,forall_eq]at h;obtain⟨n1,n2,n3,n4,n5,n6,n7,n8,n9⟩:=h;have ne:∀{v:ah ay},v≠u->(u==v)=aA:=λq=>by rw[nc];exactλe=>q e.symm
 rw[jl];simp only[ne n1,ne n2,ne n3,ne n4,ne n5,ar,aJ,bF,wa,ne n6,ne n7,ne n8,ne n9,ag,bM]
def aB2:∀p,p∈cP.tt->aas p.1 p.2:=λp hp=>by
 simp only[cP,bP,iT,FG]at hp;rcases hp with rfl|rfl|rfl|rfl|rfl|rfl|rfl|rfl|rfl
 .exact awe
 .exact aB1
 .exact awg
 .exact ayB
 .exact aBZ
 .exact aB0
 .exact ayz
 .exact ayA
 .exact awf
end Tx
namespace Tx
def ars(ls:ah (ah ay)):ah (ah ay):=if ls=[]then [md]else ls.map λl=>if l=[]then md else l
noncomputable def ahf(ls:ah (ah ay))(c:aw):ah (ah ay):=if c=0 then ars ls else [aG4 c]
def Y8{ls:ah (ah ay)}(h:xC ls)(c:aw):lu ls c=ai (ahf ls c):=by
 have h1:=h.1;rw[Yw];unfold ahf;by_cases hc:c=0
 .subst hc;rw[aP (by decide),aQ rfl];unfold ars;by_cases h0:ls=[];·subst h0;rfl
  .have hp:=U9.2 h0;rw[aP (by simp;omega),aP h0];(have loop:∀(k i:ax),i+k=ae ls->yP ls i ((ls.take i).map λl=>if l=[]then md else l)=ai (ls.map λl=>if l=[]then md else l):=by intro k;induction k with|zero=>intro i hi;rw[Qg,aP (by simp;omega),bM,cH (by omega)]|succ k ih=>intro i hi;(have tT:i<ae ls:=by omega);(have dE:(i:aw)<(ae ls:aw):=by omega);(have fm:ae ((ls.take i).map λl=>if l=[]then md else l)+1<lim:=by rw[ez,bf,cO];omega);have ih:=ih (i+1) (by omega);rw[jo tT,dP]at ih;rw[Qg];simp only[dE,aF,aK,aN,aH,bY tT,ag,fm,bM,eD (show i<4611686018427387904 by omega)];by_cases e:ls[i]=[];(·rw[aQ (by simpa using e)];simp only[aY,gJ,e,aK]at ih;exact ih);·rw[aP (by simpa using e)];simp only[aY,gJ,e,aJ]at ih;exact ih);exact loop (ae ls) 0 (by omega)
 .rw[aQ (by simpa using hc),aP hc,Na,ag,bM];unfold ays;rw[aP hc]
def aBU{ls:ah (ah ay)}(h:xC ls):abF ls=ai (ars ls):=by
 have h1:=h.1;rw[apz];unfold ars;by_cases h0:ls=[];·subst h0;rfl
 .have hp:=U9.2 h0;rw[aP (by simp;omega),aP h0];have loop:∀(k i:ax),i+k=ae ls->A3 ls (ae ls) i ((ls.take i).map λl=>if l=[]then md else l)=ai (ls.map λl=>if l=[]then md else l):=by intro k;induction k with|zero=>intro i hi;rw[SI,aP (by simp;omega),bM,cH (by omega)]|succ k ih=>intro i hi;(have tT:i<ae ls:=by omega);(have dE:(i:aw)<(ae ls:aw):=by omega);(have fm:ae ((ls.take i).map λl=>if l=[]then md else l)+1<lim:=by rw[ez,bf,cO];omega);have ih:=ih (i+1) (by omega);rw[jo tT,dP]at ih;rw[SI];simp only[dE,aF,aK,aN,aH,bY tT,ag,fm,bM,eD (show i<4611686018427387904 by omega)];by_cases e:ls[i]=[];(·rw[aQ (by simpa using e)];simp only[aY,gJ,e,aK]at ih;exact ih);·rw[aP (by simpa using e)];simp only[aY,gJ,e,aJ]at ih;exact ih
  exact loop (ae ls) 0 (by omega)
def SL{l:ah aw}(h:V4 l)(c:aw):kP l c=ai (ahf [XA l] c):=by rw[alf,Li.az7 l h.1 h.2,ag,Y8 (M2 h),ag,bM]
def aeg{n:aw}(h: -1000000000000<=n/\n<=1000000000000)(c:aw):kQ n c=ai (ahf [bT n] c):=by rw[afs,kj n (by omega),ag,Y8 (aeO h),ag,bM]
def A7:ah (ah ay)->aq (ah aw) | []=>ai [] |w::ws=>if(cW w).2=aB then(A7 ws).map λns=>(cW w).1::ns else au
def wq:∀{ws:ah (ah ay)} {ns:ah aw},A7 ws=ai ns->ae ns=ae ws
 | [],ns,h=>by cases h;rfl
 |w::ws,ns,h=>by
  rw[A7]at h;split at h;·obtain⟨r,hr,rfl⟩:=aM.1 h;rw[bl,bl,wq hr]
  .cases h
def EF:∀(ks:ah ay) (ws:ah (ah ay)) (a:yW.ty),(∀k,k∈ks->k=78)->ae ks=ae ws->ae (α:=aw) a.1+ae ws<=1000->rdL dG ks ws a=ai ((A7 ws).map λns=>(a.1++ns,a.2))
 | [],[],a,_,_,_=>by simp[rdL,A7]
 |k::ks,w::ws,a,hk,hl,hb=>by
  have h78:=hk k (by simp);subst h78;rw[bl]at hb;have fm:ae (α:=aw) a.1+1<lim:=by rw[ez];omega
  rw[rdL,nW,aQ (by decide),kT,A7];simp only[ag,fm,aF,aK,bM,bc];split;·have ih:=EF ks ws (List.append (α:=aw) a.1 [(cW w).1],a.2) (λk h=>hk k (bm _ h)) (by simpa using hl) (by simp;omega);refine ih.trans ?_;cases A7 ws with|none=>rfl|some ns=>simp
  .rfl
def aq7(w:ah (ah ay))(hw:∀x,x∈w->ae x<=400)(hl:ae w<=1000)(d:cM.ty):∀(k i:ax) (jx:ah aw),i+k=ae w->ae jx<=i->
 cK w i d jx=(match A7 (w.drop i)with|none=>ai ([],aA,d)|some ns=>cK w (ae w) d (jx++ns))
 |0,i,jx,hk,ha=>by
  have:i=ae w:=by omega
  subst this;rw[ac4];simp[A7]
 |k+1,i,jx,hk,ha=>by
  have hi:i<ae w:=by omega
  have dE:(i:aw)<(ae w:aw):=by omega
  have fm:ae jx+1<lim:=by rw[ez];omega
  rw[eF,drop_cons hi,A7]
  simp only[dE,aF,aK,aN,aH,bY hi,ag,fm,bM,bF,eD (show i<4611686018427387904 by omega),Nu.G9 w[i] (by have:=hw _ (bH hi);omega)]
  cases(cW w[i]).2
  .simp only[bZ,aK,ar,aJ]
  .simp only[aV,ar,aJ,aK]
   rw[aq7 w hw hl d k (i+1) _ (by omega) (by simp;omega)]
   cases A7 (w.drop (i+1))with
   |none=>rfl
   |some ns=>simp
def skip{α:Type}{u v:ah ay}{n k:aw}{A N:α}(h:u=v->n≠k):(if(u==v)=aB then(if(n==k)=aB then A else N)else N)=N:=by
 by_cases e:u=v;·rw[aQ (by simpa using e),aP (by simpa using h e)]
 .rw[aP (by simpa using e)]
def nd{a b:ah ay}{p:Prop}(h:(a==b)=aA:=by rfl):a=b->p:=λe=>by subst e;simp at h
def sk{α:Type}(u v:ah ay){n k:aw}{A N:α}(h:(u==v)=aA:=by rfl):(if(u==v)=aB then(if(n==k)=aB then A else N)else N)=N:=skip (nd h)
def aHN{u:ah ay}{ws:ah (ah ay)}{d:cM.ty}{ns:ah aw}(h0:u=am->(ae ns:aw)≠3)(h1:u=ap->(ae ns:aw)≠2)(h2:u=bi->(ae ns:aw)≠2)(h3:u=bv->(ae ns:aw)≠2)(h4:u=ce->(ae ns:aw)≠1)(h5:u=ci->(ae ns:aw)≠1)(h6:u=co->(ae ns:aw)≠1)(h7:u=dg->(ae ns:aw)≠1):cK (u::ws) (ae (u::ws):ax) d ns=ai ([],aA,d):=by rw[eF,aP (by simp),aD,ag,skip h0,gw,aD,ag,skip h1,iL,aD,ag,skip h2,jL,aD,ag,skip h3,lJ,aD,ag,skip h4,pM,aD,ag,skip h5,wR,aD,ag,skip h6,Gm,aD,ag,skip h7,bF]
def aHO(ws:ah (ah ay))(d:cM.ty)(x y z:aw):cK (am::ws) (ae (am::ws:ah (ah ay)):ax) d [x,y,z]=af (K8 d.2.1 x y z) λf=>af (kP f.1 f.2.2) λl=>ai (l,aB,d):=by rw[eF,aP (by simp),aD,ag,aQ (by decide),aQ (by rfl)];simp only[bl,bQ,aD,bp,ag,bM,bF,gx];rfl
def aEX(ws:ah (ah ay))(d:cM.ty)(x y:aw):cK (ap::ws) (ae (ap::ws:ah (ah ay)):ax) d [x,y]=af (EM d.2.2.1 x y) λc=>if(c.2==0)=aB then af (po c.1) λt=>af (lu [t] c.2) λl=>ai (l,aB,(d.1,d.2.1,c.1,d.2.2.2))else af (po c.1) λt=>af (lu [t] c.2) λl=>ai (l,aB,d):=by rw[eF,aP (by simp),aD,ag,sk ap am,gw,aD,ag,aQ (by decide),aQ (by rfl)];simp only[bl,bQ,aD,bp,ag,bM,bF,gx];rfl
def aET(ws:ah (ah ay))(d:cM.ty)(x y:aw):cK (bi::ws) (ae (bi::ws:ah (ah ay)):ax) d [x,y]=af (yF d.2.2.1 x y) λf=>af (kQ f.1 f.2) λl=>ai (l,aB,d):=by rw[eF,aP (by simp),aD,ag,sk bi am,gw,aD,ag,sk bi ap,iL,aD,ag,aQ (by decide),aQ (by rfl)];simp only[bl,bQ,aD,bp,ag,bM,bF,gx];rfl
def aEW(ws:ah (ah ay))(d:cM.ty)(x y:aw):cK (bv::ws) (ae (bv::ws:ah (ah ay)):ax) d [x,y]=af (K9 (d.2.2.2.1,d.2.2.2.2.1,d.2.2.2.2.2.1,d.2.2.2.2.2.2.1,()) x y) λf=>af (kQ f.1 f.2) λl=>ai (l,aB,d):=by rw[eF,aP (by simp),aD,ag,sk bv am,gw,aD,ag,sk bv ap,iL,aD,ag,sk bv bi,jL,aD,ag,aQ (by decide),aQ (by rfl)];simp only[bl,bQ,aD,bp,ag,bM,bF,gx];rfl
def aEV(ws:ah (ah ay))(d:cM.ty)(x:aw):cK (ce::ws) (ae (ce::ws:ah (ah ay)):ax) d [x]=af (P6 x) λf=>af (HR f.1) λt=>af (lu [t] f.2.2) λl=>ai (l,aB,d):=by rw[eF,aP (by simp),aD,ag,sk ce am,gw,aD,ag,sk ce ap,iL,aD,ag,sk ce bi,jL,aD,ag,sk ce bv,lJ,aD,ag,aQ (by decide),aQ (by rfl)];simp only[bl,bQ,aD,bp,ag,bM,bF,gx];rfl
def aEY(ws:ah (ah ay))(d:cM.ty)(x:aw):cK (ci::ws) (ae (ci::ws:ah (ah ay)):ax) d [x]=af (EN d.2.2.2.2.2.2.2.2.2.1 x) λf=>af (kP f.1 f.2) λl=>ai (l,aB,d):=by rw[eF,aP (by simp),aD,ag,sk ci am,gw,aD,ag,sk ci ap,iL,aD,ag,sk ci bi,jL,aD,ag,sk ci bv,lJ,aD,ag,sk ci ce,pM,aD,ag,aQ (by decide),aQ (by rfl)];simp only[bl,bQ,aD,bp,ag,bM,bF,gx];rfl
def avt(ws:ah (ah ay))(d:cM.ty)(x:aw):cK (co::ws) (ae (co::ws:ah (ah ay)):ax) d [x]=af (uW d.2.2.2.2.2.2.2.2.2.2.1 x) λf=>af (kQ f.1 f.2) λl=>ai (l,aB,d):=by rw[eF,aP (by simp),aD,ag,sk co am,gw,aD,ag,sk co ap,iL,aD,ag,sk co bi,jL,aD,ag,sk co bv,lJ,aD,ag,sk co ce,pM,aD,ag,sk co ci,wR,aD,ag,aQ (by decide),aQ (by rfl)];simp only[bl,bQ,aD,bp,ag,bM,bF,gx];rfl
def aBx(ws:ah (ah ay))(d:cM.ty)(x:aw):cK (dg::ws) (ae (dg::ws:ah (ah ay)):ax) d [x]=af (zN d.2.2.2.2.2.2.2.2.2.2.2.1 x) λf=>af (kP f.1 f.2.2) λl=>ai (l,aB,d):=by rw[eF,aP (by simp),aD,ag,sk dg am,gw,aD,ag,sk dg ap,iL,aD,ag,sk dg bi,jL,aD,ag,sk dg bv,lJ,aD,ag,sk dg ce,pM,aD,ag,sk dg ci,wR,aD,ag,sk dg co,Gm,aD,ag,aQ (by decide),aQ (by rfl)];simp only[bl,bQ,aD,bp,ag,bM,bF,gx];rfl
def Aj{u:ah ay}{ws:ah (ah ay)}{d:cM.ty}(h0:u=lw->(ae (u::ws):aw)≠4)(h1:u=m8->(ae (u::ws):aw)≠3)(h2:u=mt->(ae (u::ws):aw)≠3)(h3:u=lm->(ae (u::ws):aw)≠3):mx d (u::ws)=qc d (u::ws):=by
 have e:Ae (u::ws) d=qc d (u::ws):=by rw[aak,bF];cases qc d (u::ws)with|none=>rfl|some r=>simp only[ag,bM,bF]
 rw[tL,aD,ag,skip h0,si,aD,ag];have g:(if(u==mt)=aB then(if((ae (u::ws):aw)==3)=aB then Ad (u::ws) d else lY (u::ws) d)else lY (u::ws) d)=lY (u::ws) d:=skip h2;rw[ag,g,skip h1,KE,aD,ag,skip h3,e]
noncomputable def nN(d:cM.ty)(u:ah ay)(ws:ah (ah ay)):aq (ah (ah ay)×aW×cM.ty):=if ws=[]then mw d u else mx d (u::ws)
def WH(u ks:ah ay)(f:cM.ty->da.ty->aq (ah (ah ay)×aw×cM.ty)):Prop:=∀d ws,lN d=aB->(∀w,w∈ws->ae w<=400)->ae ws<=900->ae u<=400->(ae ws≠ae ks->∃l,nN d u ws=ai (l,aA,d))/\ (ae ws=ae ks->(rdL dG ks ws ([],[],0,[],())=ai au/\∃l,nN d u ws=ai (l,aA,d))\/∃a ls c d',rdL dG ks ws ([],[],0,[],())=ai (ai a)/\f d a=ai (ls,c,d')/\(c=0->xC ls/\lN d'=aB)/\nN d u ws=ai (ahf ls c,aB,if c=0 then d' else d))
def uP{u:ah ay}{ws:ah (ah ay)}{d:cM.ty}(hw:∀w,w∈u::ws->ae w<=400)(hl:ae ws<=900):qc d (u::ws)=(match A7 ws with|none=>ai ([],aA,d)|some ns=>cK (u::ws) (ae (u::ws):ax) d ns):=by rw[acu];have:=aq7 (u::ws) hw (by simp;omega) d (ae ws) 1 [] (by simp;omega) (by simp);rw[show((1:ax):aw)=1 from rfl]at this;rw[this];rfl
def aDy{d:cM.ty}{u:ah ay}(h0:u≠ ip)(h1:u≠ jp)(h2:u≠ kw)(h3:u≠ li):mw d u=ai ([],aA,d):=by
 have ne:∀{v:ah ay},u≠v->(u==v)=aA:=λq=>by rw[nc];exact q
 rw[tK];simp only[ne h0,ne h1,ne h2,ne h3,ar,aJ,bF]
def pH{u:ah ay}{ws:ah (ah ay)}{d:cM.ty}(hu:ae u<=400)(hw:∀w,w∈ws->ae w<=400)(hl:ae ws<=900)(ha:ws=[]->u≠ ip/\u≠ jp/\u≠ kw/\u≠ li) (k0:u=lw->ae ws≠3) (k1:u=m8->ae ws≠2) (k2:u=mt->ae ws≠2) (k3:u=lm->ae ws≠2) (n0:u=am->ae ws≠3) (n1:u=ap->ae ws≠2) (n2:u=bi->ae ws≠2) (n3:u=bv->ae ws≠2) (n4:u=ce->ae ws≠1) (n5:u=ci->ae ws≠1) (n6:u=co->ae ws≠1) (n7:u=dg->ae ws≠1):∃l,nN d u ws=ai (l,aA,d):=by
 unfold nN;by_cases h:ws=[];·rw[aQ h,aDy (ha h).1 (ha h).2.1 (ha h).2.2.1 (ha h).2.2.2];exact⟨_,rfl⟩
 .have L:(ae (u::ws):aw)=(ae ws:aw)+1:=by simp
  rw[aP h,Aj (λe=>by rw[L];have:=k0 e;omega) (λe=>by rw[L];have:=k1 e;omega) (λe=>by rw[L];have:=k2 e;omega) (λe=>by rw[L];have:=k3 e;omega),uP (λw hm=>(bP.1 hm).elim (λe=>e▸hu) (hw w)) hl];cases hn:A7 ws with|none=>exact⟨_,rfl⟩|some ns=>have Gy:=wq hn;exact⟨_,aHN (λe=>by have:=n0 e;omega) (λe=>by have:=n1 e;omega) (λe=>by have:=n2 e;omega) (λe=>by have:=n3 e;omega) (λe=>by have:=n4 e;omega) (λe=>by have:=n5 e;omega) (λe=>by have:=n6 e;omega) (λe=>by have:=n7 e;omega)⟩
def aDm:WH am [78,78,78] (qV QA):=λd ws hd hw hl hu=>by
 refine⟨λiS=>pH hu hw hl (λ_=>by decide) nd nd nd nd (λ_=>iS) nd nd nd nd nd nd nd,λAY=> ?_⟩;have hws:ws≠ []:=λe=>by rw[e]at AY;simp at AY
 have hr:nN d am ws=_:=(aP hws).trans ((Aj nd nd nd nd).trans (uP (λw hm=>(bP.1 hm).elim (λe=>e▸hu) (hw w)) hl));have hi:=EF [78,78,78] ws ([],[],0,[],()) (by simp) AY.symm (by simp;omega);cases hn:A7 ws with|none=>rw[hn]at hi hr;exact .inl ⟨hi,_,hr⟩|some ns=>have Gy:=wq hn;rw[AY]at Gy;(obtain⟨x,y,z,rfl⟩:∃x y z:aw,ns=[x,y,z]:=by match ns,Gy with| [x,y,z],_=>exact⟨x,y,z,rfl⟩);rw[hn]at hi hr;have hr:nN d am ws=cK (am::ws) (ae (am::ws:ah (ah ay)):ax) d [x,y,z]:=hr;have hi:rdL dG [78,78,78] ws ([],[],0,[],())=ai (ai ([x,y,z],[],0,[],())):=hi;rw[aHO]at hr;obtain⟨p,m,e,q1,q2,hl8,hb,-⟩:=Cu.aDI d.2.1 x y z (aH6 hd);have hk:V4 p:=⟨by omega,λy hy=>by have:=hb y hy;omega⟩;rw[q2,ag,SL hk,ag]at hr;refine .inr ⟨_,[XA p],e,d,hi,?_,λ_=>⟨M2 hk,hd⟩,by rw[hr,ra]⟩;rw[qV,agd];simp only[aD,bp,ag,q1,Dg hk,bM];rfl
def aAB:WH bi [78,78] (qV Mi):=λd ws hd hw hl hu=>by
 refine⟨λiS=>pH hu hw hl (λ_=>by decide) nd nd nd nd nd nd (λ_=>iS) nd nd nd nd nd,λAY=> ?_⟩;have hws:ws≠ []:=λe=>by rw[e]at AY;simp at AY
 have hr:nN d bi ws=_:=(aP hws).trans ((Aj nd nd nd nd).trans (uP (λw hm=>(bP.1 hm).elim (λe=>e▸hu) (hw w)) hl));have hi:=EF [78,78] ws ([],[],0,[],()) (by simp) AY.symm (by simp;omega);cases hn:A7 ws with|none=>rw[hn]at hi hr;exact .inl ⟨hi,_,hr⟩|some ns=>have Gy:=wq hn;rw[AY]at Gy;(obtain⟨x,y,rfl⟩:∃x y:aw,ns=[x,y]:=by match ns,Gy with| [x,y],_=>exact⟨x,y,rfl⟩);rw[hn]at hi hr;have hr:nN d bi ws=cK (bi::ws) (ae (bi::ws:ah (ah ay)):ax) d [x,y]:=hr;have hi:rdL dG [78,78] ws ([],[],0,[],())=ai (ai ([x,y],[],0,[],())):=hi;rw[aET]at hr;obtain⟨v,e,hk,q1⟩:=aFM hd x y;have q2:=(Pl.aBq d.2.2.1 (dq.1 hd).2.2.1 x y).trans q1;rw[q2,ag,aeg hk,ag]at hr;refine .inr ⟨_,[bT v],e,d,hi,?_,λ_=>⟨aeO hk,hd⟩,by rw[hr,ra]⟩;rw[qV,adE];simp only[aD,bp,ag,q1,A6 hk,bM];rfl
def aAE:WH bv [78,78] (qV Mm):=λd ws hd hw hl hu=>by
 refine⟨λiS=>pH hu hw hl (λ_=>by decide) nd nd nd nd nd nd nd (λ_=>iS) nd nd nd nd,λAY=> ?_⟩;have hws:ws≠ []:=λe=>by rw[e]at AY;simp at AY
 have hr:nN d bv ws=_:=(aP hws).trans ((Aj nd nd nd nd).trans (uP (λw hm=>(bP.1 hm).elim (λe=>e▸hu) (hw w)) hl));have hi:=EF [78,78] ws ([],[],0,[],()) (by simp) AY.symm (by simp;omega);cases hn:A7 ws with|none=>rw[hn]at hi hr;exact .inl ⟨hi,_,hr⟩|some ns=>have Gy:=wq hn;rw[AY]at Gy;(obtain⟨x,y,rfl⟩:∃x y:aw,ns=[x,y]:=by match ns,Gy with| [x,y],_=>exact⟨x,y,rfl⟩);rw[hn]at hi hr;have hr:nN d bv ws=cK (bv::ws) (ae (bv::ws:ah (ah ay)):ax) d [x,y]:=hr;have hi:rdL dG [78,78] ws ([],[],0,[],())=ai (ai ([x,y],[],0,[],())):=hi;rw[aEW]at hr;obtain⟨v,e,hk,q1⟩:=aFP hd x y;have q2:=(Sh.same _ (dq.1 hd).2.2.2.1 x y).trans q1;rw[q2,ag,aeg hk,ag]at hr;refine .inr ⟨_,[bT v],e,d,hi,?_,λ_=>⟨aeO hk,hd⟩,by rw[hr,ra]⟩;rw[qV,adH];simp only[aD,bp,ag,q1,A6 hk,bM];rfl
def aAH:WH ci [78] (qV Mp):=λd ws hd hw hl hu=>by
 refine⟨λiS=>pH hu hw hl (λ_=>by decide) nd nd nd nd nd nd nd nd nd (λ_=>iS) nd nd,λAY=> ?_⟩;have hws:ws≠ []:=λe=>by rw[e]at AY;simp at AY
 have hr:nN d ci ws=_:=(aP hws).trans ((Aj nd nd nd nd).trans (uP (λw hm=>(bP.1 hm).elim (λe=>e▸hu) (hw w)) hl));have hi:=EF [78] ws ([],[],0,[],()) (by simp) AY.symm (by simp;omega);cases hn:A7 ws with|none=>rw[hn]at hi hr;exact .inl ⟨hi,_,hr⟩|some ns=>have Gy:=wq hn;rw[AY]at Gy;(obtain⟨x,rfl⟩:∃x:aw,ns=[x]:=by match ns,Gy with| [x],_=>exact⟨x,rfl⟩);rw[hn]at hi hr;have hr:nN d ci ws=cK (ci::ws) (ae (ci::ws:ah (ah ay)):ax) d [x]:=hr;have hi:rdL dG [78] ws ([],[],0,[],())=ai (ai ([x],[],0,[],())):=hi;rw[aEY]at hr;obtain⟨p,e,hk,q1,q2⟩:=Wo.aCm _ x (aEK hd);rw[q2,ag,SL hk,ag]at hr;refine .inr ⟨_,[XA p],e,d,hi,?_,λ_=>⟨M2 hk,hd⟩,by rw[hr,ra]⟩;rw[qV,adK];simp only[aD,bp,ag,q1,Dg hk,bM];rfl
def ar1:WH co [78] (qV DU):=λd ws hd hw hl hu=>by
 refine⟨λiS=>pH hu hw hl (λ_=>by decide) nd nd nd nd nd nd nd nd nd nd (λ_=>iS) nd,λAY=> ?_⟩;have hws:ws≠ []:=λe=>by rw[e]at AY;simp at AY
 have hr:nN d co ws=_:=(aP hws).trans ((Aj nd nd nd nd).trans (uP (λw hm=>(bP.1 hm).elim (λe=>e▸hu) (hw w)) hl));have hi:=EF [78] ws ([],[],0,[],()) (by simp) AY.symm (by simp;omega);cases hn:A7 ws with|none=>rw[hn]at hi hr;exact .inl ⟨hi,_,hr⟩|some ns=>have Gy:=wq hn;rw[AY]at Gy;(obtain⟨x,rfl⟩:∃x:aw,ns=[x]:=by match ns,Gy with| [x],_=>exact⟨x,rfl⟩);rw[hn]at hi hr;have hr:nN d co ws=cK (co::ws) (ae (co::ws:ah (ah ay)):ax) d [x]:=hr;have hi:rdL dG [78] ws ([],[],0,[],())=ai (ai ([x],[],0,[],())):=hi;rw[avt]at hr;obtain⟨v,e,hk,q1,q2⟩:=Be.ar5 _ x (aGg hd) (dq.1 hd).2.2.2.2.2.2.2.1;rw[q2,ag,aeg hk,ag]at hr;refine .inr ⟨_,[bT v],e,d,hi,?_,λ_=>⟨aeO hk,hd⟩,by rw[hr,ra]⟩;rw[qV,W4];simp only[aD,bp,ag,q1,A6 hk,bM];rfl
def aw9:WH dg [78] (qV Jq):=λd ws hd hw hl hu=>by
 refine⟨λiS=>pH hu hw hl (λ_=>by decide) nd nd nd nd nd nd nd nd nd nd nd (λ_=>iS),λAY=> ?_⟩;have hws:ws≠ []:=λe=>by rw[e]at AY;simp at AY
 have hr:nN d dg ws=_:=(aP hws).trans ((Aj nd nd nd nd).trans (uP (λw hm=>(bP.1 hm).elim (λe=>e▸hu) (hw w)) hl));have hi:=EF [78] ws ([],[],0,[],()) (by simp) AY.symm (by simp;omega);cases hn:A7 ws with|none=>rw[hn]at hi hr;exact .inl ⟨hi,_,hr⟩|some ns=>have Gy:=wq hn;rw[AY]at Gy;(obtain⟨x,rfl⟩:∃x:aw,ns=[x]:=by match ns,Gy with| [x],_=>exact⟨x,rfl⟩);rw[hn]at hi hr;have hr:nN d dg ws=cK (dg::ws) (ae (dg::ws:ah (ah ay)):ax) d [x]:=hr;have hi:rdL dG [78] ws ([],[],0,[],())=ai (ai ([x],[],0,[],())):=hi;rw[aBx]at hr;obtain⟨k1,k2⟩:=aeS (dq.1 hd).2.2.2.2.2.2.2.2;obtain⟨p,m,e,⟨hl8,hb⟩,q1,q2⟩:=Pa.ayI k1 k2 x;have hk:V4 p:=⟨by omega,λy hy=>by have:=hb y hy;omega⟩;rw[q2,ag,SL hk,ag]at hr;refine .inr ⟨_,[XA p],e,d,hi,?_,λ_=>⟨M2 hk,hd⟩,by rw[hr,ra]⟩;rw[qV,abp];simp only[aD,bp,ag,q1,Dg hk,bM];rfl
end Tx
namespace Tx
def aEP{a b c d:aw}(h:AG (a,b,c,d,())=aB): -1000000000000<=a/\a<=1000000000000:=by simp only[AG,fS,az,aG]at h;omega
def ai9(x:cM.ty)(h:RU x):∃(ps:ah (ah ay)) (c:aw),xC ps/\BX x=ai (ps,c)/\Jo x=ai (ps,c):=by
 rw[ab7,abn,aoo x h,Pg x h];simp only[ag];by_cases hk:lN x=aB
 .have aNY:AG (x.2.2.2.1,x.2.2.2.2.1,x.2.2.2.2.2.1,x.2.2.2.2.2.2.1,())=aB:=by simp only[lN,az]at hk;exact hk.2.2.2.1
  have hst:=aEP aNY;obtain⟨h1,h2,h3,h4,h5,h6,h7,h8⟩:=h;simp only[hk,aV,ar,aJ];have e5:ao ([(115:ax),116,111,112,32].length+ae (bT x.2.2.2.1)<=cQ)=aB:=by have:=o7 x.2.2.2.1 hst;rw[jM];simp only[bl,bQ,aG];omega
  rw[xH _ _ (by decide) (by have:=h1.1;omega),xH _ _ (by decide) (by have:=h2.1;omega),xH _ _ (by decide) (by have:=h3.1;omega),ic _ (by omega),
   xH _ _ (by decide) (by have:=h4.1;omega),xH _ _ (by decide) (by have:=h5.1;omega),xH _ _ (by decide) (by have:=h6.1;omega),xH _ _ (by decide) (by have:=h7.1;omega),xH _ _ (by decide) (by have:=h8.1;omega)]
  simp only[ag,e5,aK];have hwl:∀s,s∈([[115,116,97,99,107,115],[114,105,98,115],[114,111,119,115],[115,116,111,112],[112,101,103,115],[112,111,116,115],[109,111,100,101,115],[119,111,114,107,115],[112,97,112,101,114,115]]:ah (ah ay))->ae s<=100:=by decide
  have Gy:∀n,n∈([(ae (α:=aZ.ty) x.1:aw),(ae (α:=be.ty) x.2.1:aw),(ae (α:=ah aw) x.2.2.1:aw),x.2.2.2.1,(ae (α:=aZ.ty) x.2.2.2.2.2.2.2.1:aw),(ae (α:=cx.ty) x.2.2.2.2.2.2.2.2.1:aw),(ae (α:=be.ty) x.2.2.2.2.2.2.2.2.2.1:aw),(ae (α:=aZ.ty) x.2.2.2.2.2.2.2.2.2.2.1:aw),(ae (α:=aR.ty) x.2.2.2.2.2.2.2.2.2.2.2.1:aw)]:ah aw)-> -1000000000000<=n/\n<=1000000000000:=by intro n hn;have:=h1.1;have:=h2.1;have:=h3.1;have:=h4.1;have:=h5.1;have:=h6.1;have:=h7.1;have:=h8.1;simp only[bP,iT,FG]at hn;rcases hn with rfl|rfl|rfl|rfl|rfl|rfl|rfl|rfl|rfl<;>omega
  have q:=Vd _ _ hwl Gy rfl (by decide) 9 0 [] rfl rfl;refine⟨_,0,⟨by show(9:ax)<=1000;decide,λl hm=> ?_⟩,q,rfl⟩;rw[cJ]at hm;obtain⟨p,hp,rfl⟩:=dF.1 hm;have hz:=List.of_mem_zip (dk (show(p.1,p.2)∈_ from hp));have l1:=hwl p.1 hz.1;have l2:=o7 p.2 (Gy p.2 hz.2);unfold al9;simp only[bg,bl,bQ];omega
 .have hk':lN x=aA:=by simpa using hk
  simp only[hk',bZ,aK];exact⟨[],1,⟨by simp,λ_ h=>by cases h⟩,rfl,rfl⟩
def aBw(x:aw):P6 x=xP x:=by
 rw[an4,Ms,VW,MK,cY];simp only[ag];cases h:fS x 1000 100000;·simp only[bZ,aK]
 have hx:=ck.1 h;simp only[aV,ar,aJ];have aNi:∀k:ax,k<=60->Dq (aj ak (nt k-x))=qZ (nt k) x:=λk hk=>by have hb:=aq5 k hk;rw[fp (by omega) (by omega),Wo.ay8 _ (by omega),zo _ _ (by omega) (by omega)]
 have loop:∀(k b c:ax),b+k=61->c<=60->yE x c b=mF x c b:=by intro k;induction k with|zero=>intro b c hb hc;rw[P7,qm,aP (by simp;omega),aP (by simp;omega),sg c hc,kh c hc]|succ k ih=>intro b c hb hc;(have h1:(b:aw)<=60:=by omega);(have h2:(b:aw)<61:=by omega);rw[P7,qm];simp only[h1,h2,aF,aK,sg b (by omega),kh b (by omega),sg c hc,kh c hc,ag,aNi b (by omega),aNi c hc,eD (show b<4611686018427387904 by omega),ih (b+1) b (by omega) (by omega),ih (b+1) c (by omega) hc]
 have e:mF x 0 0=mF x 0 1:=by obtain⟨v,hv⟩:∃v,qZ (nt 0) x=ai v:=⟨_,SE _ _⟩;have t0:q7 0=ai (nt 0):=kh 0 (by omega);(have w1:aj ak (0+1)=1:=by decide);rw[qm];simp only[show(0:aw)<61 by decide,aF,aK,t0,ag,hv,aMy,aX,ar,aJ,w1]
 rw[e];exact loop 60 1 0 (by omega) (by omega)
def aAC:WH ce [78] (qV Mj):=λd ws hd hw hl hu=>by
 refine⟨λiS=>pH hu hw hl (λ_=>by decide) nd nd nd nd nd nd nd nd (λ_=>iS) nd nd nd,λAY=> ?_⟩;have hws:ws≠ []:=λe=>by rw[e]at AY;simp at AY
 have hr:nN d ce ws=_:=(aP hws).trans ((Aj nd nd nd nd).trans (uP (λw hm=>(bP.1 hm).elim (λe=>e▸hu) (hw w)) hl));have hi:=EF [78] ws ([],[],0,[],()) (by simp) AY.symm (by simp;omega);cases hn:A7 ws with|none=>rw[hn]at hi hr;exact .inl ⟨hi,_,hr⟩|some ns=>have Gy:=wq hn;rw[AY]at Gy;(obtain⟨x,rfl⟩:∃x:aw,ns=[x]:=by match ns,Gy with| [x],_=>exact⟨x,rfl⟩);rw[hn]at hi hr;have hr:nN d ce ws=cK (ce::ws) (ae (ce::ws:ah (ah ay)):ax) d [x]:=hr;have hi:rdL dG [78] ws ([],[],0,[],())=ai (ai ([x],[],0,[],())):=hi;rw[aEV]at hr;obtain⟨k,e0,v,t,hk,q1,q2,ht⟩:=aFN x;have hot:xC [t]:=⟨by simp,λl hm=>by rw[aT.1 hm];exact ht⟩;rw[aBw,q1,ag,No.same,q2,ag,Y8 hot,ag]at hr;refine .inr ⟨_,[t],e0,d,hi,?_,λ_=>⟨hot,hd⟩,by rw[hr,ra]⟩;rw[qV,adF];simp only[aD,ag,q1,q2,IJ,bM];rfl
def aAG:WH ap [78,78] (Mo):=λd ws hd hw hl hu=>by
 refine⟨λiS=>pH hu hw hl (λ_=>by decide) nd nd nd nd nd (λ_=>iS) nd nd nd nd nd nd,λAY=> ?_⟩;have hws:ws≠ []:=λe=>by rw[e]at AY;simp at AY
 have hr:nN d ap ws=_:=(aP hws).trans ((Aj nd nd nd nd).trans (uP (λw hm=>(bP.1 hm).elim (λe=>e▸hu) (hw w)) hl));have hi:=EF [78,78] ws ([],[],0,[],()) (by simp) AY.symm (by simp;omega);cases hn:A7 ws with|none=>rw[hn]at hi hr;exact .inl ⟨hi,_,hr⟩|some ns=>have Gy:=wq hn;rw[AY]at Gy;(obtain⟨x,y,rfl⟩:∃x y:aw,ns=[x,y]:=by match ns,Gy with| [x,y],_=>exact⟨x,y,rfl⟩);rw[hn]at hi hr;have hr:nN d ap ws=cK (ap::ws) (ae (ap::ws:ah (ah ay)):ax) d [x,y]:=hr;have hi:rdL dG [78,78] ws ([],[],0,[],())=ai (ai ([x,y],[],0,[],())):=hi;rw[aEX]at hr;have h3:=(dq.1 hd).2.2.1;(have e0:po []=ai []:=by rw[P9,ou [] (by simp) (λ_ h=>by cases h)];rfl);(have e1:oV []=ai []:=by rw[O7,eG [] (by simp) (λ_ h=>by cases h)];rfl);(have val:∃p c t,(c=0->eh p=aB)/\Ea d.2.2.1 x y=ai (p,c)/\oV p=ai t/\po p=ai t/\ae t<=1000000:=by have sz:=Pl.yz h3;by_cases b1:fS x 0 200=aB;(·by_cases b2:fS y 1 200=aB;(·have q:=Pl.Vv d.2.2.1 h3 x y (ck.1 b1) (ck.1 b2);have hp:=Pl.aFy (ck.1 b1) (ck.1 b2) h3;obtain⟨t1,t2⟩:=aye hp;exact⟨_,_,_,λ_=>hp,q,t1,(Pl.aB3 _ hp).trans t1,t2⟩);·refine⟨[],2,[],λh=>(by cases h),?_,e1,e0,by simp⟩;rw[BI,eG _ sz.1 sz.2,h3,Pl.KR,Pl.JB,b1,show fS y 1 200=aA by simpa using b2];rfl);·refine⟨[],2,[],λh=>(by cases h),?_,e1,e0,by simp⟩;rw[BI,eG _ sz.1 sz.2,h3,Pl.KR,show fS x 0 200=aA by simpa using b1];rfl);obtain⟨p,c,t,hp,q1,q2,q3,ht⟩:=val;have hot:xC [t]:=⟨by simp,λl hm=>by rw[aT.1 hm];exact ht⟩;rw[(Pl.aB4 d.2.2.1 h3 x y).trans q1]at hr;simp only[ag,q3,Y8 hot]at hr;refine .inr ⟨_,[t],c,if c=0 then(d.1,d.2.1,p,d.2.2.2)else d,hi,?_,λhc=>⟨hot,by obtain⟨h1,h2,-,h4⟩:=dq.1 hd;rw[aQ hc];exact dq.2 ⟨h1,h2,hp hc,h4⟩⟩,?_⟩;(·rw[adJ];simp only[aD,bp,ag,q1,W7,q2,IJ,bM,bF,cS];split<;>rfl);·rw[hr];by_cases hc:c=0;(·rw[aQ (by simpa using hc),aQ hc,aQ hc]);·rw[aP (by simpa using hc),aP hc]
def h68:(((68:ay).toNat:aw)==78)=aA:=rfl
def aQW:(((68:ay).toNat:aw)==76)=aA:=rfl
def aNr:(((68:ay).toNat:aw)==68)=aB:=rfl
def h78:(((78:ay).toNat:aw)==78)=aB:=rfl
def h76:(((76:ay).toNat:aw)==78)=aA:=rfl
def aQX:(((76:ay).toNat:aw)==76)=aB:=rfl
def m1:0+1<lim:=by rw[ez];decide
def m3(v:aw):ae (pR (0+1) [v])+1<lim:=by rw[ez];simp
def dr3{ws:ah (ah ay)}(h:ae ws=3):∃a b c,ws=[a,b,c]:=by match ws,h with| [a,b,c],_=>exact⟨a,b,c,rfl⟩
def dr2{ws:ah (ah ay)}(h:ae ws=2):∃a b,ws=[a,b]:=by match ws,h with| [a,b],_=>exact⟨a,b,rfl⟩
def aDn:WH lw [78,68,78] (qV QB):=λd ws hd hw hl hu=>by
 refine⟨λiS=>pH hu hw hl (λ_=>by decide) (λ_=>iS) nd nd nd nd nd nd nd nd nd nd nd,λAY=> ?_⟩;obtain⟨w1,w2,w3,rfl⟩:=dr3 AY;have l1:=hw w1 (by simp);have l2:=hw w2 (by simp);have l3:=hw w3 (by simp);obtain⟨LA,k2,q2,-⟩:=EH w2 (by omega);have fm:∀a:yW.ty,ae (α:=aw) a.1<=5->ae (α:=aw) a.1+1<lim:=λa h=>by rw[ez];omega
 have hi:rdL dG [78,68,78] [w1,w2,w3] ([],[],0,[],())=ai (if(cW w1).2=aB then(if k2=aB then(if(cW w3).2=aB then ai ([(cW w1).1,(cW w3).1],[],LA,[],())else au)else au)else au):=by simp only[rdL,nW,h78,h68,aQW,aNr,aK,ar,aJ,kT,ag,q2,bQ,bl,m1,m3,aF,bM,cJ,bc,Am];cases(cW w1).2;(·simp only[ar,aJ]);cases k2;(·simp only[ar,aJ,aK]);cases(cW w3).2;(·simp only[ar,aJ,aK]);·simp only[aK];rfl
 have hr:nN d lw [w1,w2,w3]=mx d [lw,w1,w2,w3]:=aP (by simp);rw[tL,aD,ag,aQ (by decide),aQ (by rfl)]at hr;simp only[bp,aD,ag,Nu.G9 w1 (by omega),Nu.G9 w3 (by omega),(Da.aqw w2 (by omega)).trans q2,bF,aaj,bM]at hr;cases d1:(cW w1).2;·rw[d1]at hi hr;exact .inl ⟨hi,_,hr⟩
 cases k2;·rw[d1]at hi hr;exact .inl ⟨hi,_,hr⟩
 cases d3:(cW w3).2;·rw[d1,d3]at hi hr;exact .inl ⟨hi,_,hr⟩
 rw[d1,d3]at hi hr;have h1:=(dq.1 hd).1;have h12:=h1;simp only[nT,az,aG]at h12;obtain⟨l,c,hk,q1,q3⟩:=Ry.ayl d.1 h1 (by omega) (Ta hd).1.2 (cW w1).1 LA (cW w3).1;simp only[aV,ar,aJ,q3,ag,SL hk]at hr;refine .inr ⟨_,[XA l],c,d,hi,?_,λ_=>⟨M2 hk,hd⟩,by rw[hr,ra]⟩;rw[qV,age];simp only[aD,bp,ag,q1,Dg hk,bM];rfl
def aOH{w1 w2:ah ay}{l:ah aw}{k1:aW}(r1:eE w1=ai (l,k1)):rdL dG [76,78] [w1,w2] ([],[],0,[],())=ai (if k1=aB then(if(cW w2).2=aB then ai ([(cW w2).1],l,0,[],())else au)else au):=by
 simp only[rdL,nW,h78,h76,aQX,aK,ar,aJ,kT,ag,r1,bQ,m1,aF,bM,cJ,bc];cases k1;·simp only[ar,aJ]
 cases(cW w2).2;·simp only[ar,aJ,aK]
 .simp only[aK]
def aDo:WH m8 [76,78] (qV QC):=λd ws hd hw hl hu=>by
 refine⟨λiS=>pH hu hw hl (λ_=>by decide) nd (λ_=>iS) nd nd nd nd nd nd nd nd nd nd,λAY=> ?_⟩;obtain⟨w1,w2,rfl⟩:=dr2 AY;have l1:=hw w1 (by simp);have l2:=hw w2 (by simp);obtain⟨l,k1,r1,hn⟩:=ju w1 (by omega);have hi:=aOH (w2:=w2) r1;have hr:nN d m8 [w1,w2]=mx d [m8,w1,w2]:=aP (by simp);rw[tL,aD,ag,sk m8 lw,si,aD,ag,aQ (by decide),aQ (by rfl)]at hr;simp only[KD,bp,aD,ag,Nu.G9 w2 (by omega),(Sp.GY w1 (by omega)).trans r1,bF,bM]at hr;cases k1;·exact .inl ⟨hi,_,hr⟩
 cases d2:(cW w2).2;·rw[d2]at hi hr;exact .inl ⟨hi,_,hr⟩
 rw[d2]at hi hr;obtain⟨g,e,hb,q3,q1⟩:=Fi.asj d.2.2.2.2.2.2.2.1 l (cW w2).1 (Ta hd).2.2.2.1.1 (Ta hd).2.2.2.1.2 (by have:=hn.1;omega);have hk:V4 g:=⟨by have:=hb.1;omega,λy hy=>by have:=hb.2 y hy;omega⟩;simp only[aV,ar,aJ]at hr;rw[KF,aD,ag,aQ (by decide)]at hr;simp only[bM,bF,q3,ag,SL hk]at hr;refine .inr ⟨_,[XA g],e,d,hi,?_,λ_=>⟨M2 hk,hd⟩,by rw[hr,ra]⟩;rw[qV,agf];simp only[aD,ag,q1,Dg hk,bM];rfl
def aAz:WH mt [76,78] (qV Mg):=λd ws hd hw hl hu=>by
 refine⟨λiS=>pH hu hw hl (λ_=>by decide) nd nd (λ_=>iS) nd nd nd nd nd nd nd nd nd,λAY=> ?_⟩;obtain⟨w1,w2,rfl⟩:=dr2 AY;have l1:=hw w1 (by simp);have l2:=hw w2 (by simp);obtain⟨l,k1,r1,hn⟩:=ju w1 (by omega);have hi:=aOH (w2:=w2) r1;have hr:nN d mt [w1,w2]=mx d [mt,w1,w2]:=aP (by simp);rw[tL,aD,ag,sk mt lw,si,aD,ag,aP (by decide),ag,aQ (by decide),aQ (by rfl)]at hr;simp only[KD,bp,aD,ag,Nu.G9 w2 (by omega),(Sp.GY w1 (by omega)).trans r1,bF,bM]at hr;cases k1;·exact .inl ⟨hi,_,hr⟩
 cases d2:(cW w2).2;·rw[d2]at hi hr;exact .inl ⟨hi,_,hr⟩
 rw[d2]at hi hr;obtain⟨g,s,e,q1,q3,hb,-⟩:=Gl.aA5 d.2.2.2.2.2.2.2.2.1 l (cW w2).1 (aHT hd) (by have:=hn.1;omega);have hk:V4 g:=⟨by have:=hb.1;omega,λy hy=>by have:=hb.2 y hy;omega⟩;simp only[aV,ar,aJ]at hr;rw[KF,aD,ag,aP (by decide)]at hr;simp only[bM,bF,q3,ag,SL hk]at hr;refine .inr ⟨_,[XA g],e,d,hi,?_,λ_=>⟨M2 hk,hd⟩,by rw[hr,ra]⟩;rw[qV,adC];simp only[aD,ag,q1,Dg hk,bM];rfl
def aq9(w:ah (ah ay))(nm:ah ay)(hw:w[1]? =ai nm)(d:cM.ty)(hp:rp d.2.2.2.2.2.2.2.2.1=aB)(hl:ae (α:=cx.ty) d.2.2.2.2.2.2.2.2.1<=8)(x:aw)(a:da.ty)(ha:a.1=[x])(hnm:a.2.2.2.1=nm):∀(k i:ax),i+k=ae (α:=cx.ty) d.2.2.2.2.2.2.2.2.1->
 ∃ls c,qk d.2.2.2.2.2.2.2.2.1 (ae (α:=cx.ty) d.2.2.2.2.2.2.2.2.1:ax) i a=ai (ls,c)/\(c=0->xC ls)/\tM w x i d=ai (ahf ls c,aB,d)
 |0,i,hk=>by refine⟨[],3,by rw[Iu,aP (by simp;omega)],λh=>(by cases h),?_⟩;rw[KG,aP (by simp;omega),Na,ag,bM,bF];rfl
 |k+1,i,hk=>by
  have hi:i<ae (α:=cx.ty) d.2.2.2.2.2.2.2.2.1:=by omega
  have dE:(i:aw)<(ae (α:=cx.ty) d.2.2.2.2.2.2.2.2.1:aw):=by omega
  obtain⟨y,hy⟩:∃y,d.2.2.2.2.2.2.2.2.1[i]? =ai y:=⟨_,aE hi⟩;have hq:=Uq hp y (cq hy);obtain⟨ls,c,z1,z2,z3⟩:=aq9 w nm hw d hp hl x a ha hnm k (i+1) (by omega);rw[Iu,KG];simp only[ha,hnm,hw,dE,aF,aK,aN,bw,aH,hy,ag,aD,eD (show i<4611686018427387904 by omega),z1,z3,bM,bF];split;·(have hid:ae y.1<=10:=by have:=hq;simp only[CQ,Kl,az]at this;exact A5 this.1);have e:y7 y x=_:=ZC y.1 y.2.1 y.2.2.1 y.2.2.2.1 y.2.2.2.2.1 x (by omega);have e2:zO y x=_:=Z9 y.1 y.2.1 y.2.2.1 y.2.2.2.1 y.2.2.2.2.1 x (by omega);have hq':Kl y.1 y.2.1 y.2.2.1 y.2.2.2.1 y.2.2.2.2.1=aB:=hq;rw[e,e2,aQ hq'];by_cases hr:fS x 0 40=aB;(·have hb:=LG.1 hq';(have hn: -1000000000000<=KZ y.2.1 y.2.2.1 y.2.2.2.1 x/\KZ y.2.1 y.2.2.1 y.2.2.2.1 x<=1000000000000:=by have:=anK (dry:=y.2.1) (water:=y.2.2.1) (heat:=y.2.2.2.1) (room:=x) (by omega) (by omega) (by omega) (ck.1 hr);omega);simp only[hr,aK,ag,A6 hn,aeg hn];exact⟨_,_,rfl,λ_=>aeO hn,rfl⟩);·(have h0: -1000000000000<=(0:aw)/\(0:aw)<=1000000000000:=by omega);simp only[hr,ar,aJ,ag,A6 h0,aeg h0];exact⟨_,_,rfl,λh=>(by cases h),rfl⟩
  .exact⟨ls,c,rfl,z2,rfl⟩
def aAD:WH lm [65,78] (qV Mk):=λd ws hd hw hl hu=>by
 refine⟨λiS=>pH hu hw hl (λ_=>by decide) nd nd nd (λ_=>iS) nd nd nd nd nd nd nd nd,λAY=> ?_⟩;obtain⟨w1,w2,rfl⟩:=dr2 AY;have l1:=hw w1 (by simp);have l2:=hw w2 (by simp);have hi:rdL dG [65,78] [w1,w2] ([],[],0,[],())=ai (if(cW w2).2=aB then ai ([(cW w2).1],[],0,w1,())else au):=by(have h1:(((65:ay).toNat:aw)==78)=aA:=by decide);(have h2:(((65:ay).toNat:aw)==76)=aA:=by decide);(have h3:(((65:ay).toNat:aw)==68)=aA:=by decide);simp only[rdL,nW,h78,h1,h2,h3,aK,ar,aJ,kT,ag,bQ,m1,aF,bM,cJ,bc];cases(cW w2).2;(·simp only[ar,aJ]);·simp only[aK]
 have hr:nN d lm [w1,w2]=mx d [lm,w1,w2]:=aP (by simp);rw[tL,aD,ag,sk lm lw,si,aD,ag,aP (by decide),ag,aP (by decide),KE,aD,ag,aQ (by decide),aQ (by rfl)]at hr;simp only[bp,aD,ag,Nu.G9 w2 (by omega),bF]at hr;cases d2:(cW w2).2;·rw[d2]at hi hr;exact .inl ⟨hi,_,hr⟩
 rw[d2]at hi hr;simp only[aV,ar,aJ]at hr;obtain⟨-,-,-,-,-,h6,-⟩:=dq.1 hd;have h8:=h6;simp only[rp,az,aG]at h8;obtain⟨ls,c,z1,z2,z3⟩:=aq9 [lm,w1,w2] w1 rfl d h6 (by omega) (cW w2).1 ([(cW w2).1],[],0,w1,()) rfl rfl _ 0 (dL _);have hr:nN d lm [w1,w2]=tM [lm,w1,w2] (cW w2).1 ((0:ax):aw) d:=hr;rw[z3]at hr;refine .inr ⟨_,ls,c,d,hi,?_,λhc=>⟨z2 hc,hd⟩,by rw[hr,ra]⟩;rw[qV,adG];have z1:qk d.2.2.2.2.2.2.2.2.1 _ 0 _=ai (ls,c):=z1;rw[z1];rfl
def aw8:WH ip [] (Jp):=λd ws hd hw hl hu=>by refine⟨λiS=>pH hu hw hl (λe=>bG (by rw[e];rfl) iS) nd nd nd nd nd nd nd nd nd nd nd nd,λAY=> ?_⟩;have h0:ws=[]:=fJ.1 AY;subst h0;have hr:nN d ip []=mw d ip:=aQ rfl;obtain⟨h1,h2,h3,h4,h5,h6,h7,h8,h9⟩:=dq.1 hd;have hp:=Pa.CO.1 h9;obtain⟨ys,q1,q2⟩:=Pa.aG2 hp;rw[tK,aQ (show((ip:ah ay)==ip)=aB by decide),(Pa.aAX hp).trans q1,ag,aQ (by rfl),aaf,Na,ag,bM,bF,bM]at hr;refine .inr ⟨_,[[111,107]],0,(d.1,d.2.1,d.2.2.1,d.2.2.2.1,d.2.2.2.2.1,d.2.2.2.2.2.1,d.2.2.2.2.2.2.1,d.2.2.2.2.2.2.2.1,d.2.2.2.2.2.2.2.2.1,d.2.2.2.2.2.2.2.2.2.1,d.2.2.2.2.2.2.2.2.2.2.1,ys,()),rfl,by rw[abo,q1];simp only[ag,IJ,bM],λ_=>⟨by unfold xC;decide,dq.2 ⟨h1,h2,h3,h4,h5,h6,h7,h8,Pa.CO.2 q2⟩⟩,?_⟩;rw[hr,aQ rfl];rfl
def aub:WH jp [] (qV GC):=λd ws hd hw hl hu=>by
 refine⟨λiS=>pH hu hw hl (λe=>bG (by rw[e];rfl) iS) nd nd nd nd nd nd nd nd nd nd nd nd,λAY=> ?_⟩;have h0:ws=[]:=fJ.1 AY;subst h0;have hr:nN d jp []=mw d jp:=aQ rfl;obtain⟨-,-,-,-,-,-,-,-,h9⟩:=dq.1 hd;have hs:=(Ta hd).2.2.2.2.2.2.2;obtain⟨r,c,q1,q2⟩:=Re.asT d.2.2.2.2.2.2.2.2.2.2.2.1 hs.1 hs.2;have ho:c=0->xC r:=λhc=>ax7 (q2 hc).1;have amn:lu r c=ai (ahf r c):=by by_cases hc:c=0;(·exact Y8 (ho hc) c);·rw[Yw,aQ (by simpa using hc),Na,ag,bM];unfold ays ahf;rw[aP hc,aP hc]
 rw[tK,aP (show¬((jp:ah ay)==ip)=aB by decide),aQ (show((jp:ah ay)==jp)=aB by decide),(Re.avT _ hs.1 hs.2).trans q1,ag,amn,ag,bM,bF]at hr;refine .inr ⟨_,r,c,d,rfl,by rw[qV,Zz,q1];simp only[ag,bM];rfl,λhc=>⟨ho hc,hd⟩,by rw[hr,ra]⟩
def aAF:WH kw [] (qV Mn):=λd ws hd hw hl hu=>by refine⟨λiS=>pH hu hw hl (λe=>bG (by rw[e];rfl) iS) nd nd nd nd nd nd nd nd nd nd nd nd,λAY=> ?_⟩;have h0:ws=[]:=fJ.1 AY;subst h0;have hr:nN d kw []=mw d kw:=aQ rfl;obtain⟨ps,e,ho,f1,f2⟩:=ai9 d (Ta hd);have amn:=Y8 ho e;rw[tK,aP (show¬((kw:ah ay)==ip)=aB by decide),aP (show¬((kw:ah ay)==jp)=aB by decide),aQ (show((kw:ah ay)==kw)=aB by decide)]at hr;simp only[bM,bF]at hr;have f1':BX (d.1,d.2.1,d.2.2.1,d.2.2.2.1,d.2.2.2.2.1,d.2.2.2.2.2.1,d.2.2.2.2.2.2.1,d.2.2.2.2.2.2.2.1,d.2.2.2.2.2.2.2.2.1,d.2.2.2.2.2.2.2.2.2.1,d.2.2.2.2.2.2.2.2.2.2.1,d.2.2.2.2.2.2.2.2.2.2.2.1,())=ai (ps,e):=f1;rw[f1',ag,amn,ag]at hr;refine .inr ⟨_,ps,e,d,rfl,by rw[qV,adI,f2];simp only[ag,bM];rfl,λ_=>⟨ho,hd⟩,by rw[hr,ra]⟩
def aAA:WH li [] (qV Mh):=λd ws hd hw hl hu=>by refine⟨λiS=>pH hu hw hl (λe=>bG (by rw[e];rfl) iS) nd nd nd nd nd nd nd nd nd nd nd nd,λAY=> ?_⟩;have h0:ws=[]:=fJ.1 AY;subst h0;have hr:nN d li []=mw d li:=aQ rfl;rw[tK,aP (show¬((li:ah ay)==ip)=aB by decide),aP (show¬((li:ah ay)==jp)=aB by decide),aP (show¬((li:ah ay)==kw)=aB by decide),aQ (show((li:ah ay)==li)=aB by decide),Yc,ag,bM,bF]at hr;refine .inr ⟨_,AV,0,d,rfl,by rw[qV,adD,WZ];simp only[ag,bM];rfl,λ_=>⟨by unfold xC;decide,hd⟩,?_⟩;rw[hr,aQ rfl];rfl
def aDl:∀p,p∈cP.ta->WH p.1 p.2.1 p.2.2:=λp hp=>by
 simp only[cP,bP,iT,FG]at hp;rcases hp with rfl|rfl|rfl|rfl|rfl|rfl|rfl|rfl|rfl|rfl|rfl|rfl|rfl|rfl|rfl|rfl
 .exact aDn
 .exact aDm
 .exact aAG
 .exact aAB
 .exact aAE
 .exact aDo
 .exact aAD
 .exact aAz
 .exact aAC
 .exact aAH
 .exact ar1
 .exact aw9
 .exact aw8
 .exact aub
 .exact aAF
 .exact aAA
end Tx
namespace Tx
def axU{α:Type}{s:ah ay}{v:α}:∀{l:ah (ah ay×α)},lk l s=ai v->(s,v)∈l
 | [],h=>by cases h
 |p::l,h=>by
  rw[lk]at h;split at h;·rename_i e;cases h;rw[<-e];exact cI
  .exact bm _ (axU h)
def asE{α:Type}{s:ah ay}:∀{l:ah (ah ay×α)},lk l s=au->∀p,p∈l->p.1≠s
 | [],_,p,h=>by cases h
 |q::l,h,p,hp=>by
  rw[lk]at h
  split at h
  .cases h
  .rename_i e
   rcases bP.1 hp with rfl|hp
   .exact e
   .exact asE h p hp
def asf{d:cM.ty}{line u:ah ay}{ws:ah (ah ay)}(hl:ae line<=400)(hsp:cX 32 line=u::ws)(h0:ws=[]->line=u)(h1:ws≠ []->ae u+1<=ae line/\∃l,vk d u (line.drop (ae u+1))=ai (l,aA,d)):rE d line=nN d u ws:=by
 rw[Rk,aP (by simp;omega),show(32:aw)=((32:ay).toNat:aw)from rfl,Sp.Ds line 32 (by omega),hsp,ag];unfold nN;by_cases h:ws=[];·subst h;rw[aQ (by rfl),aQ rfl,bF,h0 rfl];cases mw d u with|none=>rfl|some r=>simp only[ag,bM,bF]
 .obtain⟨k1,l,k2⟩:=h1 h;have hp:=U9.2 h;have k3:(ae u:aw)+1<=(ae line:aw):=by omega
  have k4:aj ak ((ae u:aw)+1)=((ae u+1:ax):aw):=eD (by omega);have k5:((ae u+1:ax):aw)<=(ae line:aw):=by omega
  have k6:(0:aw)<((ae (u::ws):ax):aw):=by simp
  rw[aP (by simp;omega),aP h];simp only[k6,aF,aK,aD,ag,k4,aN,k5,bw,aH,bF,k2,ar,aJ,bM];cases mx d (u::ws)with|none=>rfl|some r=>simp only[ag,bM,bF]
def aIa(c:aw):ays c=ahf [[111,107]] c:=by unfold ays ahf;split<;>rfl
def aG5{d:cM.ty}(hd:lN d=aB)(line:ah ay)(h4:ae line<=400):∃ls c is d',exF cP d line=ai (ls,c,is,d')/\(is=aA->∃l,rE d line=ai (l,aA,d))/\(is=aB->(c=0->xC ls/\lN d'=aB)/\rE d line=ai (ahf ls c,aB,if c=0 then d' else d)):=by
 have hct:=asc line 32;have e1:cP.cut line [32]=ai (TA line [32]):=by show strings_Cut line [32]=_;rw[Oa,aQ (by simp;omega)]
 have e2:cP.split line [32]=ai (cX 32 line):=wc line 32 (by omega);have hb:=nk (c:=32) line;have aO9:∃u ws,cX 32 line=u::ws/\(TA line [32]).1=u/\(TA line [32]).2.2=ao (ws≠ [])/\(ws=[]->line=u)/\(ws≠ []->ae u+1<=ae line/\(TA line [32]).2.1=line.drop (ae u+1)):=by by_cases h32:(32:ay)∈line;(·obtain⟨a,r,rfl,ha⟩:=AU h32;(have hq:cX 32 (a++32::r)=a::cX 32 r:=by unfold cX;rw[qN r ha]);have hr:=(nk (c:=32) r).1;(have iS:cX 32 r≠ []:=λe=>by rw[e]at hr;simp at hr);refine⟨a,cX 32 r,hq,by rw[adi r ha],by rw[adi r ha];simp[iS],λh=>bG h iS,λ_=>⟨by simp,by rw[adi r ha];simp⟩⟩);·(have hq:cX 32 line=[line]:=by unfold cX;exact ox h32);exact⟨line,[],hq,by rw[Y2 h32],by rw[Y2 h32];rfl,λ_=>rfl,λh=>bG rfl h⟩
 obtain⟨u,ws,hsp,hu1,aKJ,h0,iS⟩:=aO9;have hul:ae u<=400:=by have:=hb.2.2 u (by rw[hsp];simp);omega
 have hwl:∀w,w∈ws->ae w<=400:=λw hw=>by have:=hb.2.2 w (by rw[hsp];simp[hw]);omega
 have hwn:ae ws<=900:=by have:=hb.2.1;rw[hsp,bl]at this;omega
 have no:(∃l,rE d line=ai (l,aA,d))->∃ls c is d',(ai ([],0,aA,d):aq (ah (ah ay)×aw×aW×eH.ty))=ai (ls,c,is,d')/\(is=aA->∃l,rE d line=ai (l,aA,d))/\(is=aB->(c=0->xC ls/\lN d'=aB)/\rE d line=ai (ahf ls c,aB,if c=0 then d' else d)):=λh=>⟨_,_,_,_,rfl,λ_=>h,λh=>by cases h⟩;rw[exF,e1,ag,hu1,aP (by omega)];cases ht:lk cP.tt u with|some f=>(have hm:=axU ht;have hf:=aB2 _ hm;(have hno:∃l,nN d u ws=ai (l,aA,d):=by have hv:∀v:ah ay,(∀p,p∈cP.tt->p.1≠v)->u≠v:=λv h=>h _ hm;(have dec:∀v:ah ay,v∉([dl,d7,d9,eq,d8,f8,f9,gt,ii]:ah (ah ay))->u≠v:=λv h=>hv v λp hp e=>by simp only[cP,bP,iT,FG]at hp;rcases hp with rfl|rfl|rfl|rfl|rfl|rfl|rfl|rfl|rfl<;>exact h (by rw[<-e];simp));exact pH hul hwl hwn (λ_=>⟨dec _ (by decide),dec _ (by decide),dec _ (by decide),dec _ (by decide)⟩) (λe=>bG e (dec _ (by decide))) (λe=>bG e (dec _ (by decide))) (λe=>bG e (dec _ (by decide))) (λe=>bG e (dec _ (by decide))) (λe=>bG e (dec _ (by decide))) (λe=>bG e (dec _ (by decide))) (λe=>bG e (dec _ (by decide))) (λe=>bG e (dec _ (by decide))) (λe=>bG e (dec _ (by decide))) (λe=>bG e (dec _ (by decide))) (λe=>bG e (dec _ (by decide))) (λe=>bG e (dec _ (by decide))));simp only[aKJ];by_cases hws:ws=[];(·rw[aP (by simpa using hws)];refine no ?_;rw[asf h4 hsp h0 λh=>bG hws h];exact hno);·rw[aQ (by simpa using hws)];obtain⟨n1,n2⟩:=iS hws;rw[n2];obtain⟨ok,c,d',q1,q6,l,dS,q2,q3,q4,q5⟩:=hf d (line.drop (ae u+1)) hd (by rw[dR];omega);have q1:f d (line.drop (ae u+1))=ai (ok,c,d'):=q1;have q2:vk d u (line.drop (ae u+1))=ai (l,ok,dS):=q2;rw[q1,ag];cases ok with|false=>refine⟨_,_,_,_,rfl,λ_=> ?_,λh=>by cases h⟩;have hdS:=q5 (λh=>by cases h.1);subst hdS;rw[asf h4 hsp h0 λ_=>⟨n1,l,q2⟩];exact hno|true=>refine⟨_,_,_,_,rfl,λh=>(by cases h),λ_=>⟨λhc=>⟨by unfold xC;decide,q6 hc⟩,?_⟩⟩;have hl:=q3 rfl;(have hdS:dS=if c=0 then d' else d:=by by_cases hc:c=0;(·rw[aQ hc];exact q4 rfl hc);·rw[aP hc];exact q5 λh=>hc h.2);have hp:=U9.2 hws;have k4:aj ak ((ae u:aw)+1)=((ae u+1:ax):aw):=eD (by omega);(have k5:((ae u+1:ax):aw)<=(ae line:aw):=by omega);(have k6:(0:aw)<((ae (u::ws):ax):aw):=by simp);rw[Rk,aP (by simp;omega),show(32:aw)=((32:ay).toNat:aw)from rfl,Sp.Ds line 32 (by omega),hsp,ag,aP (by simp;omega)];simp only[k6,aF,aK,aD,ag,k4,aN,k5,bw,aH,bF,q2,bM];rw[hl,hdS,aIa])|none=>have htx:ws≠ []->ae u+1<=ae line/\∃l,vk d u (line.drop (ae u+1))=ai (l,aA,d):=λh=>⟨(iS h).1,[],aIj d u _ (asE ht)⟩;have aEk:=asf h4 hsp h0 htx;rw[aEk]at no⊢;simp only[e2,ag,hsp];cases ha:lk cP.ta u with|none=>have hv:=asE ha;have dec:∀v:ah ay,(∃p,p∈cP.ta/\p.1=v)->u≠v:=λv ⟨p,hp,e⟩ h=>hv p hp (e.trans h.symm);have m:∀v:ah ay,v∈cP.ta.map (λp=>p.1)->u≠v:=λv h=>dec v (by obtain⟨p,hp,e⟩:=dF.1 h;exact⟨p,hp,e⟩);have mm:cP.ta.map (λp=>p.1)=[lw,am,ap,bi,bv,m8,lm,mt,ce,ci,co,dg,ip,jp,kw,li]:=rfl;rw[mm]at m;exact no (pH hul hwl hwn (λ_=>⟨m _ (by decide),m _ (by decide),m _ (by decide),m _ (by decide)⟩) (λe=>bG e (m _ (by decide))) (λe=>bG e (m _ (by decide))) (λe=>bG e (m _ (by decide))) (λe=>bG e (m _ (by decide))) (λe=>bG e (m _ (by decide))) (λe=>bG e (m _ (by decide))) (λe=>bG e (m _ (by decide))) (λe=>bG e (m _ (by decide))) (λe=>bG e (m _ (by decide))) (λe=>bG e (m _ (by decide))) (λe=>bG e (m _ (by decide))) (λe=>bG e (m _ (by decide))))|some p=>obtain⟨ks,f⟩:=p;have hf:=aDl _ (axU ha) d ws hd hwl hwn hul;simp only;by_cases hk:ae ws=ae ks;(·rw[aQ (by rw[bl,hk])];(rcases hf.2 hk with ⟨r1,r2⟩|⟨a,ls,c,d',r1,r2,r3,r4⟩);(·have r1:rdL cP.rd ks ws ([],[],0,[],())=ai au:=r1;rw[at4,r1,ag];exact no r2);·have r1:rdL cP.rd ks ws ([],[],0,[],())=ai (ai a):=r1;have r2:f d a=ai (ls,c,d'):=r2;rw[at4,r1,ag];simp only[r2,ag];exact⟨_,_,_,_,rfl,λh=>(by cases h),λ_=>⟨r3,r4⟩⟩);·rw[aP (by rw[bl];omega)];exact no (hf.1 hk)
def aFp{ls:ah (ah ay)}(h:xC ls):xC (ars ls):=by
 unfold ars;split;·unfold xC;decide
 .refine⟨by rw[bf];exact h.1,λl hl=> ?_⟩;obtain⟨x,hx,rfl⟩:=dF.1 hl;split;·decide
  .exact h.2 x hx
def aG1{d:cM.ty}(hd:lN d=aB)(line:ah ay):∃d' ls c,Gz d line=ai (d',ls,c)/\((c=8/\∃l,rE d line=ai (l,aA,d))\/(c=0/\lN d'=aB/\xC ls/\rE d line=ai (ls,aB,d'))):=by
 have s:=Ta hd;have hc:=aur d s;rw[Zy,Pg d s,hd,gO];simp only[ag,aV,ar,aJ];by_cases h4:ae line<=400;rotate_left;·rw[aQ (by simp;omega)];refine⟨_,_,_,rfl,.inl ⟨rfl,[],?_⟩⟩;rw[Rk,aQ (by simp;omega),bF]
 rw[aP (by simp;omega),hc];obtain⟨ls,c,is,d',q1,q2,q3⟩:=aG5 hd line h4;have q1:DV d line=ai (ls,c,is,d'):=by rw[W6];exact q1
 simp only[ag,bM,bF,q1];cases is with|false=>exact⟨_,_,_,rfl,.inl ⟨rfl,q2 rfl⟩⟩|true=>obtain⟨r1,r2⟩:=q3 rfl;simp only[aV,ar,aJ];unfold ahf at r2;by_cases c0:c=0;(·obtain⟨z2,z1⟩:=r1 c0;rw[aP (by simp[c0]),aBU z2,ag];rw[aQ c0,aQ c0]at r2;exact⟨_,_,_,rfl,.inr ⟨rfl,z1,aFp z2,r2⟩⟩);·rw[aQ (by simpa using c0)];obtain⟨t,e,ht⟩:=azh c;(have e6: [101,114,114,111,114,32].length+ae t<=cQ:=by simp[cQ];omega);unfold aG4 at r2;rw[aP c0,aP c0,e]at r2;simp only[e,ag];rw[aQ (cF e6)];exact⟨_,_,_,rfl,.inr ⟨rfl,hd,⟨by simp,λl hl=>by rw[aT.1 hl];simp;omega⟩,r2⟩⟩
def auC(n:aw)(d:cM.ty)(L v:ah (ah ay))(i:aw)(hv:xC v):∀(k j:ax) (a:ah ay),j+k=ae v->ae a<=4000000000000+1000001*j->
 vU n a i j d L v=p9 n (a++aja (v.drop j)) (aj ak (i+1)) d L
 |0,j,a,hk,ha=>by rw[Ng,aP (by simp;omega),br (by omega)];simp[aja]
 |k+1,j,a,hk,ha=>by
  have hj:j<ae v:=by omega
  have dE:(j:aw)<(ae v:aw):=by omega
  have h1:=hv.1;have h2:=hv.2 _ (bH hj);have m1:v[j].length+ [10].length<=cQ:=by simp[cQ];omega
  have m2:ae a+ae (v[j]++ [(10:ay)])<=cQ:=by simp[cQ];omega
  rw[Ng];simp only[dE,aF,aK,aN,bw,aH,aE hj,ag,eD (show j<4611686018427387904 by omega)];rw[aQ (cF m1),aQ (cF m2),auC n d L v i hv k (j+1) _ (by omega) (by simp;omega),ba hj];simp only[aja,cr,df]
def anY(L:ah (ah ay))(n:ax)(hn:n<=ae L)(h60:n<=60):∀(k i:ax) (d:cM.ty) (jx:ah ay),i+k=n->lN d=aB->ae jx<=2000000000*i->
 ∃o,vC jx n n i L d=ai (o,0)/\p9 n jx i d L=ai (o,0)
 |0,i,d,jx,hk,hd,ha=>by rw[Nf,aP (by simp;omega),Mx,aP (by simp;omega)];exact⟨_,rfl,rfl⟩
 |k+1,i,d,jx,hk,hd,ha=>by
  have hi:i<ae L:=by omega
  have dE:(i:aw)<(n:aw):=by omega
  have xp:(i:aw)<(ae L:aw):=by omega
  obtain⟨d',out,c,q1,q2⟩:=aG1 hd L[i];rw[Nf,Mx];simp only[dE,xp,aF,bw,aK,aN,aH,aE hi,ag,bF,q1,eD (show i<4611686018427387904 by omega)];rcases q2 with ⟨rfl,l,q3⟩|⟨rfl,z1,z2,z3⟩
  ·(have m1:ae jx+ [63,10].length<=cQ:=by simp[cQ];omega);rw[q3,ag,aQ (by decide),aQ (cF m1),aQ (by rfl),aQ (cF m1)];exact anY L n hn h60 k (i+1) d (jx++ [63,10]) (by omega) hd (by simp;omega)
  .obtain⟨e1,e2⟩:=aDN z2;(have m2:ae jx+ae (aja out)<=cQ:=by simp only[cQ];omega);have:=auC n d' L out i z2 (ae out) 0 jx (by omega) (by omega);rw[cL,eD (show i<4611686018427387904 by omega)]at this;rw[z3,ag,aP (by decide),bM,e1,ag,aQ (cF m2),aP (by simp)];simp only;refine(?_:∃o,_/\vU n jx i ((0:ax):aw) d' L out=ai (o,0));rw[this];exact anY L n hn h60 k (i+1) d' _ (by omega) z1 (by simp;omega)
def aAU(t:ah ay)(ht:ae t<=1000000000):∃o c,TP t=ai (o,c)/\Uy t=ai (o,c):=by
 obtain⟨h1,h2,h3⟩:=nk (c:=10) t;have go:∀n:ax,n<=ae (cX 10 t)->∃o c,BH n (cX 10 t)=ai (o,c)/\BZ n (cX 10 t)=ai (o,c):=λn hn=>by rw[acb,abw,gO,ag];by_cases c:n<=60;(·(have c1:¬(n:aw)>60:=by omega);(have c2:(n:aw)<=60:=by omega);simp only[c1,c2,aX,aF,aV,ar,aJ,aon,aji,ag];obtain⟨o,r1,r2⟩:=anY (cX 10 t) n hn c n 0 aLe [] (by omega) aHL (by simp);exact⟨o,0,r1,r2⟩);·(have c1:(n:aw)>60:=by omega);(have c2:¬(n:aw)<=60:=by omega);simp only[c1,c2,aX,aF,bZ,aK];exact⟨_,_,rfl,rfl⟩
 have hw:aj ak ((ae (cX 10 t):aw)-1)=((ae (cX 10 t)-1:ax):aw):=by rw[fp (by omega) (by omega)];omega
 have dE:ae (cX 10 t)-1<ae (cX 10 t):=by omega
 have xp:((ae (cX 10 t)-1:ax):aw)<(ae (cX 10 t):aw):=by omega
 have aRS:((ae (cX 10 t)-1:ax):aw)<=(ae (cX 10 t):aw):=by omega
 rw[akE,show(10:aw)=((10:ay).toNat:aw)from rfl,Sp.Ds t 10 (by omega),ajk,wc t 10 (by omega)];simp only[ag,hw,aN,xp,aRS,aF,bw,aK,aH,aE dE];split;·exact go _ (by omega)
 .exact go _ (bx _)
end Tx
theorem laws_FnExactRunDesk_true(a:ah ay)(h:CT.wf .str a):Kf a=ai aB:=by
 rw[Ub];by_cases hl:(ae a:aw)>1048576;·rw[aQ (by simpa using hl)]
 .obtain⟨o,c,e1,e2⟩:=Tx.aAU a (by omega);rw[aP (by simpa using hl),e1,e2];simp
end Go.Ab.P

