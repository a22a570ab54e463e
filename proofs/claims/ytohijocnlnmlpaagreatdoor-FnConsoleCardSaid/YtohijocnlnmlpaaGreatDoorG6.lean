/- The console stays valid, executes the lines of a text one after the other, and a refused change has no effect. Conditions: the argument is bytes. -/
import Derived.Test.YtohijocnlnmlpaaGreatDoorG5
import Derived.Sort.Walk0
set_option linter.unusedVariables false
set_option linter.unusedSimpArgs false
set_option linter.unusedSectionVars false
set_option maxRecDepth 4000
set_option linter.defProp false
open BitVec renaming ofInt->eo
open Bool renaming and_eq_true->aj,and_self->bM,and_true->aeG,eq_false_iff->apk,eq_iff_iff->afX,false->aw,false_and->qi,false_eq_true->ao,false_or->XM,not_false->fF,not_true->aY,or_eq_true->cj,true->ar,true_and->jD,true_or->aar
open Decidable renaming decide->ah
open Eq renaming trans->al5
open Go.IntKind renaming bits->Tb,i64->ag,signed->Np,u64->dk,u8->KC,wrap->afZ
open Go.Lib renaming count->Nq,cut->A7,decDigits->fJ,index->af0,itoa->bG,join->mZ,joinTail->Nr,join_cons->ahP,lens->af1,repeatL->F0,splitK->uV
open Go.Op renaming bytesLess->cN
open Go.Proofs renaming bytesLess_eq->C8
open Int renaming ediv_le_self->ast,ediv_nonneg->auo,emod_lt_of_pos->xG,emod_nonneg->DY,le_refl->dH,le_trans->pc,mul_assoc->awW,mul_ediv_add_emod->al8,mul_le_mul->avc,mul_le_mul_of_nonneg_right->kT,mul_nonneg->af3,natCast_nonneg->aI,natCast_zero->asu,ofNat_zero->avd,toNat_natCast->aE
open List renaming all_cons->de,all_eq_true->aG,all_nil->fK,any_cons->zy,any_eq_false->CI,append_assoc->dJ,append_nil->bS,cons_append->sn,drop_append->F9,drop_eq_getElem_cons->bf,drop_eq_nil_of_le->bb,drop_left->aup,drop_length->ave,drop_of_length_le->Nl,drop_sublist->XU,drop_zero->dV,eq_append_cons_of_mem->aeO,eq_nil_of_length_eq_zero->gy,flatMap_cons->cg,flatten_cons->Mt,getElem?_append_left->eA,getElem?_append_right->dC,getElem?_cons_succ->ct,getElem?_cons_zero->bg,getElem?_eq_getElem->ay,getElem?_eq_none->bB,getElem?_map->bX,getElem?_set_ne->Tq,getElem?_set_self->PV,getElem_append_right->af5,getElem_cons_succ->aka,getElem_cons_zero->akb,getElem_drop->apB,getElem_mem->bc,getElem_take->apC,isPrefixOf->adx,le_iff_lt_or_eq->amb,length->cP,length_append->aQ,length_cons->bh,length_drop->dm,length_eq_zero_iff->zA,length_map->aT,length_nil->cy,length_pos_iff->Z7,length_replicate->DZ,length_reverse->S5,length_singleton->fB,length_take->cQ,lt_trans->KA,map_append->eu,map_congr_left->nw,map_cons->aP,map_map->uX,map_nil->lT,mem_append->aU,mem_cons->bl,mem_cons_of_mem->aL,mem_cons_self->di,mem_filter->awY,mem_map->dK,mem_of_getElem? ->bw,mem_of_mem_drop->cA,mem_of_mem_take->fo,mem_or_eq_of_mem_set->anq,mem_range->Jf,mem_singleton->aX,nil_append->dU,not_mem_nil->gx,pairwise_append->ib,pairwise_cons->ic,range->dL,range_succ->asx,replicate->aZ,reverse_append->D0,reverse_singleton->Nn,set_getElem_self->akl,set_set->awZ,singleton_append->jO,take_add_one->Jg,take_left'->asy,take_length->aA,take_of_length_le->dO,take_sublist->apD,take_succ_eq_append_getElem->aaw,take_zero->xf
open List.Sublist renaming refl->Pt
open Nat renaming add_mul->Ga,add_zero->anr,le_refl->bm,le_trans->dZ,lt_of_le_of_lt->dw,lt_or_ge->bH,pow_succ->ako,sub_self->ahT,zero_add->c8,zero_le->iW
open Option renaming bind_eq_some_iff->ak,bind_some->af,getD_some->eJ,map_some->az,none->ai,some->ae
open Option.some renaming inj->cq
open UInt8 renaming ofNat->oD,toNat_inj->aaz
namespace Go.Ab.P
open Go.Ab
def eZ{α:Type}(ok:α->Bool)(id:α->List UInt8):Option α->List α->Bool
 |_,[]=>ar
 |p,x::r=>ok x&&((match p with|none=>ar|some y=>cN (id y) (id x))&&eZ ok id (ae x) r)
def lS{α:Type}{ok:α->Bool}{id:α->List UInt8}:∀{l:List α} {p:Option α},eZ ok id p l=ar->∀x,x∈l->ok x=ar
 | [],_,_,x,hx=>by cases hx
 |y::r,p,h,x,hx=>by
  simp only[eZ,aj]at h
  rcases bl.1 hx with rfl|hx
  ·exact h.1
  ·exact lS h.2.2 x hx
def nM{α:Type}(xs:List α)(one:α->Option Bool)(ok:α->Bool)(id:α->List UInt8)(p0:Int->Option Bool)(last:Option Bool)(lb:Bool)(hlast:last=ae lb)
 (heq:∀i:Int,p0 i=if ah (i<(xs.length:Int))then(if ah (0<=i)then(xs[i.toNat]?).bind λx1=>(one x1).bind λx2=>if(!x2)then ae aw else if ah (i>0)then(if ah (0<=ag.wrap (i-1))then(xs[(ag.wrap (i-1)).toNat]?).bind λx3=>if(!cN (id x3) (id x1))then ae aw else p0 (ag.wrap (i+1))else ai)else p0 (ag.wrap (i+1))else ai)else last)
 (hs:xs.length<=1048576) (h1:∀x,x∈xs->one x=ae (ok x)):
 ∀(k i:Nat),i+k=xs.length->p0 i=ae (eZ ok id (if i=0 then ai else xs[i-1]?) (xs.drop i)&&lb)
 |0,i,hk=>by
  rw[heq,bb (by omega)]
  have:¬(i:Int)<(xs.length:Int):=by omega
  simp only[this,aW,ao,aH,hlast,eZ,jD]
 |k+1,i,hk=>by
  have hi:i<xs.length:=by omega
  have hlt:(i:Int)<(xs.length:Int):=by omega
  have hw:ag.wrap ((i:Int)+1)=((i+1:Nat):Int):=by rw[fR (by omega) (by omega)];omega
  have ih:=nM xs one ok id p0 last lb hlast heq hs h1 k (i+1) (by omega)
  rw[aO (by omega),Nat.add_sub_cancel,ay hi]at ih
  rw[heq,bf hi]
  simp only[hlt,aB,aC,aI,aE,ay hi,af,h1 xs[i] (bc hi),hw,ih,eZ]
  cases hok:ok xs[i]
  ·simp
  ·by_cases h0:i=0
   ·subst h0;simp
   ·have hp:(i:Int)>0:=by omega
    have hw2:ag.wrap ((i:Int)-1)=((i-1:Nat):Int):=by rw[fR (by omega) (by omega)];omega
    simp only[hp,aB,aC,hw2,aI,aE,ay (show i-1<xs.length by omega),af,h0,aH,aY,ao]
    cases cN (id xs[i-1]) (id xs[i])<;>simp
def tv{α:Type}(xs:List α)(one:α->Option Bool)(ok:α->Bool)(id:α->List UInt8)(p0:Int->Option Bool)(last:Option Bool)(lb:Bool)(hlast:last=ae lb) (heq:∀i:Int,p0 i=if ah (i<(xs.length:Int))then(if ah (0<=i)then(xs[i.toNat]?).bind λx1=>(one x1).bind λx2=>if(!x2)then ae aw else if ah (i>0)then(if ah (0<=ag.wrap (i-1))then(xs[(ag.wrap (i-1)).toNat]?).bind λx3=>if ah (0<=i)then(xs[i.toNat]?).bind λx4=>if(!cN (id x3) (id x4))then ae aw else p0 (ag.wrap (i+1))else ai else ai)else p0 (ag.wrap (i+1))else ai)else last) (hs:xs.length<=1048576) (h1:∀x,x∈xs->one x=ae (ok x)): ∀(k i:Nat),i+k=xs.length->p0 i=ae (eZ ok id (if i=0 then ai else xs[i-1]?) (xs.drop i)&&lb):=by
 refine nM xs one ok id p0 last lb hlast (λi=> ?_) hs h1;rw[heq];by_cases h:i<(xs.length:Int)
 ·by_cases h0:0<=i;·simp only[h,h0,aB,aC];cases xs[i.toNat]? <;>rfl
  ·simp only[h,h0,aB,aW,ao,aC,aH]
 ·simp only[h,aW,ao,aH]
def Z8{α β:Type}(xs:List α)(one:α->Option Bool)(ok:α->Bool)(p0:Int->Option β)(bad:β)(last:Option β)
 (heq:∀i:Int,p0 i=if ah (i<(xs.length:Int))then(if ah (0<=i)then(xs[i.toNat]?).bind λx1=>(one x1).bind λx2=>if(!x2)then ae bad else p0 (ag.wrap (i+1))else ai)else last)
 (hs:xs.length<=1099511627776) (h1:∀x,x∈xs->one x=ae (ok x)):
 ∀(k i:Nat),i+k=xs.length->p0 i=if(xs.drop i).all ok then last else ae bad
 |0,i,hk=>by
  rw[heq,bb (by omega)]
  have:¬(i:Int)<(xs.length:Int):=by omega
  simp[this]
 |k+1,i,hk=>by
  have hi:i<xs.length:=by omega
  have hlt:(i:Int)<(xs.length:Int):=by omega
  have hw:ag.wrap ((i:Int)+1)=((i+1:Nat):Int):=by rw[fR (by omega) (by omega)];omega
  have ih:=Z8 xs one ok p0 bad last heq hs h1 k (i+1) (by omega)
  rw[heq,bf hi]
  simp only[hlt,aB,aC,aI,aE,ay hi,af,h1 xs[i] (bc hi),hw,ih,de]
  by_cases hok:ok xs[i]=ar
  ·simp[hok]
  ·simp[hok]
def fY{i:Nat}(h:i<4611686018427387904):ag.wrap ((i:Int)+1)=((i+1:Nat):Int):=by rw[fR (by omega) (by omega)];omega
def getElem?_lt{α:Type}{l:List α}{i:Nat}(h:i<l.length):l[i]? =ae l[i]:=ay h
def drop_cons{α:Type}{l:List α}{i:Nat}(h:i<l.length):l.drop i=l[i]::l.drop (i+1):=bf h
def fS(a b:Int):Int:=if a<0 then-((b-2*a)/(2*b))else(2*a+b)/(2*b)
def acm{a b:Int}(ha:0<=a)(hb:0<b):fS a b=a/b+if b-a%b<=a%b then 1 else 0:=by
 have h1:=al8 a b;have h2:=DY a (show b≠0 by omega);have h3:=xG a hb;unfold fS;rw[aO (by omega)];generalize a/b=q at h1⊢;generalize a%b=r at h1 h2 h3⊢;have key:∀t s:Int,0<=s->s<2*b->2*a+b=s+2*b*t->(2*a+b)/(2*b)=t:=λt s hs0 hs1 he=>by rw[he,Int.add_mul_ediv_left s t (show 2*b≠0 by omega),Int.ediv_eq_zero_of_lt hs0 hs1];omega
 have e:2*b*q=2*(b*q):=awW 2 b q;split;·refine key (q+1) (2*r-b) (by omega) (by omega) ?_;rw[Int.mul_add,e];omega
 ·rw[Int.add_zero];refine key q (2*r+b) (by omega) (by omega) ?_;rw[e];omega
def PI{a b:Int}(ha:0<a)(hb:0<b):fS (-a) b= -fS a b:=by unfold fS;rw[aJ (by omega),aO (by omega)];congr 2;omega
def yO{a b:Int}(ha:0<=a)(hb:0<b):0<=fS a b:=by unfold fS;rw[aO (by omega)];exact auo (by omega) (by omega)
def U2{a b:Int}(ha:0<=a)(hb:0<b):fS a b<=a+1:=by rw[acm ha hb];have:=ast b ha;split<;>omega
def zj{a b:Int}(ha:0<=a):a.tdiv b=a/b:=Int.tdiv_eq_ediv_of_nonneg ha
def mH{a b:Int}(ha:0<=a):a.tmod b=a%b:=Int.tmod_eq_emod_of_nonneg ha
def small(c:UInt8):Bool:=ah (97<=(c.toNat:Int))&&ah ((c.toNat:Int)<=122)
def digit(c:UInt8):Bool:=ah (48<=(c.toNat:Int))&&ah ((c.toNat:Int)<=57)
def eK(s:List UInt8):Bool:=match s with| []=>aw|c::r=>small c&&r.all (λc=>small c||digit c)&&ah (s.length<=10)
def iF(n lo hi:Int):Bool:=ah (lo<=n)&&ah (n<=hi)
def cS{n lo hi:Int}:iF n lo hi=ar↔lo<=n/\n<=hi:=by simp[iF]
def bx(n lo hi:Int):bD n lo hi=ae (iF n lo hi):=by rw[abt,iF];by_cases h:lo<=n<;>simp[h]
def jX(n lo hi:Int):eY n lo hi=ae (iF n lo hi):=by rw[aei,iF];by_cases h:lo<=n<;>simp[h]
def acI(a b:Int):OZ a b=ae (if b<a then b else a):=by
 rw[acH];simp only[ax];repeat' split
 all_goals first|rfl|(congr 1;omega)
def Kl(c:UInt8):A4 (c.toNat:Int)=ae (small c):=by rw[Xe,small];by_cases h:97<=(c.toNat:Int)<;>simp[h]
def Xd(c:UInt8):IK (c.toNat:Int)=ae (digit c):=by rw[Xc,digit];by_cases h:48<=(c.toNat:Int)<;>simp[h]
def MF(c:UInt8):Df (c.toNat:Int)=ae (digit c):=by rw[YK,digit];by_cases h:48<=(c.toNat:Int)<;>simp[h]
def Ft(s:List UInt8)(hs:s.length<4611686018427387904):∀(k i:Nat),i+k=s.length->qI s i=ae ((s.drop i).all λc=>small c||digit c)
 |0,i,h=>by
  rw[Fs,bb (by omega)]
  simp;omega
 |k+1,i,h=>by
  have hi:i<s.length:=by omega
  rw[Fs,drop_cons hi]
  have h1:(i:Int)<(s.length:Int):=by omega
  simp only[h1,aB,aC,aI,aE,getElem?_lt hi,af,Kl,Xd,fY (show i<4611686018427387904 by omega),Ft s hs k (i+1) (by omega),de]
  cases small s[i]<;>cases digit s[i]<;>simp
def jx(s:List UInt8)(hs:s.length<4611686018427387904):jZ s=ae (eK s):=by rw[ZL];cases s with|nil=>rfl|cons c r=>have:=Ft (c::r) hs (r.length+1) 0 (by simp);simp only[SF,bg,af,Kl];rw[show((0:Nat):Int)=0 from rfl]at this;rw[this,eK];(have e0:((c::r)==([]:List UInt8))=aw:=by simp);by_cases hl:((c::r).length:Int)>10;(·(have:¬(c::r).length<=10:=by omega);simp only[e0,hl,this,aB,aW,aC,ao,aH,Bool.and_false]);·(have:(c::r).length<=10:=by omega);simp only[e0,hl,this,aB,aW,aC,ao,aH,aeG];cases hc:small c<;>simp[hc]
def OB:Nat->List UInt8->Bool
 |_,[]=>ar
 |i,c::r=>(small c||(i !=0&&digit c))&&OB (i+1) r
def ak3(r:List UInt8):∀i,OB (i+1) r=r.all λc=>small c||digit c:=by induction r with|nil=>intro i;rfl|cons c r ih=>intro i;simp[OB,ih]
def GI(s:List UInt8)(hs:s.length<4611686018427387904):∀(k i:Nat),i+k=s.length->sA s i=ae (OB i (s.drop i)&&(!(s==[])&&ah (s.length<=10)))
 |0,i,h=>by
  rw[GH,bb (by omega),fG]
  have h1:¬(i:Int)<(s.length:Int):=by omega
  simp only[h1,aW,ao,aH,OB,af,jD]
  cases s with
  |nil=>rfl
  |cons c r=>
   have:((c::r==[])=aw):=by simp
   simp only[this,fF,aC,jD]
   congr 1
   simp only[anP];omega
 |k+1,i,h=>by
  have hi:i<s.length:=by omega
  have h1:(i:Int)<(s.length:Int):=by omega
  have ih:=GI s hs k (i+1) (by omega)
  have e1:∀b:Bool,x6 s i b=ae (((b||(i !=0&&digit s[i]))&&OB (i+1) (s.drop (i+1)))&&(!(s==[])&&ah (s.length<=10))):=by intro b;rw[TT];simp only[aI,aB,aC,aE,getElem?_lt hi,af,MF,fY (show i<4611686018427387904 by omega),ih];cases b;(·by_cases h0:i=0;(·subst h0;simp);·(have:((i:Int)==0)=aw:=by simp[h0]);(have:(i !=0)=ar:=by simp[h0]);simp only[*];cases digit s[i]<;>simp);·simp
  rw[GH,drop_cons hi,OB]
  simp only[h1,aB,aC,aI,aE,getElem?_lt hi,af,e1,small]
  by_cases h97:(s[i].toNat:Int)>=97<;>simp[h97]
def j6(s:List UInt8)(hs:s.length<4611686018427387904):lP s=ae (eK s):=by rw[aa6];have:=GI s hs s.length 0 (by simp);rw[show((0:Nat):Int)=0 from rfl]at this;rw[this];cases s with|nil=>rfl|cons c r=>simp[OB,ak3,eK]
def jH(a b:Int)(ha: -2000000000000000000<=a/\a<=2000000000000000000)(hb:0<b/\b<=2000000000000000000):jT a b=ae (fS a b):=by
 rw[Wf];have e1:ag.wrap (0-b)= -b:=by rw[fR (by omega) (by omega)];omega
 have e2:ag.wrap (0-a)= -a:=by rw[fR (by omega) (by omega)];omega
 have e3:(if-b>b then-b else b)=b:=by rw[aO (by omega)]
 have hb0:¬b=0:=by omega
 have hbn:¬b<0:=by omega
 simp only[e1,e2,e3,hb0,hbn,aW,ao,aH];have main:∀x:Int,0<=x->x<=2000000000000000000->x.tmod b=x%b/\x.tdiv b=x/b/\0<=x%b/\x%b<b/\0<=x/b/\x/b<=x:=λx h0 h1=> ⟨mH h0,zj h0,DY _ (by omega),xG _ hb.1,auo h0 (by omega),ast b h0⟩;by_cases hneg:a<0
 ·have e4:(if-a>a then-a else a)= -a:=by rw[aJ (by omega)]
  obtain⟨m1,m2,m3,m4,m5,m6⟩:=main (-a) (by omega) (by omega);have e5:fS a b= -fS (-a) b:=by rw[<-PI (show 0< -a by omega) hb.1];congr 1;omega
  rw[e5,acm (show 0<= -a by omega) hb.1];simp only[e4,hneg,m1,m2,aB,Bool.true_beq,fF,aC];rw[fR (n:=b- -a%b) (by omega) (by omega),fR (n:= -a/b) (by omega) (by omega),fR (n:= -a/b+1) (by omega) (by omega),fR (n:=0-(-a/b+1)) (by omega) (by omega),fR (n:=0- -a/b) (by omega) (by omega)];simp only[ax,ge_iff_le];split;·congr 1;omega
  ·congr 1;omega
 ·have e4:(if-a>a then-a else a)=a:=by rw[aO (by omega)]
  obtain⟨m1,m2,m3,m4,m5,m6⟩:=main a (by omega) (by omega);rw[acm (show 0<=a by omega) hb.1];simp only[e4,hneg,m1,m2,aW,lU,aY,ao,aH];rw[fR (n:=b-a%b) (by omega) (by omega),fR (n:=a/b) (by omega) (by omega),fR (n:=a/b+1) (by omega) (by omega)];simp only[ax,ge_iff_le];split;·rfl
  ·congr 1;omega
def Fp(l:List Int)(hl:l.length<=1000):∀(k:Nat) (r:List Int),k<=l.length->r.length+k<=1000->yX ((k:Int)-1) l r=ae ((r++(l.take k).reverse).map vu8)
 |0,r,hk,hr=>by
  rw[HK]
  have:¬((0:Nat):Int)-1>=0:=by omega
  simp only[this,aW,ao,aH,aA,xf,List.reverse_nil,bS]
 |k+1,r,hk,hr=>by
  rw[HK,show((k+1:Nat):Int)-1=(k:Int)by omega]
  have h1:(k:Int)>=0:=by omega
  have h2:(0:Int)<=(k:Int):=by omega
  have h3:(k:Int)<(l.length:Int):=by omega
  have h4:r.length+1<lim:=by rw[lM];omega
  have ih:=Fp l hl k (r++ [l[k]]) (by omega) (by simp;omega)
  simp only[h1,h2,h3,aB,bM,aC,aE,getElem?_lt (show k<l.length by omega),af,h4,aA,fR (n:=(k:Int)-1) (by omega) (by omega),ih]
  rw[aaw (by omega),D0,dJ];rfl
def SD(l:List Int)(hl:l.length<=900):tC l=ae (l.reverse.map vu8):=by rw[Vb,fR (n:=(l.length:Int)-1) (by omega) (by omega),Fp l (by omega) l.length [] (by omega) (by simp;omega),dU,aA]
def yQ(u:Nat):List Int:=(fJ u).reverse.map λc=>(c.toNat:Int)
def decDigits_one{u:Nat}(h:u<10):fJ u=[oD (48+u)]:=by rw[fJ,axc h]
def Nz{u:Nat}(h:¬u<10):fJ u=fJ (u/10)++ [oD (48+u%10)]:=by rw[fJ,dif_neg h]
def auv{d:Nat}(h:d<10):((oD (48+d)).toNat:Int)=48+(d:Int):=by
 have:(oD (48+d)).toNat=48+d:=by simp;omega
 rw[this];omega
def awe{n:Int}(h1:0<=n)(h2:n<256):KC.wrap n=n:=by
 simp only[afZ,Tb,Np]
 first
  |omega
  |(simp;omega)
def Fl(n:Int):∀(k u:Nat) (v:Int) (r:List Int),(0<=v/\v=(u:Int)\/v<0/\v= -(u:Int))->u<=2000000000000000000->u<10^k->u≠0->(0<=n↔0<=v)->r.length+k<=800->
 o6 n v r=tC (r++yQ u++if n<0 then [45]else [])
 |0,u,v,r,hv,hb,hu,hz,hn,hr=>by simp at hu;omega
 |k+1,u,v,r,hv,hb,hu,hz,hn,hr=>by
  have hp:10^(k+1)=10^k*10:=ako ..
  have hvz:(v !=0)=ar:=by(have:v≠0:=by omega);simpa using this
  have h4:r.length+1<lim:=by rw[lM];omega
  have key:o6 n v r=o6 n (if v<0 then-((u/10:Nat):Int)else((u/10:Nat):Int)) (r++ [48+((u%10:Nat):Int)]):=by rw[HJ];simp only[hvz,aC];(have wrapd:KC.wrap (ag.wrap (48+((u%10:Nat):Int)))=48+((u%10:Nat):Int):=by rw[fR (by omega) (by omega)];exact awe (by omega) (by omega));(rcases hv with ⟨h0,e⟩|⟨h0,e⟩);(·(have hm:v.tmod 10=((u%10:Nat):Int):=by rw[e,mH (by omega)];omega);(have hd:v.tdiv 10=((u/10:Nat):Int):=by rw[e,zj (by omega)];omega);(have hnn:¬((u%10:Nat):Int)<0:=by omega);(have hnv:¬v<0:=by omega);simp only[hm,hnn,aW,ao,aH,hnv,yW,h4,aB,aC,aA,hd,fR (n:=((u/10:Nat):Int)) (by omega) (by omega),wrapd]);·(have hm:v.tmod 10= -((u%10:Nat):Int):=by rw[e,Int.neg_tmod,mH (by omega)];omega);(have hd:v.tdiv 10= -((u/10:Nat):Int):=by rw[e,Int.neg_tdiv,zj (by omega)];omega);(have e0:ag.wrap (0- -((u%10:Nat):Int))=((u%10:Nat):Int):=by rw[fR (by omega) (by omega)];omega);by_cases hc: -((u%10:Nat):Int)<0;(·simp only[hm,hc,aB,aC,h0,yW,h4,aA,hd,fR (n:= -((u/10:Nat):Int)) (by omega) (by omega),e0,wrapd]);·(have e1: -((u%10:Nat):Int)=((u%10:Nat):Int):=by omega);(have hc':¬((u%10:Nat):Int)<0:=by omega);rw[e1]at hm;simp only[hm,hc',aW,ao,aH,h0,aC,yW,h4,aB,aA,hd,fR (n:= -((u/10:Nat):Int)) (by omega) (by omega),wrapd]
  rw[key]
  by_cases hs:u<10
  ·have hq:u/10=0:=by omega
   have hz0:(if v<0 then-((u/10:Nat):Int)else((u/10:Nat):Int))=0:=by rw[hq];split<;>rfl
   have e2:yQ u=[48+((u%10:Nat):Int)]:=by rw[yQ,decDigits_one hs,Nn,List.map_singleton,auv hs,Nat.mod_eq_of_lt hs]
   rw[hz0,HJ,e2]
   have h5:(r++ [48+((u%10:Nat):Int)]).length+1<lim:=by rw[lM];simp;omega
   by_cases hn0:n<0
   ·simp only[bne_self_eq_false,ao,aH,hn0,aB,aC,h5,aA]
   ·simp only[bne_self_eq_false,ao,aH,hn0,aW,bS]
  ·have e2:yQ u=(48+((u%10:Nat):Int))::yQ (u/10):=by
    rw[yQ,Nz hs,D0,Nn,jO,aP,auv (Nat.mod_lt u (by omega)),yQ]
   rw[Fl n k (u/10) _ (r++ [48+((u%10:Nat):Int)]) (by split<;>omega) (by omega) (by omega) (by omega) (by split<;>omega) (by simp;omega),e2]
   simp only[dJ,jO,sn,dU]
def ag8(u:Nat):(yQ u).reverse.map vu8=fJ u:=by
 rw[yQ,<-List.map_reverse,List.reverse_reverse,uX];conv=>rhs;rw[<-List.map_id (fJ u)]
 exact nw λc _=>by simp[vu8]
def aqi:∀(k u:Nat),u<10^(k+1)->(fJ u).length<=k+1
 |0,u,h=>by rw[decDigits_one (by simpa using h)];simp
 |k+1,u,h=>by
  by_cases hs:u<10
  ·rw[decDigits_one hs];simp
  ·have hp:10^(k+1+1)=10^(k+1)*10:=ako ..
   have:=aqi k (u/10) (by omega)
   rw[Nz hs,aQ,fB];omega
def ajl(u:Nat)(h:u<=2000000000000000000):(yQ u).length<=20:=by
 rw[yQ,aT,S5];have h10:(10:Nat)^(19+1)=100000000000000000000:=by decide
 exact aqi 19 u (by omega)
def Kj(n:Int)(h: -2000000000000000000<=n/\n<=2000000000000000000):tw n=ae (bG n):=by
 rw[acJ];by_cases hz:n=0;·subst hz;simp only[lU,aC];rw[bG,aO (by decide),show(0:Int).toNat=0 from rfl,decDigits_one (by decide)];rfl
 have hz':(n==0)=aw:=by simpa using hz
 simp only[hz',ao,aH];have hu:n.natAbs<10^20:=by(have:(10:Nat)^20=100000000000000000000:=by decide);omega
 rw[Fl n 20 n.natAbs n [] (by omega) (by omega) hu (by omega) Iff.rfl (by simp),SD _ (by
  have:=ajl n.natAbs (by omega)
  rw[dU,aQ]
  split<;>simp<;>omega)]
 rw[dU,D0,eu,ag8];unfold bG;by_cases hn:n<0;·rw[aJ hn,aJ hn];rfl
 ·rw[aO hn,aO hn,show n.toNat=n.natAbs by omega];rfl
def Ot{c:UInt8}:∀{a:List UInt8},c∉a->af0 a [c]= -1
 | [],_=>rfl
 |b::l,h=>by
  have h1:(c==b)=aw:=by simp at h;simpa using h.1
  have h2:=Ot (a:=l) (λe=>h (aL _ e))
  unfold af0
  simp[adx,h1,h2]
def Wp{c:UInt8}:∀{a:List UInt8} (r:List UInt8),c∉a->af0 (a++c::r) [c]=a.length
 | [],r,_=>by simp[af0,adx]
 |b::l,r,h=>by
  have h1:(c==b)=aw:=by simp at h;simpa using h.1
  have h2:=Wp (a:=l) r (λe=>h (aL _ e))
  rw[sn]
  unfold af0
  have h3:((l.length:Int)== -1)=aw:=by rw[fj];omega
  simp[adx,h1,h2,h3]
def O3{c:UInt8}{a:List UInt8}(h:c∉a):uV [c] 0 (Nq a [c]) a=[a]:=by rw[Lib.count_miss (Ot h)];rfl
def O2{c:UInt8}{a:List UInt8}(r:List UInt8)(h:c∉a):uV [c] 0 (Nq (a++c::r) [c]) (a++c::r)=a::uV [c] 0 (Nq r [c]) r:=by
 have hi:=Wp r h;have hm:¬((a.length:Int)== -1)=ar:=by rw[b9];omega
 have hd:(a++c::r).drop (a.length+ [c].length)=r:=by simp[F9]
 rw[Lib.count_hit (by simp) hi,hd,Nat.add_comm 1,uV,hi,aO hm,aE,hd];simp
def anM{c:UInt8}{a:List UInt8}(h:c∉a):A7 a [c]=(a,[],aw):=by unfold A7;rw[Ot h];rfl
def asJ{c:UInt8}{a:List UInt8}(r:List UInt8)(h:c∉a):A7 (a++c::r) [c]=(a,r,ar):=by unfold A7;rw[Wp r h,aJ (by omega),aE];simp[F9]
def wu8{n:Int}(h1:0<=n)(h2:n<256):KC.wrap n=n:=by
 have e:KC.wrap n=n%256:=by simp[afZ,Np,Tb]
 rw[e];omega
def aaY:List UInt8->Int->Int×Bool
 | [],n=>(n,ar)
 |c::r,n=>if digit c=ar then aaY r (10*n+((c.toNat:Int)-48))else(0,aw)
def adJ(s:List UInt8):Int×Bool:=if s=[]then(0,aw)else if s.length>18 then(0,aw)else aaY s 0
def CY(s:List UInt8)(hs:s.length<=18):∀(k i:Nat) (n:Int),i+k=s.length->0<=n->n<10^i->uo s n i=ae (aaY (s.drop i) n)
 |0,i,n,hk,h0,hn=>by
  rw[CX]
  have:¬(i:Int)<(s.length:Int):=by omega
  rw[bb (by omega)]
  simp[this,aaY]
 |k+1,i,n,hk,h0,hn=>by
  have hi:i<s.length:=by omega
  have hlt:(i:Int)<(s.length:Int):=by omega
  have hp:(10:Int)^i<=10^17:=by have h:=Nat.pow_le_pow_right (show 0<10 by decide) (show i<=17 by omega);exact_mod_cast h
  have hq:(10:Int)^(i+1)=10^i*10:=Int.pow_succ ..
  have h17:(10:Int)^17=100000000000000000:=by decide
  rw[CX,drop_cons hi,aaY]
  have hi0:(0:Int)<=(i:Int):=by omega
  simp only[hlt,aB,aC,hi0,aE,getElem?_lt hi,af,MF]
  cases hd:digit s[i]
  ·rfl
  have hd':=hd
  simp only[digit,aj,ax]at hd'
  have hw:KC.wrap ((s[i].toNat:Int)-48)=(s[i].toNat:Int)-48:=wu8 (by omega) (by omega)
  simp only[aY,ao,aH,aC,hw,fR (n:=10*n) (by omega) (by omega),fR (n:=(s[i].toNat:Int)-48) (by omega) (by omega),fR (n:=10*n+((s[i].toNat:Int)-48)) (by omega) (by omega),fY (show i<4611686018427387904 by omega)]
  exact CY s hs k (i+1) _ (by omega) (by omega) (by rw[hq];omega)
def lX(s:List UInt8):Io s=ae (adJ s):=by
 rw[Wd];unfold adJ;by_cases h1:s=[];·simp[h1]
 have h1':(s==[])=aw:=by simpa using h1
 simp only[h1',ao,aH,h1,ax];by_cases h2:s.length>18
 ·have:(s.length:Int)>18:=by omega
  simp[this,h2]
 ·have:¬(s.length:Int)>18:=by omega
  simp only[this,aH,h2,Qp];exact CY s (by omega) s.length 0 0 (by omega) (by omega) (by simp)
def gQ(n:Int)(h: -9223372036854775808<=n/\n<=9223372036854775807):fM n=ae (bG n):=by rw[YA,O9];simp[h.1,h.2]
def Su(n:Int)(d:Nat):List UInt8:=F0 [48] (d-(bG n).length)++bG n
def Oe(n:Int)(d:Nat)(h: -9223372036854775808<=n/\n<=9223372036854775807)(hd:d<=1000)(hl:(bG n).length<=1000):Ha n d=ae (Su n d):=by
 have hm:(if(d:Int)-((bG n).length:Int)>0 then(d:Int)-((bG n).length:Int)else 0)=((d-(bG n).length:Nat):Int):=by split<;>omega
 rw[abn,gQ n h];simp only[af];rw[fR (n:=(d:Int)-((bG n).length:Int)) (by omega) (by omega),hm,HV];have h1:((d-(bG n).length:Nat):Int)>=0:=by omega
 have h2:((d-(bG n).length:Nat):Int)<=9223372036854775807:=by omega
 have h3:([48]:List UInt8).length*(d-(bG n).length)<=140737488355328:=by simp;omega
 have h4:(F0 [48] (d-(bG n).length)).length+(bG n).length<=bj:=by rw[Lib.repeatL_length,DV];simp;omega
 simp only[h1,h2,aE,h3,aB,bM,aC,af,h4];rfl
def ayH{n:Int}(h1:0<=n)(h2:n<18446744073709551616):dk.wrap n=n:=by
 have e:dk.wrap n=if decide aw=ar then n%18446744073709551616-18446744073709551616 else n%18446744073709551616:=by simp[afZ,Np,Tb]
 rw[e];simp;omega
def avl(x:Int):((eo dk.bits x&&&eo dk.bits 255).toNat:Int)<=255:=by
 have:(eo dk.bits x&&&eo dk.bits 255).toNat<=255:=by rw[BitVec.toNat_and];refine dZ Nat.and_le_right ?_;decide
 omega
def jP(s:ba.ty)(c:Int):Prop:=(∀x:Int,x∈s.1->0<=x/\x<=255)/\s.1.length<=1048576/\(0:Int)<=s.2.1/\(s.2.1:Int)<=c
def rY(s:ba.ty):(s.1,s.2.1,s.2.2.1,())=s:=rfl
def jP.up{s:ba.ty}{c d:Int}(h:jP s c)(hd:c<=d):jP s d:=⟨h.1,h.2.1,h.2.2.1,pc h.2.2.2 hd⟩
def abE(v:Int)(l:List Int)(a h:Int)(c:Int)(hs:jP (l,a,h,()) c)(hc:c<=1152921504606846976)(hv:0<=v/\v<=255): ∃(u:Int) (s':ba.ty),oz v l a h=ae (u,s')/\jP s' (c+1)/\0<=u/\u<=255:=by
 obtain⟨h1,h2,h3,h4⟩:=hs;have h3:0<=a:=h3;have h4:a<=c:=h4;rw[LV,fR (n:=a+1) (by omega) (by omega)];split;·exact⟨_,_,rfl,⟨h1,h2,by show(0:Int)<=a+1;omega,by show(a+1:Int)<=c+1;omega⟩,hv⟩
 ·refine⟨_,_,rfl,⟨h1,h2,by show(0:Int)<=a+1;omega,by show(a+1:Int)<=c+1;omega⟩,?_⟩;generalize hx:((eo dk.bits _&&&eo dk.bits 255).toNat:Int)=x;have:=avl (Int.fdiv (dk.wrap ((dk.wrap ((dk.wrap (h*6364136223846793005))+(dk.wrap v)))+1442695040888963407)) (2^(min (40:Int).toNat dk.bits)));rw[hx]at this;have h0:0<=x:=by rw[<-hx];exact aI _
  rw[ayH h0 (by omega),fR (by omega) (by omega)];exact⟨h0,this⟩
def an7(l:List Int)(a h c:Int)(hs:jP (l,a,h,()) c)(hc:c<=1152921504606846976):∃(u:Int) (s':ba.ty),o5 (l,a,h,())=ae (u,s')/\jP s' (c+1)/\0<=u/\u<=255:=by
 have h3:(0:Int)<=a:=hs.2.2.1;rw[QH];dsimp only;split
 ·rename_i hlt;simp only[ax]at hlt;have hlt':a<(cP (α:=Int) l:Int):=hlt;have hi:a.toNat<l.length:=by omega
  obtain⟨x,hx⟩:∃x,l[a.toNat]? =ae x:=⟨_,ay hi⟩;have hm:0<=x/\x<=255:=hs.1 x (bw hx);rw[aJ (by simpa using h3),hx,af,fR (n:=x) (by omega) (by omega)];exact abE x l a h c hs hc hm
 ·exact abE 0 l a h c hs hc ⟨by omega,by omega⟩
def amL{s:ba.ty}{c:Int}(hs:jP s c)(hc:c<=1152921504606846976):∃(u:Int) (s':ba.ty),o5 s=ae (u,s')/\jP s' (c+1)/\0<=u/\u<=255:=
 an7 s.1 s.2.1 s.2.2.1 c hs hc
def fv{s:ba.ty}{c:Int}(hs:jP s c)(hc:c<=1000000000000000000)(n:Int)(hn:n<=65536): ∃(u:Int) (s':ba.ty),br s n=ae (u,s')/\jP s' (c+2)/\0<=u/\(u=0\/u<n):=by
 rw[QI];by_cases h1:n<=1;·simp only[h1,aB,aC];exact⟨0,s,rfl,hs.up (by omega),by omega,.inl rfl⟩
 ·obtain⟨u,s1,e1,k1,b1,b2⟩:=amL hs (by omega);have hn0:¬n=0:=by omega
  simp only[h1,aW,ao,aH,e1,af,rY,hn0];by_cases h2:n>200;·obtain⟨v,s2,e2,k2,b3,b4⟩:=amL k1 (by omega);simp only[h2,aB,aC,e2,af,rY];rw[fR (n:=u*256) (by omega) (by omega),fR (n:=u*256+v) (by omega) (by omega),mH (by omega)];exact⟨_,s2,rfl,k2.up (by omega),DY _ hn0,.inr (xG _ (by omega))⟩
  ·simp only[h2,aW,ao,aH];rw[mH b1];exact⟨_,s1,rfl,k1.up (by omega),DY _ hn0,.inr (xG _ (by omega))⟩
def aqO{s:ba.ty}{c:Int}(hs:jP s c)(hc:c<=1000000000000000000)(n:Int)(hn:n<=65536): ∃(u:Bool) (s':ba.ty),nq s n=ae (u,s')/\jP s' (c+2):=by obtain⟨u,s1,e1,k1,_⟩:=fv hs hc n hn;rw[SC];simp only[e1,af,rY];exact⟨_,s1,rfl,k1⟩
def ap3{s:ba.ty}{c:Int}(hs:jP s c)(hc:c<=1000000000000000000)(l:List Int)(h0:0<l.length)(hn:l.length<=65536): ∃(u:Int) (s':ba.ty),rW s l=ae (u,s')/\jP s' (c+2)/\u∈l:=by
 obtain⟨u,s1,e1,k1,b1,b2⟩:=fv hs hc (l.length:Int) (by omega);have hi:u.toNat<l.length:=by omega
 rw[O0];simp only[e1,af,rY,b1,aB,aC,ay hi];exact⟨_,s1,rfl,k1,bc hi⟩
def asS(code:List Int)(h1:∀x,x∈code->0<=x/\x<=255)(h2:code.length<=1048576):∃s,LU code=ae s/\jP s 0:=by rw[ZJ];exact⟨_,rfl,h1,h2,dH _,dH _⟩
def ap8{l:List Int}(h:CT.wf (.sl (.one (.int .u8))) l):∀x,x∈l->0<=x/\x<=255:=λx hx=>by have:(Lit.int .u8 x).wf=ar:=h.2 x hx;simp[Lit.wf,IntKind.min,IntKind.max,Np,Tb]at this;omega
def MW(n:Int):Int:=if n<0 then-n else n
def aoi{a b:Int}(hb:0<b):2*MW (fS a b*b-a)<=b:=by
 have pos:∀a:Int,0<=a->2*MW (fS a b*b-a)<=b/\0<=a:=λa ha=>by refine⟨?_,ha⟩;unfold fS;rw[aO (by omega)];have h1:=al8 (2*a+b) (2*b);have h2:=DY (2*a+b) (show 2*b≠0 by omega);have h3:=xG (2*a+b) (show 0<2*b by omega);(have e:2*b*((2*a+b)/(2*b))=2*((2*a+b)/(2*b)*b):=by rw[awW,Int.mul_comm b]);rw[e]at h1;unfold MW;split<;>omega
 by_cases ha:0<=a;·exact(pos a ha).1
 ·have h:=(pos (-a) (by omega)).1;have e:fS a b= -fS (-a) b:=by rw[<-PI (show 0< -a by omega) hb];congr 1;omega
  rw[e,Int.neg_mul];unfold MW at h⊢;split at h<;>split<;>omega
def U1{a b m:Int}(hb:0<b)(h: -m<=a/\a<=m): -(m+1)<=fS a b/\fS a b<=m+1:=by
 by_cases ha:0<=a;·have:=yO ha hb;have:=U2 ha hb;omega
 ·have e:fS a b= -fS (-a) b:=by rw[<-PI (show 0< -a by omega) hb];congr 1;omega
  have:=yO (a:= -a) (by omega) hb;have:=U2 (a:= -a) (by omega) hb;omega
def idx(P:Nat->Bool)(n:Nat):List Int:=((dL n).filter P).map λ(j:Nat)=>(j:Int)
def ais(P:Nat->Bool)(n:Nat):idx P (n+1)=idx P n++if P n then [(n:Int)]else []:=by unfold idx;rw[asx,List.filter_append,eu];cases h:P n<;>simp[h]
def aab(P:Nat->Bool)(n:Nat):(idx P n).length<=n:=by unfold idx;rw[aT];exact dZ (List.length_filter_le _ _) (by simp)
def aqv(P:Nat->Bool)(n:Nat):∀x,x∈idx P n->0<=x/\x<n:=by intro x hx;unfold idx at hx;obtain⟨j,hj,rfl⟩:=dK.1 hx;have:=Jf.1 (awY.1 hj).1;omega
def Al(a b:Int)(h: -2000000000000000000<=a/\a<=2000000000000000000)(h': -2000000000000000000<=b/\b<=2000000000000000000):vN a b=ae (MW (a-b)):=by rw[We,fR (n:=a-b) (by omega) (by omega),fR (n:=b-a) (by omega) (by omega),MW];congr 1;split<;>split<;>omega
def avH{b d B D:Int}(hb:0<=b/\b<=B)(hd: -D<=d/\d<=D): -(B*D)<=b*d/\b*d<=B*D:=by
 have up:∀d:Int,-D<=d/\d<=D->b*d<=B*D:=λd hd=>by by_cases h:0<=d;(·exact pc (kT hb.2 h) (Int.mul_le_mul_of_nonneg_left hd.2 (by omega)));·have h1:b*d<=0:=Int.mul_nonpos_of_nonneg_of_nonpos hb.1 (by omega);have h2:0<=B*D:=af3 (by omega) (by omega);omega
 have h1:=up d hd;have h2:=up (-d) (by omega);rw[Int.mul_neg]at h2;omega
def iX(y m:Nat):Int:=if m=1 then(if y%4=0 then 29 else 28)else([31,28,31,30,31,30,31,31,30,31,30,31]:List Int)[m]?.getD 0
def uU(y:Nat):Int:=337+iX y 1
def CG:Nat->Int
 |0=>0
 |n+1=>CG n+uU (2000+n)
def Aq(y:Nat):Nat->Int
 |0=>0
 |m+1=>Aq y m+iX y m
def yF{y m:Nat}(h:m<12):28<=iX y m/\iX y m<=31:=by
 unfold iX;split;·split<;>omega
 ·have:∀m,m<12->28<=(([31,28,31,30,31,30,31,31,30,31,30,31]:List Int)[m]?.getD 0)/\(([31,28,31,30,31,30,31,31,30,31,30,31]:List Int)[m]?.getD 0)<=31:=by decide+kernel
  exact this m h
def aqn(y:Nat):28<=iX y 1/\iX y 1<=29:=by unfold iX;rw[aJ rfl];split<;>omega
def anh:∀n,0<=CG n/\CG n<=366*n
 |0=>by simp[CG]
 |n+1=>by
  have:=anh n
  have:=aqn (2000+n)
  show 0<=CG n+(337+iX (2000+n) 1)/\CG n+(337+iX (2000+n) 1)<=_
  omega
def ar7:CG 100=36525:=by decide+kernel
def ata(y:Nat):Aq y 12=uU y:=by
 show 0+iX y 0+iX y 1+iX y 2+iX y 3+iX y 4+iX y 5+iX y 6+iX y 7+iX y 8+iX y 9+iX y 10+iX y 11=uU y;unfold uU;have h:∀m,m≠1->iX y m=([31,28,31,30,31,30,31,31,30,31,30,31]:List Int)[m]?.getD 0:=λm hm=>by unfold iX;rw[aO hm]
 rw[h 0 (by decide),h 2 (by decide),h 3 (by decide),h 4 (by decide),h 5 (by decide),h 6 (by decide),h 7 (by decide),h 8 (by decide),h 9 (by decide),h 10 (by decide),h 11 (by decide)];simp;omega
def amH(y:Nat):∀m,m<=12->0<=Aq y m/\Aq y m<=31*m
 |0,_=>by simp[Aq]
 |m+1,h=>by
  have:=amH y m (by omega)
  have:=yF (y:=y) (m:=m) (by omega)
  show 0<=Aq y m+iX y m/\Aq y m+iX y m<=_
  omega
def kD(y m:Nat)(hy:y<1000000)(hm:m<12):mr (y:Int) ((m:Int)+1)=ae (iX y m):=by
 have h4:(y:Int).tmod 4=((y%4:Nat):Int):=by rw[mH (by omega)];omega
 rw[Ue,h4,fR (n:=(m:Int)+1-1) (by omega) (by omega),show(m:Int)+1-1=m by omega];unfold iX;by_cases h1:m=1
 ·subst h1;by_cases h2:y%4=0;·simp[h2]
  ·(have:((y%4:Nat):Int)≠0:=by omega);simp only[this,h2,b9,aH];rfl
 ·have:¬((m:Int)+1=2):=by omega
  simp only[b9,this,aH,h1];revert h1 this;revert m;decide+kernel
def JT(y:Nat)(hy:y<1000000):vQ (y:Int)=ae (uU y):=by have:=yF (y:=y) (m:=1) (by omega);have h:=kD y 1 hy (by omega);rw[Wn];rw[show((1:Nat):Int)+1=2 by rfl]at h;rw[h,af,fR (by omega) (by omega)];rfl
def GA(d:Int)(y:Nat)(hy:y<1000000)(h0:0<=d)(hd:d<uU y):∀(k i:Nat),i+k=12->Aq y i<=d->
 ∃(m:Nat) (r:Int),m<12/\0<=r/\r<iX y m/\d=Aq y m+r/\sr (d-Aq y i) y ((i:Int)+1)=ae ((y:Int),(m:Int)+1,r+1,0)
 |0,i,hk,hi=>by
  have:i=12:=by omega
  subst this
  rw[ata]at hi;omega
 |k+1,i,hk,hi=>by
  have hb:=amH y i (by omega)
  have hm:=yF (y:=y) (m:=i) (by omega)
  have hyb:=yF (y:=y) (m:=1) (by omega)
  unfold uU at hd
  rw[TK,kD y i hy (by omega)]
  simp only[af,ax]
  by_cases hc:d-Aq y i>=iX y i
  ·simp only[hc,aC]
   rw[fR (n:=d-Aq y i-iX y i) (by omega) (by omega),fR (n:=(i:Int)+1+1) (by omega) (by omega)]
   have ih:=GA d y hy h0 hd k (i+1) (by omega) (by show Aq y i+iX y i<=d;omega)
   rw[show d-Aq y i-iX y i=d-Aq y (i+1)by show _=d-(Aq y i+iX y i);omega,show(i:Int)+1+1=((i+1:Nat):Int)+1 by omega]
   exact ih
  ·simp only[hc,aH]
   rw[fR (n:=d-Aq y i+1) (by omega) (by omega)]
   exact⟨i,d-Aq y i,by omega,by omega,by omega,by omega,rfl⟩
def Gz(d:Int)(h0:0<=d)(hd:d<=36524):∀(k n:Nat),n+k=100->CG n<=d->
 ∃(y:Nat) (e:Int),y<100/\0<=e/\e<uU (2000+y)/\d=CG y+e/\xT (d-CG n) ((2000+n:Nat):Int)=sr e ((2000+y:Nat):Int) 1
 |0,n,hk,hn=>by
  have:n=100:=by omega
  subst this
  rw[ar7]at hn;omega
 |k+1,n,hk,hn=>by
  have hb:=anh n
  have hm:=yF (y:=2000+n) (m:=1) (by omega)
  rw[TJ,JT (2000+n) (by omega)]
  simp only[af,ax]
  by_cases hc:d-CG n>=uU (2000+n)
  ·simp only[hc,aC]
   rw[fR (n:=d-CG n-uU (2000+n)) (by unfold uU at*;omega) (by unfold uU at*;omega),fR (n:=((2000+n:Nat):Int)+1) (by omega) (by omega)]
   have ih:=Gz d h0 hd k (n+1) (by omega) (by show CG n+uU (2000+n)<=d;omega)
   rw[show d-CG n-uU (2000+n)=d-CG (n+1)by show _=d-(CG n+uU (2000+n));omega,show((2000+n:Nat):Int)+1=((2000+(n+1):Nat):Int)by omega]
   exact ih
  ·simp only[hc,aH]
   exact⟨n,d-CG n,by omega,by omega,by omega,by omega,rfl⟩
def af4(d:Int)(y m:Nat)(r:Int):Prop:=y<100/\m<12/\0<=r/\r<iX (2000+y) m/\d=CG y+Aq (2000+y) m+r
def aa5(d:Int)(h0:0<=d)(hd:d<=36524):∃(y m:Nat) (r:Int),af4 d y m r/\Bc d=ae (((2000+y:Nat):Int),(m:Int)+1,r+1,0):=by rw[NH,AU,bx,show iF d 0 36524=ar from cS.2 ⟨h0,hd⟩];obtain⟨y,e,hy,he0,he1,hde,e1⟩:=Gz d h0 hd 100 0 (by omega) (by show(0:Int)<=d;exact h0);obtain⟨m,r,hm,hr0,hr1,her,e2⟩:=GA e (2000+y) (by omega) he0 he1 12 0 (by omega) (by show(0:Int)<=e;exact he0);refine⟨y,m,r,⟨hy,hm,hr0,hr1,by omega⟩,?_⟩;simp only[af,aY,ao,aH];rw[show d-CG 0=d by show d-0=d;omega,show((2000+0:Nat):Int)=2000 by rfl]at e1;rw[show e-Aq (2000+y) 0=e by show e-0=e;omega,show((0:Nat):Int)+1=1 by rfl]at e2;rw[e1,e2]
def Yz(d:Int)(h:iF d 0 36524=aw):Bc d=ae (0,0,0,2):=by rw[NH,AU,bx,h];rfl
def Bh(y:Nat)(hy:y<1000000)(m:Nat)(hm:m<12):∀(k i:Nat) (v:Int),i+k=m-> -100000<=v->v<=100000+31*i->
 rH y ((m:Int)+1) v ((i:Int)+1)=ae (v+(Aq y m-Aq y i),0)
 |0,i,v,hk,h0,h1=>by
  have:i=m:=by omega
  subst this
  rw[Bg]
  simp
 |k+1,i,v,hk,h0,h1=>by
  have hb:=yF (y:=y) (m:=i) (by omega)
  rw[Bg]
  have:(i:Int)+1<(m:Int)+1:=by omega
  simp only[this,aB,aC,kD y i hy (by omega),af]
  rw[fR (n:=v+iX y i) (by omega) (by omega),fR (n:=(i:Int)+1+1) (by omega) (by omega),show(i:Int)+1+1=((i+1:Nat):Int)+1 by omega]
  rw[Bh y hy m hm k (i+1) _ (by omega) (by omega) (by omega)]
  congr 2
  show v+iX y i+(Aq y m-(Aq y i+iX y i))=_
  omega
def Bf(y:Nat)(hy:y<100)(m:Nat)(hm:m<12):∀(k i:Nat) (v:Int),i+k=y-> -10000<=v->v<=10000+366*i->
 rG ((2000+y:Nat):Int) ((m:Int)+1) v ((2000+i:Nat):Int)=ae (v+(CG y-CG i)+Aq (2000+y) m,0)
 |0,i,v,hk,h0,h1=>by
  have:i=y:=by omega
  subst this
  rw[Bd]
  have h2:=Bh (2000+i) (by omega) m hm m 0 v (by omega) (by omega) (by omega)
  rw[show((0:Nat):Int)+1=1 by rfl]at h2
  have:¬((2000+i:Nat):Int)<((2000+i:Nat):Int):=by omega
  simp only[this,aW,ao,aH,h2]
  congr 2
  show v+(Aq (2000+i) m-0)=_
  omega
 |k+1,i,v,hk,h0,h1=>by
  have hb:=aqn (2000+i)
  rw[Bd]
  have:((2000+i:Nat):Int)<((2000+y:Nat):Int):=by omega
  simp only[this,aB,aC,JT (2000+i) (by omega),af]
  rw[fR (n:=v+uU (2000+i)) (by unfold uU;omega) (by unfold uU;omega),fR (n:=((2000+i:Nat):Int)+1) (by omega) (by omega),show((2000+i:Nat):Int)+1=((2000+(i+1):Nat):Int)by omega]
  rw[Bf y hy m hm k (i+1) _ (by omega) (by unfold uU;omega) (by unfold uU;omega)]
  congr 2
  show v+uU (2000+i)+(CG y-(CG i+uU (2000+i)))+_=_
  omega
def GB{d:Int}{y m:Nat}{r:Int}(h:af4 d y m r):xU ((2000+y:Nat):Int) ((m:Int)+1) (r+1)=ae (d,0):=by obtain⟨hy,hm,hr0,hr1,hd⟩:=h;have hb:=yF (y:=2000+y) (m:=m) hm;have e:=Bf y hy m hm y 0 r (by omega) (by omega) (by omega);rw[show((2000+0:Nat):Int)=2000 by rfl]at e;rw[xV,bx,show iF ((2000+y:Nat):Int) 2000 2099=ar from cS.2 (by omega),bx,show iF ((m:Int)+1) 1 12=ar from cS.2 (by omega),kD (2000+y) m (by omega) hm];simp only[af,aY,ao,aH];rw[bx,show iF (r+1) 1 (iX (2000+y) m)=ar from cS.2 (by omega)];simp only[af,aY,ao,aH,NI];rw[fR (n:=r+1-1) (by omega) (by omega),show r+1-1=r by omega,e];congr 2;show r+(CG y-0)+_=_;omega
def Ws:∀y,y<100->(bG ((2000+y:Nat):Int)).length=4/\(45:UInt8)∉bG ((2000+y:Nat):Int)/\adJ (bG ((2000+y:Nat):Int))=(((2000+y:Nat):Int),ar):=by decide+kernel
def PE:∀n,n<100->(bG ((n:Nat):Int)).length<=2/\(Su ((n:Nat):Int) 2).length=2/\(45:UInt8)∉Su ((n:Nat):Int) 2/\(58:UInt8)∉Su ((n:Nat):Int) 2/\adJ (Su ((n:Nat):Int) 2)=((n:Int),ar):=by decide+kernel
def VT{d:Int}{y m:Nat}{r:Nat}(h:Bc d=ae (((2000+y:Nat):Int),(m:Int)+1,(r:Int)+1,0))(hy:y<100)(hm:m<12)(hr:r<31): nU d=ae (bG ((2000+y:Nat):Int)++45::(Su ((m+1:Nat):Int) 2++45::Su ((r+1:Nat):Int) 2)):=by have l1:=Ws y hy;have l2:=PE (m+1) (by omega);have l3:=PE (r+1) (by omega);have p2:=Oe ((m+1:Nat):Int) 2 (by omega) (by omega) (by omega);have p3:=Oe ((r+1:Nat):Int) 2 (by omega) (by omega) (by omega);rw[show((2:Nat):Int)=2 by rfl]at p2 p3;rw[Jt,h];simp only[af,bne_self_eq_false,ao,aH,gQ _ (show-9223372036854775808<=((2000+y:Nat):Int)/\((2000+y:Nat):Int)<=9223372036854775807 by omega)];rw[show(m:Int)+1=((m+1:Nat):Int)by omega,show(r:Int)+1=((r+1:Nat):Int)by omega,p2,p3];simp only[af,aQ,bh,cy,l1.1,l2.2.1,l3.2.1,DV];simp
def ae4{d:Nat}(h:d<10):(oD (48+d)).toNat=48+d:=by rw[UInt8.toNat_ofNat'];omega
def AN(u:Nat):∀c,c∈fJ u->48<=c.toNat/\c.toNat<=57:=by induction u using Nat.strongRecOn with|_ u ih=>intro c hc;rw[fJ]at hc;split at hc;(·rename_i h;simp only[aX]at hc;rw[hc,ae4 h];omega);·rename_i h;(rcases aU.1 hc with h1|h1);(·exact ih (u/10) (by omega) c h1);·simp only[aX]at h1;rw[h1,ae4 (by omega)];omega
def H6:∀(k u:Nat),u<10^(k+1)->(fJ u).length<=k+1/\1<=(fJ u).length
 |0,u,h=>by
  rw[fJ,axc (by simpa using h)];simp
 |k+1,u,h=>by
  rw[fJ]
  split
  ·simp
  ·have hq:u/10<10^(k+1):=by
    have:10^(k+1+1)=10^(k+1)*10:=ako ..
    omega
   have:=H6 k (u/10) hq
   simp only[aQ,fB]
   omega
def aiw(u:Nat):bG (u:Int)=fJ u:=by unfold bG;rw[aO (by omega)];simp
def ajj:∀k,∀c,c∈F0 [48] k->c=48
 |0,c,h=>by simp[F0]at h
 |k+1,c,h=>by
  have h:c∈48::F0 [48] k:=h
  rcases bl.1 h with h|h
  ·exact h
  ·exact ajj k c h
def ai1(u d:Nat):∀c,c∈Su (u:Int) d->48<=c.toNat/\c.toNat<=57:=by
 intro c hc;unfold Su at hc;rcases aU.1 hc with h|h
 ·rw[ajj _ c h];decide
 ·rw[aiw]at h;exact AN u c h
def aiQ{a:List UInt8}(h:∀c,c∈a->48<=c.toNat/\c.toNat<=57){c:UInt8}(hc:c.toNat<48\/57<c.toNat):c∉a:=λe=>by have:=h c e;omega
def tm(n:Int)(h: -1000000000000<=n/\n<=1000000000000):1<=(bG n).length/\(bG n).length<=15:=by
 have e13:(10:Nat)^(13+1)=100000000000000:=by decide
 unfold bG;split;·have:=H6 13 n.natAbs (by omega);simp;omega
 ·have:=H6 13 n.toNat (by omega);omega
def aiv(n:Int)(c:UInt8)(hc:c∈bG n):c=45\/48<=c.toNat/\c.toNat<=57:=by
 unfold bG at hc;split at hc
 ·rcases bl.1 hc with h|h
  ·exact .inl h
  ·exact .inr (AN _ c h)
 ·exact .inr (AN _ c hc)
def as3(n:Int){c:UInt8}(h:c≠45)(h':c.toNat<48\/57<c.toNat):c∉bG n:=λe=>by
 rcases aiv n c e with h1|h1
 ·exact h h1
 ·omega
def akN(x y:List UInt8)(r:List (List UInt8))(c:UInt8):mZ (x::y::r) [c]=x++c::mZ (y::r) [c]:=by rw[ahP,ahP];simp[Nr]
def amE{m:Nat}:∀(l:List (List UInt8)),(∀x,x∈l->x.length<=m)->af1 l<=m*l.length
 | [],_=>by simp[af1]
 |x::r,h=>by
  have h1:=amE r λy hy=>h y (aL _ hy)
  have h2:=h x (by simp)
  have e:af1 (x::r)=x.length+af1 r:=by simp[af1]
  rw[e,bh,Nat.mul_succ];omega
def abv{m:Nat}{c:UInt8}(l:List (List UInt8))(h:∀x,x∈l->x.length<=m):(mZ l [c]).length<=(m+1)*l.length:=by cases l with|nil=>simp[Lib.join_nil]|cons x r=>have h1:=amE (x::r) h;rw[Lib.join_length,Ga,fB,bh]at*;omega
def BE(l:List Int):List UInt8:=mZ (l.map bG) [44]
def PB(l:List Int)(hl:l.length<=64)(hx:∀x,x∈l-> -1000000000000<=x/\x<=1000000000000):(BE l).length<=1024:=by
 have h:=abv (m:=15) (c:=44) (l.map bG) λx hx'=>by obtain⟨n,hn,rfl⟩:=dK.1 hx';exact(tm n (hx n hn)).2
 rw[aT]at h;have:(BE l).length<=16*l.length:=h;omega
def CN(l:List Int)(hl:l.length<=64)(hx:∀x,x∈l-> -1000000000000<=x/\x<=1000000000000):∀(k i:Nat),i+k=l.length->tV l l.length i ((l.take i).map bG)=ae (BE l)
 |0,i,hk=>by
  rw[CM]
  have:¬(i:Int)<(l.length:Int):=by omega
  have hb:=PB l hl hx
  have e:(mZ (l.map bG) [44]).length<=140737488355328:=by have:(mZ (l.map bG) [44]).length<=1024:=hb;omega
  rw[aA,dO (by omega:l.length<=i)]
  simp only[this,aW,ao,aH,CC]
  have e2:(l.map bG).length<=140737488355328:=by rw[aT];omega
  simp only[e2,e,aB,bM,aC,af]
  rfl
 |k+1,i,hk=>by
  have hi:i<l.length:=by omega
  have hlt:(i:Int)<(l.length:Int):=by omega
  have hi0:(0:Int)<=(i:Int):=by omega
  have hb:=hx l[i] (bc hi)
  have hr:iF l[i] (-1000000000000) 1000000000000=ar:=cS.2 hb
  have hlim:((l.take i).map bG).length+1<lim:=by rw[lM,aT,cQ];omega
  rw[CM]
  simp only[hlt,aB,aC,hi0,aE,getElem?_lt hi,af,bx,hr,aY,ao,aH,gQ l[i] (by omega),hlim,fY (show i<4611686018427387904 by omega)]
  have:=CN l hl hx k (i+1) (by omega)
  rw[aA]
  rw[show(l.take (i+1)).map bG=(l.take i).map bG++ [bG l[i]]by rw[Jg,getElem?_lt hi,eu];rfl]at this
  exact this
def JC(l:List Int)(h0:l≠ [])(hl:l.length<=64)(hx:∀x,x∈l-> -1000000000000<=x/\x<=1000000000000):qN l=ae (BE l):=by
 rw[JB,fG];have h1:(l.length:Int)<=64:=by omega
 have h2:((l.length:Int)==0)=aw:=by rw[fj];intro e;exact h0 (zA.1 (by omega))
 simp only[h1,aB,af,aY,ao,aH,h2];exact CN l hl hx l.length 0 (by omega)
def agB{c d:UInt8}(hcd:c≠d):∀(x:List UInt8) (r:List (List UInt8)),(∀y,y∈x::r->c∉y)->c∉mZ (x::r) [d]
 |x,[],h=>by rw[Lib.join_one];exact h x (by simp)
 |x,y::r,h=>by
  rw[akN]
  intro e
  rcases aU.1 e with e|e
  ·exact h x (by simp) e
  ·rcases bl.1 e with e|e
   ·exact hcd e
   ·exact agB hcd y r (λz hz=>h z (aL _ hz)) e
def aqH{l:List Int}{c:UInt8}(h0:l≠ [])(h1:c≠44)(h2:c≠45)(h3:c.toNat<48\/57<c.toNat):c∉BE l:=by cases l with|nil=>exact absurd rfl h0|cons a r=>unfold BE;rw[aP];exact agB h1 _ _ λy hy=>by have hy':y∈(a::r).map bG:=hy;obtain⟨n,hn,rfl⟩:=dK.1 hy';exact as3 n h2 h3
def ajd{d:Int}{y m:Nat}{r:Nat}(hd:af4 d y m r)(hdt:nU d=ae (bG ((2000+y:Nat):Int)++45::(Su ((m+1:Nat):Int) 2++45::Su ((r+1:Nat):Int) 2))): qO (bG ((2000+y:Nat):Int)++45::(Su ((m+1:Nat):Int) 2++45::Su ((r+1:Nat):Int) 2))=ae (d,ar):=by
 have hd':=hd;obtain⟨hy,hm,hr0,hr1,hde⟩:=hd;have hb:=yF (y:=2000+y) (m:=m) hm;have l1:=Ws y hy;have l2:=PE (m+1) (by omega);have l3:=PE (r+1) (by omega);have dn:=GB hd';rw[show(m:Int)+1=((m+1:Nat):Int)by omega,show(r:Int)+1=((r+1:Nat):Int)by omega]at dn;generalize hA:bG ((2000+y:Nat):Int)=a at*;generalize hB:Su ((m+1:Nat):Int) 2=b at*;generalize hC:Su ((r+1:Nat):Int) 2=c at*;have hsp:uV [45] 0 (Nq (a++45::(b++45::c)) [45]) (a++45::(b++45::c))=[a,b,c]:=by rw[O2 _ l1.2.1,O2 _ l2.2.2.1,O3 l3.2.2.1]
 have hlen:(a++45::(b++45::c)).length<4294967281:=by simp only[aQ,bh,l1.1,l2.2.1,l3.2.1];decide
 have w1:ag.wrap (0+1)=1:=by decide
 have w2:ag.wrap (1+1)=2:=by decide
 have w3:ag.wrap (2+1)=3:=by decide
 generalize hs:a++45::(b++45::c)=s at*;have e3:du s 3 3 [a,b,c] ((2000+y:Nat):Int) ((m+1:Nat):Int) ((r+1:Nat):Int)=ae (d,ar):=by rw[gf];(have c:¬(3:Int)<3:=by decide);simp only[c,aW,ao,aH,dn,af,bne_self_eq_false,hdt,lU,aY]
 have e2:∀z:Int,du s 3 2 [a,b,c] ((2000+y:Nat):Int) ((m+1:Nat):Int) z=ae (d,ar):=λz=>by rw[gf];have g:([a,b,c]:List (List UInt8))[(2:Int).toNat]? =ae c:=rfl;(have c1:(ah ((0:Int)<=2)&&ah ((2:Int)<(([a,b,c]:List (List UInt8)).length:Int)))=ar:=by simp);(have c2:(2:Int)<3:=by decide);(have c3:¬(2:Int)=0:=by decide);(have c4:¬(2:Int)=1:=by decide);simp only[c2,aB,aC,c1,g,af,lX,l3.2.2.2.2,c3,c4,aW,ao,aH,w3];exact e3
 have e1:∀z u:Int,du s 3 1 [a,b,c] ((2000+y:Nat):Int) u z=ae (d,ar):=λz u=>by rw[gf];have g:([a,b,c]:List (List UInt8))[(1:Int).toNat]? =ae b:=rfl;(have c1:(ah ((0:Int)<=1)&&ah ((1:Int)<(([a,b,c]:List (List UInt8)).length:Int)))=ar:=by simp);(have c2:(1:Int)<3:=by decide);(have c3:¬(1:Int)=0:=by decide);simp only[c2,aB,aC,c1,g,af,lX,l2.2.2.2.2,c3,aW,ao,aH,w2];exact e2 z
 have e0:du s 3 0 [a,b,c] 0 0 0=ae (d,ar):=by rw[gf];have g:([a,b,c]:List (List UInt8))[(0:Int).toNat]? =ae a:=rfl;(have c1:(ah ((0:Int)<=0)&&ah ((0:Int)<(([a,b,c]:List (List UInt8)).length:Int)))=ar:=by simp);(have c2:(0:Int)<3:=by decide);simp only[c2,aB,aC,c1,g,af,lX,l1.2.2,w1];exact e1 0 0
 have h1:(1:Nat)<=([45]:List UInt8).length:=by decide
 rw[JE,Kq];simp only[hlen,aB,h1,bM,aC,hsp,af];exact e0
def akK{s:List UInt8}(h:eK s=ar):(∀c,c∈s->small c=ar\/digit c=ar)/\s.length<=10:=by
 cases s with
 |nil=>simp[eK]at h
 |cons c r=>
  simp only[eK,aj,aG,cj,ax]at h
  exact⟨λx hx=>by
   rcases bl.1 hx with rfl|hx
   ·exact .inl h.1.1
   ·exact h.1.2 x hx,h.2⟩
def Ck(x:oC.ty):Bool:=iF x.1 100 10000&&(iF x.2.1 100 10000&&(iF x.2.2.1 0 500&&iF x.2.2.2.1 0 300))
def abD{a b c d:Int}:Ck (a,b,c,d,())=ar↔(100<=a/\a<=10000)/\(100<=b/\b<=10000)/\(0<=c/\c<=500)/\(0<=d/\d<=300):=by simp[Ck,iF]
def yl(x:oC.ty):sI x=ae (Ck x):=by rw[T6,Ck];simp only[bx,af];cases iF x.1 100 10000<;>cases iF x.2.1 100 10000<;>cases iF x.2.2.1 0 500<;>simp
def aeq(x:oC.ty):SN x=ae (Ck x):=by rw[aep,Ck];simp only[ZS,jX,af];cases iF x.1 100 10000<;>cases iF x.2.1 100 10000<;>cases iF x.2.2.1 0 500<;>simp
def HF(id:List UInt8)(dry water heat hours:Int):Bool:=
 eK id&&(iF dry 1 10000&&(iF water 1 10000&&(iF heat 20 95&&iF hours 0 1000)))
def LK(dry water heat room:Int):Int:=if fS (60*water) dry+2*(room-15)+heat-60>0 then fS (60*water) dry+2*(room-15)+heat-60 else 0
def agA{n lo hi:Int}:iF n lo hi=ar↔lo<=n/\n<=hi:=by simp[iF]
def PF{id:List UInt8}{dry water heat hours:Int}:HF id dry water heat hours=ar↔eK id=ar/\(1<=dry/\dry<=10000)/\(1<=water/\water<=10000)/\(20<=heat/\heat<=95)/\0<=hours/\hours<=1000:=by simp[HF,agA]
def Yg{dry water:Int}(h1:1<=dry)(h2:0<=water/\water<=100000):0<=fS (60*water) dry/\fS (60*water) dry<=6000001:=by have:=yO (a:=60*water) (b:=dry) (by omega) (by omega);have:=U2 (a:=60*water) (b:=dry) (by omega) (by omega);omega
def aci{dry water heat room:Int}(h1:1<=dry)(h2:0<=water/\water<=100000)(h3:20<=heat/\heat<=95)(h4:0<=room/\room<=40):0<=LK dry water heat room/\LK dry water heat room<=7000000:=by have:=Yg h1 h2;unfold LK;split<;>omega
def acT(id:List UInt8)(dry water heat hours:Int)(hs:id.length<4611686018427387904):HP (id,dry,water,heat,hours,())=ae (HF id dry water heat hours):=by rw[acS,HF];simp only[jx id hs,Xm,ZW,jX,af];cases eK id<;>cases iF dry 1 10000<;>cases iF water 1 10000<;>cases iF heat 20 95<;>simp
def yf(id:List UInt8)(dry water heat hours:Int)(hs:id.length<4611686018427387904):oG (id,dry,water,heat,hours,())=ae (HF id dry water heat hours):=by rw[TZ,HF];simp only[j6 id hs,MG,abh,bx,af];cases eK id<;>cases iF dry 1 10000<;>cases iF water 1 10000<;>cases iF heat 20 95<;>simp
def VZ(id:List UInt8)(dry water heat hours room:Int)(h1:1<=dry/\dry<=10000)(h2:0<=water/\water<=100000)(h3:20<=heat/\heat<=95)(h4:0<=room/\room<=40): Ib (id,dry,water,heat,hours,()) room=ae (LK dry water heat room):=by
 have hb:=Yg h1.1 h2;rw[VY];simp only;rw[fR (n:=60*water) (by omega) (by omega),jH _ _ (by omega) (by omega),af]
 rw[fR (n:=room-15) (by omega) (by omega),fR (n:=2*(room-15)) (by omega) (by omega),fR (n:=fS (60*water) dry+2*(room-15)) (by omega) (by omega),
  fR (n:=fS (60*water) dry+2*(room-15)+heat) (by omega) (by omega),fR (n:=fS (60*water) dry+2*(room-15)+heat-60) (by omega) (by omega)]
 rfl
def Qb(id:List UInt8)(dry water heat hours room:Int)(hs:id.length<4611686018427387904): tX (id,dry,water,heat,hours,()) room=ae (if HF id dry water heat hours then(if iF room 0 40 then(LK dry water heat room,0)else(0,2))else(0,1)):=by
 rw[Qa,yf _ _ _ _ _ hs,af,abk,bx];cases h:HF id dry water heat hours;·simp
 ·have hp:=PF.1 h;cases hr:iF room 0 40;·simp
  ·have hq:=agA.1 hr;rw[VZ _ _ _ _ _ _ (by omega) (by omega) (by omega) (by omega)];simp
def Aw(x:bO.ty):Bool:=HF x.1 x.2.1 x.2.2.1 x.2.2.2.1 x.2.2.2.2.1
def nX(xs:List bO.ty):Bool:=eZ Aw (λx=>x.1) ai xs&&ah ((xs.length:Int)<=8)
def LL{xs:List bO.ty}(h:nX xs=ar)(x:bO.ty)(hx:x∈xs):Aw x=ar:=by simp only[nX,aj]at h;exact lS h.1 x hx
def DT(dry water heat hours:Int):Int:=
 if fS (1000*dry) (dry+water)-2*hours-10*(if heat-70>0 then heat-70 else 0)>0 then fS (1000*dry) (dry+water)-2*hours-10*(if heat-70>0 then heat-70 else 0)else 0
def Rc{dry water heat hours:Int}(h1:1<=dry/\dry<=10000)(h2:1<=water/\water<=100000)(h3:20<=heat/\heat<=95)(h4:0<=hours/\hours<=100000): 0<=fS (1000*dry) (dry+water)/\fS (1000*dry) (dry+water)<=10000001/\0<=DT dry water heat hours/\DT dry water heat hours<=10000001:=by
 have:=yO (a:=1000*dry) (b:=dry+water) (by omega) (by omega);have:=U2 (a:=1000*dry) (b:=dry+water) (by omega) (by omega);refine⟨by omega,by omega,?_⟩;unfold DT;constructor<;>repeat' split
 all_goals omega
def NO(id:List UInt8)(dry water heat hours:Int)(h1:1<=dry/\dry<=10000)(h2:1<=water/\water<=100000)(h3:20<=heat/\heat<=95)(h4:0<=hours/\hours<=100000): ky (id,dry,water,heat,hours,())=ae (DT dry water heat hours):=by
 have hb:=Rc h1 h2 h3 h4;rw[NN];simp only;rw[fR (n:=1000*dry) (by omega) (by omega),fR (n:=dry+water) (by omega) (by omega),jH _ _ (by omega) (by omega),af,fR (n:=heat-70) (by omega) (by omega)];have hm:0<=(if heat-70>0 then heat-70 else 0)/\(if heat-70>0 then heat-70 else 0)<=30:=by constructor<;>split<;>omega
 unfold DT;generalize (if heat-70>0 then heat-70 else 0)=m at hm⊢;rw[fR (n:=2*hours) (by omega) (by omega),fR (n:=fS (1000*dry) (dry+water)-2*hours) (by omega) (by omega),fR (n:=10*m) (by omega) (by omega),fR (n:=fS (1000*dry) (dry+water)-2*hours-10*m) (by omega) (by omega)]
def aeu(xs:List bO.ty)(hs:xs.length<=1048576)(hx:∀x,x∈xs->x.1.length<=1048576):SR xs=ae (nX xs):=by rw[aet];have:=tv xs HP Aw (λx=>x.1) (λi=>vZ xs i) _ _ rfl (λi=>Xn xs i) hs (λx hm=>acT x.1 x.2.1 x.2.2.1 x.2.2.2.1 x.2.2.2.2.1 (by have:=hx x hm;omega)) xs.length 0 (by omega);exact this
def GU(xs:List bO.ty)(hs:xs.length<=1048576)(hx:∀x,x∈xs->x.1.length<=1048576):sJ xs=ae (nX xs):=by rw[T8];have:=nM xs oG Aw (λx=>x.1) (λi=>nB xs xs xs.length i) _ _ (show((gz (xs.length:Int) 8).bind λx4=>ae x4)=ae (ah ((xs.length:Int)<=8))by rw[fG];rfl) (λi=>NS xs xs xs.length i) hs (λx hm=>yf x.1 x.2.1 x.2.2.1 x.2.2.2.1 x.2.2.2.2.1 (by have:=hx x hm;omega)) xs.length 0 (by omega);exact this
def nt(k:Nat):Int:=(([1308,1386,1468,1556,1648,1746,1850,1960,2077,2200,2331,2469]:List Int)[k%12]?.getD 0)*2^(k/12)
def amN:∀k,k<=60->1000<=nt k/\nt k<=50000:=by decide+kernel
def ur(k:Nat)(h:k<=60):qQ (k:Int)=ae (nt k):=by rw[Wk];revert k;decide+kernel
def Od(n:Int):G9 n=ae (iF n 1000 100000):=by rw[Oc,bx];rfl
def x8(x:Int)(hx:1000<=x/\x<=100000):∀(k i b:Nat),i+k=61->b<=60->(b<i\/b=0)->(∀j,j<i->MW (nt b-x)<=MW (nt j-x))->
 ∃c:Nat,c<=60/\(∀j,j<=60->MW (nt c-x)<=MW (nt j-x))/\sC x b i=ae ((c:Int),x-nt c,0)
 |0,i,b,hk,hb,hi,hj=>by
  have hn:=amN b hb
  refine⟨b,hb,λj hj'=>hj j (by omega),?_⟩
  rw[GK]
  have:¬(i:Int)<61:=by omega
  simp only[this,aW,ao,aH,ur b hb,af,fR (n:=x-nt b) (by omega) (by omega)]
 |k+1,i,b,hk,hb,hi,hj=>by
  have hn:=amN b hb
  have hm:=amN i (by omega)
  have hlt:(i:Int)<61:=by omega
  have hw:ag.wrap ((i:Int)+1)=((i+1:Nat):Int):=fY (by omega)
  rw[GK]
  simp only[hlt,aB,aC,ur i (by omega),ur b hb,af,Al (nt i) x (by omega) (by omega),Al (nt b) x (by omega) (by omega),hw,ax]
  by_cases hc:MW (nt i-x)<MW (nt b-x)
  ·simp only[hc,aC]
   refine x8 x hx k (i+1) i (by omega) (by omega) (by omega) λj hj'=> ?_
   by_cases h':j=i
   ·subst h';exact dH _
   ·have:=hj j (by omega);omega
  ·simp only[hc,aH]
   refine x8 x hx k (i+1) b (by omega) hb (by omega) λj hj'=> ?_
   by_cases h':j=i
   ·subst h';omega
   ·exact hj j (by omega)
def aa7(x:Int)(hx:1000<=x/\x<=100000):∃c:Nat,c<=60/\(∀j,j<=60->MW (nt c-x)<=MW (nt j-x))/\Bk x=ae ((c:Int),x-nt c,0):=by rw[NM,Od,show iF x 1000 100000=ar from cS.2 hx];simp only[af,aY,ao,aH];exact x8 x hx 61 0 0 (by omega) (by omega) (by omega) (λj hj=>by omega)
def YC(x:Int)(hx:iF x 1000 100000=aw):Bk x=ae (0,0,2):=by rw[NM,Od,hx];rfl
def agy(i:Nat)(l:List (List UInt8))(h:i<l.length):DQ (i:Int) l=ae l[i]:=by
 rw[Lc,RU];have h1:(i:Int)>=0:=by omega
 have h2:(i:Int)<(l.length:Int):=by omega
 simp only[h1,aB,aC,h2,af,aY,ao,aH,aE,ay h]
def akM:∀k,k<=60->(bG ((k:Nat):Int)).length<=2:=by decide+kernel
def agP:∀k,k<12->(([[99],[99,35],[100],[100,35],[101],[102],[102,35],[103],[103,35],[97],[97,35],[98]]:List (List UInt8))[k]?.getD [])≠ []/\(([[99],[99,35],[100],[100,35],[101],[102],[102,35],[103],[103,35],[97],[97,35],[98]]:List (List UInt8))[k]?.getD []).length<=2:=by decide+kernel
def R8(s:List UInt8):Bool:=(s.all λc=>iF (c.toNat:Int) 32 126)&&ah ((s.length:Int)<=100)
def vU(ls:List (List UInt8)):Bool:=ls.all R8&&ah ((ls.length:Int)<=200)
def avy{a b:Bool}:(if a=ar then ae b else ae aw)=ae (a&&b):=by cases a<;>rfl
def abj(s:List UInt8)(hs:s.length<=1048576):Ob s=ae (R8 s):=by
 rw[abi]
 have:=Z8 s (λc=>bD (ag.wrap (c.toNat:Int)) 32 126) (λc=>iF (c.toNat:Int) 32 126) (λi=>sW s i) aw (ae (ah ((s.length:Int)<=100))) (λi=>by
  show sW s i=_
  rw[Ud,fG];rfl) (by omega) (λc _=>by
   have hc:=c.toNat_lt
   rw[bx,fR (by omega) (by omega)]) s.length 0 (by omega)
 simp only[avd,asu,dV]at this;rw[this,R8,avy]
def X6(ls:List (List UInt8))(hs:ls.length<=1048576)(hx:∀x,x∈ls->x.length<=1048576):∀(k i:Nat),i+k=ls.length->∃r:Int,cx ls ls.length i=ae r/\ah (r>=0)= !((ls.drop i).all R8)
 |0,i,hk=>by
  refine⟨-1,?_,?_⟩
  ·rw[fx]
   have:¬(i:Int)<(ls.length:Int):=by omega
   simp only[this,aW,ao,aH]
  ·rw[bb (by omega)];rfl
 |k+1,i,hk=>by
  have hi:i<ls.length:=by omega
  have hlt:(i:Int)<(ls.length:Int):=by omega
  have hw:ag.wrap ((i:Int)+1)=((i+1:Nat):Int):=by rw[fR (by omega) (by omega)];omega
  rw[fx,bf hi]
  simp only[hlt,aB,aC,aI,aE,ay hi,af,M1,abj ls[i] (hx _ (bc hi)),hw,de]
  cases R8 ls[i]
  ·exact⟨i,by simp,by simp⟩
  ·simp only[aY,ao,aH,jD]
   exact X6 ls hs hx k (i+1) (by omega)
def Qk(ls:List (List UInt8))(hs:ls.length<=1048576)(hx:∀x,x∈ls->x.length<=1048576):Ah ls=ae (vU ls):=by obtain⟨r,r1,r2⟩:=X6 ls hs hx ls.length 0 (by omega);have r1':cx ls (ls.length:Int) 0=ae r:=r1;rw[dV]at r2;rw[Qj,fG,jL,kq,r1',vU];simp only[af,r2];cases ls.all R8<;>by_cases h:(ls.length:Int)<=200<;>simp[h]
def abr(ls:List (List UInt8))(hs:ls.length<=1048576)(hx:∀x,x∈ls->x.length<=1048576):He ls=ae (if vU ls=ar then(ls,0,())else([],5,())):=by rw[abq,aA,Qk ls hs hx];cases vU ls<;>simp
def wd(W:List Int)(k:Nat):Int:=(W[k]?).getD 0
def upd(W:List Int)(i:Nat)(c:List UInt8):List Int:=W.set i (if(c.length:Int)>wd W i then(c.length:Int)else wd W i)
def OS:List Int->Nat->List (List UInt8)->List Int
 |W,_,[]=>W
 |W,i,c::r=>OS (upd W i c) (i+1) r
def VI:List Int->List (List (List UInt8))->List Int
 |W,[]=>W
 |W,row::r=>VI (OS W 0 row) r
def Vq(W:List Int)(i:Nat)(c:List UInt8):(upd W i c).length=W.length:=by simp[upd]
def OT:∀(row:List (List UInt8)) (W:List Int) (i:Nat),(OS W i row).length=W.length
 | [],_,_=>rfl
 |c::r,W,i=>by rw[OS,OT r,Vq]
def ahY:∀(rows:List (List (List UInt8))) (W:List Int),(VI W rows).length=W.length
 | [],_=>rfl
 |row::r,W=>by rw[VI,ahY r,OT]
def al0{W:List Int}{i:Nat}(hi:i<W.length)(c:List UInt8)(k:Nat):wd (upd W i c) k=if i=k then(if(c.length:Int)>wd W i then(c.length:Int)else wd W i)else wd W k:=by
 by_cases h:i=k;·subst h;simp[upd,wd,hi]
 ·simp[upd,wd,Tq h,h]
noncomputable def p0L(v0 v15:List (List (List UInt8)))(v16 v17:Int)(W:List Int):=pS v0 v15 v16 v17 (wd W 0) (wd W 1) (wd W 2) (wd W 3) (wd W 4) (wd W 5) (wd W 6) (wd W 7) (wd W 8) (wd W 9) (wd W 10) (wd W 11)
noncomputable def p1L(v0 v15:List (List (List UInt8)))(v16 v17:Int)(v24:List (List UInt8))(v25 v26:Int)(W:List Int):=mi v0 v15 v16 v17 v24 v25 v26 (wd W 0) (wd W 1) (wd W 2) (wd W 3) (wd W 4) (wd W 5) (wd W 6) (wd W 7) (wd W 8) (wd W 9) (wd W 10) (wd W 11)
noncomputable def p2L(v42:List (List (List UInt8)))(v43 v44:Int)(W:List Int)(r9:List (List UInt8)):=pU v42 v43 v44 (wd W 0) (wd W 1) (wd W 2) (wd W 3) (wd W 4) (wd W 5) (wd W 6) (wd W 7) (wd W 8) (wd W 9) (wd W 10) (wd W 11) r9
noncomputable def p3L(v42:List (List (List UInt8)))(v43 v44:Int)(v49:List (List UInt8))(v50 v51:Int)(W:List Int)(r9 r12:List (List UInt8)):=mj v42 v43 v44 v49 v50 v51 (wd W 0) (wd W 1) (wd W 2) (wd W 3) (wd W 4) (wd W 5) (wd W 6) (wd W 7) (wd W 8) (wd W 9) (wd W 10) (wd W 11) r9 r12
def avP(W:List Int)(i:Nat)(c:List UInt8):List UInt8:=c++aZ (wd W i-(c.length:Int)).toNat 32
def oE(W:List Int):Nat->List (List UInt8)->List (List UInt8)
 |_,[]=>[]
 |i,c::r=>avP W i c::oE W (i+1) r
def Yo(s:List UInt8):List UInt8:=(s.reverse.dropWhile λc=>c==32).reverse
def Yc(W:List Int)(row:List (List UInt8)):List UInt8:=Yo (mZ (oE W 0 row) [32,32])
def alJ(t:List UInt8)(c:UInt8):Yo (t++ [c])=if c==32 then Yo t else t++ [c]:=by
 rw[Yo,D0,Nn,jO,List.dropWhile_cons];split;·rfl
 ·simp
def atD{α:Type}(s:List α):s=[]\/∃t c,s=t++ [c]:=by
 rcases List.eq_nil_or_concat s with h|⟨t,c,h⟩
 ·exact .inl h
 ·exact .inr ⟨t,c,by rw[h,List.concat_eq_append]⟩
def aoL(s:List UInt8):(Yo s).length<=s.length:=by rw[Yo,S5];exact dZ (List.dropWhile_sublist _).length_le (Nat.le_of_eq S5)
def ax3(c:UInt8):((c.toNat:Int)==32)=(c==32):=by
 by_cases h:c=32;·subst h;rfl
 ·have h1:¬(c.toNat:Int)=32:=λe=>by(have e2:c.toNat=(32:UInt8).toNat:=by show c.toNat=32;omega);exact h (aaz.1 e2)
  rw[fj.2 h1,fj.2 h]
def aqU{W:List Int}{i:Nat}{c:List UInt8}(h:(c.length:Int)<=wd W i)(h1:wd W i<=1000):(avP W i c).length<=1000:=by rw[avP,aQ,DZ];omega
def arB{W:List Int}{i:Nat}(hi:i<W.length){c:List UInt8}(hc:c.length<=1000)(h:∀k,0<=wd W k/\wd W k<=1000)(k:Nat):(0<=wd (upd W i c) k/\wd (upd W i c) k<=1000)/\wd W k<=wd (upd W i c) k:=by
 have h1:=h i;have h2:=h k;rw[al0 hi];by_cases e:i=k;·subst e;rw[aJ rfl];split<;>omega
 ·rw[aO e];omega
def aai:∀(row:List (List UInt8)) (W:List Int) (i:Nat),i+row.length<=W.length->(∀c,c∈row->c.length<=1000)->(∀k,0<=wd W k/\wd W k<=1000)->∀k,(0<=wd (OS W i row) k/\wd (OS W i row) k<=1000)/\wd W k<=wd (OS W i row) k
 | [],W,i,_,_,h,k=>⟨h k,dH _⟩
 |c::r,W,i,hl,hc,h,k=>by
  rw[bh]at hl
  have h1:=arB (W:=W) (i:=i) (by omega) (hc c (by simp)) h
  have h2:=aai r (upd W i c) (i+1) (by rw[Vq];omega) (λx hx=>hc x (aL _ hx)) (λk=>(h1 k).1) k
  rw[OS]
  exact⟨h2.1,pc (h1 k).2 h2.2⟩
def ajn:∀(row:List (List UInt8)) (W:List Int) (i:Nat),i+row.length<=W.length->(∀c,c∈row->c.length<=1000)->(∀k,0<=wd W k/\wd W k<=1000)->∀(j:Nat) (hj:j<row.length),(row[j].length:Int)<=wd (OS W i row) (i+j)
 |c::r,W,i,hl,hc,h,j,hj=>by
  rw[bh]at hl hj
  have h1:=arB (W:=W) (i:=i) (by omega) (hc c (by simp)) h
  have h2:=aai r (upd W i c) (i+1) (by rw[Vq];omega) (λx hx=>hc x (aL _ hx)) (λk=>(h1 k).1)
  rw[OS]
  cases j with
  |zero=>
   have h3:=(h2 i).2
   rw[al0 (by omega),aJ rfl]at h3
   simp only[akb,anr]
   refine pc ?_ h3
   split<;>omega
  |succ j=>
   have:=ajn r (upd W i c) (i+1) (by rw[Vq];omega) (λx hx=>hc x (aL _ hx)) (λk=>(h1 k).1) j (by omega)
   simp only[aka]
   rw[show i+(j+1)=i+1+j by omega];exact this
def XV(rows:List (List (List UInt8))):Prop:=∀row,row∈rows->row.length<=12/\∀c,c∈row->c.length<=1000
def af8:∀(rows:List (List (List UInt8))) (W:List Int),W.length=12->XV rows->(∀k,0<=wd W k/\wd W k<=1000)->∀k,(0<=wd (VI W rows) k/\wd (VI W rows) k<=1000)/\wd W k<=wd (VI W rows) k
 | [],W,_,_,h,k=>⟨h k,dH _⟩
 |row::r,W,hW,hr,h,k=>by
  have h0:=hr row (by simp)
  have h1:=aai row W 0 (by omega) h0.2 h
  have h2:=af8 r (OS W 0 row) (by rw[OT];exact hW) (λx hx=>hr x (aL _ hx)) (λk=>(h1 k).1) k
  rw[VI]
  exact⟨h2.1,pc (h1 k).2 h2.2⟩
def ahX:∀(rows:List (List (List UInt8))) (W:List Int),W.length=12->XV rows->(∀k,0<=wd W k/\wd W k<=1000)->∀row,row∈rows->∀(j:Nat) (hj:j<row.length),(row[j].length:Int)<=wd (VI W rows) j
 |row0::r,W,hW,hr,h,row,hm,j,hj=>by
  have h0:=hr row0 (by simp)
  have h1:=aai row0 W 0 (by omega) h0.2 h
  have hr':XV r:=λx hx=>hr x (aL _ hx)
  have hl:(OS W 0 row0).length=12:=by rw[OT];exact hW
  rw[VI]
  rcases bl.1 hm with rfl|hm
  ·have h2:=(af8 r (OS W 0 row) hl hr' (λk=>(h1 k).1) j).2
   have h3:=ajn row W 0 (by omega) h0.2 h j hj
   rw[c8]at h3
   exact pc h3 h2
  ·exact ahX r (OS W 0 row0) hl hr' (λk=>(h1 k).1) row hm j hj
def aeC(rows:List (List (List UInt8))):List Int:=VI [0,0,0,0,0,0,0,0,0,0,0,0] rows
def wd0(k:Nat):wd [0,0,0,0,0,0,0,0,0,0,0,0] k=0:=by
 rcases bH k 12 with h|h
 ·have hz:(k=0\/k=1\/k=2\/k=3\/k=4\/k=5)\/k=6\/k=7\/k=8\/k=9\/k=10\/k=11:=by omega
  rcases hz with (rfl|rfl|rfl|rfl|rfl|rfl)|rfl|rfl|rfl|rfl|rfl|rfl<;>rfl
 ·rw[wd,bB (by simpa using h)];rfl
def atG(rows:List (List (List UInt8)))(hr:XV rows):(aeC rows).length=12/\(∀k,0<=wd (aeC rows) k/\wd (aeC rows) k<=1000)/\∀row,row∈rows->∀(j:Nat) (hj:j<row.length),(row[j].length:Int)<=wd (aeC rows) j:=by
 have h0:∀k,0<=wd [0,0,0,0,0,0,0,0,0,0,0,0] k/\wd [0,0,0,0,0,0,0,0,0,0,0,0] k<=1000:=λk=>by rw[wd0];omega
 exact⟨ahY _ _,λk=>(af8 rows _ rfl hr h0 k).1,ahX rows _ rfl hr h0⟩
def aaM{W:List Int}(hW:∀k,0<=wd W k/\wd W k<=1000):∀(r:List (List UInt8)) (i:Nat),(∀(j:Nat) (hj:j<r.length),(r[j].length:Int)<=wd W (i+j))->(oE W i r).length=r.length/\(Nr [32,32] (oE W i r)).length<=1002*r.length
 | [],i,_=>⟨rfl,by simp[oE,Nr]⟩
 |c::r,i,h=>by
  have h1:=aaM hW r (i+1) (λj hj=>by have:=h (j+1) (by simpa using hj);rwa[aka,show i+(j+1)=i+1+j by omega]at this)
  have h2:=aqU (W:=W) (i:=i) (c:=c) (by have:=h 0 (by simp);simpa using this) (hW i).2
  have h3:=h1.2
  simp only[Nr]at h3⊢
  simp only[oE,bh,aP,Mt,aQ,h1.1,Mh,cy]
  omega
def amB{W:List Int}(hW:∀k,0<=wd W k/\wd W k<=1000)(row:List (List UInt8))(h:∀(j:Nat) (hj:j<row.length),(row[j].length:Int)<=wd W j)(hl:row.length<=12):(oE W 0 row).length<=12/\(mZ (oE W 0 row) [32,32]).length<=12024:=by have h1:=aaM hW row 0 (λj hj=>by rw[c8];exact h j hj);refine⟨by omega,?_⟩;have h2:=h1.2;cases row with|nil=>rw[oE,Lib.join_nil];simp|cons c r=>rw[oE,ahP];rw[oE]at h2;simp only[Nr,aP,Mt,aQ]at h2⊢;simp only[bh]at h2 hl;omega
def an4{W:List Int}(hW:∀k,0<=wd W k/\wd W k<=1000)(row:List (List UInt8))(h:∀(j:Nat) (hj:j<row.length),(row[j].length:Int)<=wd W j)(hl:row.length<=12):(Yc W row).length<=12024:=
 dZ (aoL _) (amB hW row h hl).2
def Kw:∀(n:Nat) (s:List UInt8),s.length=n->n<=1048576->j0 s 32=ae (Yo s)
 |0,s,h,_=>by
  obtain rfl:=gy h
  rw[rZ];rfl
 |n+1,s,h,hb=>by
  rcases atD s with rfl|⟨t,c,rfl⟩
  ·cases h
  have ht:t.length=n:=by simpa using h
  have h1:((t++ [c]).length:Int)>0:=by rw[h];omega
  have hw:ag.wrap (((t++ [c]).length:Int)-1)=(t.length:Int):=by rw[h,fR (by omega) (by omega)];omega
  have hle:(t.length:Int)<=((t++ [c]).length:Int):=by rw[h];omega
  rw[rZ,hw]
  simp only[h1,hle,aB,aC,aI,aE,List.getElem?_concat_length,af,ax3,bM,asy,alJ]
  by_cases hc:(c==32)=ar
  ·simp only[hc,aC]
   exact Kw n t ht (by omega)
  ·simp only[hc,ao,aH]
def Pd(s:List UInt8)(hs:s.length<=1048576):zg s [32]=ae (Yo s):=by
 rw[Pc];by_cases h:s=[];·subst h;rfl
 ·have h1:¬(s==([]:List UInt8))=ar:=by simpa using h
  have h2:((([(32:UInt8)].length:Nat):Int)==1)=ar:=rfl;have h3:¬(([(32:UInt8)]:List UInt8)==[])=ar:=λe=>by cases e
  have h4:([(32:UInt8)])[0]? =ae 32:=rfl;have h6:((32:UInt8).toNat:Int)=32:=rfl;have h5:ah (((32:UInt8).toNat:Int)<128)=ar:=by rw[h6];exact bL (by omega)
  rw[aO h1,aO h3,Kr,aJ h2,h4,af,aJ h5,Ks,h4,af,h6,I0,Kw s.length s rfl hs];rfl
set_option maxHeartbeats 1000000 in
set_option maxRecDepth 20000 in
def aqT(v0 v15:List (List (List UInt8)))(v16 v17:Int)(row:List (List UInt8))(i:Nat)(W:List Int)(hW:W.length=12)(hi:i<row.length)(h12:i<12): p1L v0 v15 v16 v17 row row.length i W=p1L v0 v15 v16 v17 row row.length ((i+1:Nat):Int) (upd W i row[i]):=by
 have hlt:(i:Int)<(row.length:Int):=by omega
 have hw:ag.wrap ((i:Int)+1)=((i+1:Nat):Int):=by rw[fR (by omega) (by omega)];omega
 have hz:(i=0\/i=1\/i=2\/i=3\/i=4\/i=5)\/i=6\/i=7\/i=8\/i=9\/i=10\/i=11:=by omega
 simp only[p1L,al0 (show i<W.length by omega)];rw[zF];simp only[hlt,aB,aC,aI,aE,ay hi,af,hw];clear hlt hw;generalize row[i]=c;rcases hz with (rfl|rfl|rfl|rfl|rfl|rfl)|rfl|rfl|rfl|rfl|rfl|rfl<;>rfl
def aiY(rows:List (List (List UInt8)))(v17:Int)(row:List (List UInt8))(hl:row.length<=12):∀(k i:Nat) (W:List Int),i+k=row.length->W.length=12->
 p1L rows rows rows.length v17 row row.length i W=p0L rows rows rows.length (ag.wrap (v17+1)) (OS W i (row.drop i))
 |0,i,W,hk,hW=>by
  rw[bb (by omega),OS,p1L,p0L,zF]
  have:¬(i:Int)<(row.length:Int):=by omega
  simp only[this,aW,ao,aH]
 |k+1,i,W,hk,hW=>by
  have hi:i<row.length:=by omega
  rw[aqT rows rows rows.length v17 row i W hW hi (by omega),aiY rows v17 row hl k (i+1) _ (by omega) (by rw[Vq];exact hW),bf hi,OS]
def Gv(row:List (List UInt8)):Bool:=(row.all λc=>c.all λch=>iF (ch.toNat:Int) 33 126)&&ah ((row.length:Int)<=12)
def QS(row:List (List UInt8))(hl:row.length<=1048576)(hc:∀c,c∈row->c.length<=1048576):∀(k i:Nat),i+k=row.length->uj row row row.length i=ae (((row.drop i).all λc=>c.all λch=>iF (ch.toNat:Int) 33 126)&&ah ((row.length:Int)<=12))
 |0,i,hk=>by
  rw[CU,bb (by omega),fG]
  have:¬(i:Int)<(row.length:Int):=by omega
  simp only[this,aW,ao,aH,af,fK,jD]
 |k+1,i,hk=>by
  have hi:i<row.length:=by omega
  have hlt:(i:Int)<(row.length:Int):=by omega
  have hw:ag.wrap ((i:Int)+1)=((i+1:Nat):Int):=by rw[fR (by omega) (by omega)];omega
  have ih:=QS row hl hc k (i+1) (by omega)
  have h1:=Z8 row[i] (λc=>bD (ag.wrap (c.toNat:Int)) 33 126) (λch=>iF (ch.toNat:Int) 33 126) (λj=>uk row row[i] j row row.length i) aw _ (λj=>Qm row row[i] j row row.length i) (by have:=hc row[i] (bc hi);omega) (λc _=>by
   have hc:=c.toNat_lt
   rw[bx,fR (by omega) (by omega)]) row[i].length 0 (by omega)
  simp only[avd,asu,dV]at h1
  rw[CU,bf hi]
  simp only[hlt,aB,aC,aI,aE,ay hi,af,h1,hw,ih,de]
  by_cases h:(row[i].all λch=>iF (ch.toNat:Int) 33 126)=ar
  ·simp[h]
  ·simp[h]
def V6(row:List (List UInt8))(hl:row.length<=1048576)(hc:∀c,c∈row->c.length<=1048576):Ig row=ae (Gv row):=by rw[V5];exact QS row hl hc row.length 0 (by omega)
def aiX(rows:List (List (List UInt8)))(hs:rows.length<=1048576)(hr:XV rows)(hc:∀row,row∈rows->Gv row=ar):∀(k i:Nat) (W:List Int),i+k=rows.length->W.length=12->
 p0L rows rows rows.length i W=p2L rows rows.length 0 (VI W (rows.drop i)) []
 |0,i,W,hk,hW=>by
  rw[bb (by omega),VI,p0L,p2L,zE]
  have:¬(i:Int)<(rows.length:Int):=by omega
  simp only[this,aW,ao,aH]
 |k+1,i,W,hk,hW=>by
  have hi:i<rows.length:=by omega
  have hlt:(i:Int)<(rows.length:Int):=by omega
  have hw:ag.wrap ((i:Int)+1)=((i+1:Nat):Int):=by rw[fR (by omega) (by omega)];omega
  have h1:=hr rows[i] (bc hi)
  have e1:=V6 rows[i] (by omega) (λc hm=>dZ (h1.2 c hm) (by decide))
  rw[hc rows[i] (bc hi)]at e1
  have e2:=aiY rows i rows[i] h1.1 rows[i].length 0 W (by omega) hW
  have e2':mi rows rows rows.length i rows[i] rows[i].length 0 (wd W 0) (wd W 1) (wd W 2) (wd W 3) (wd W 4) (wd W 5) (wd W 6) (wd W 7) (wd W 8) (wd W 9) (wd W 10) (wd W 11)=_:=e2
  rw[dV,hw]at e2'
  rw[p0L,zE,bf hi,VI]
  simp only[hlt,aB,aC,aI,aE,ay hi,af,e1,aY,ao,aH]
  rw[e2']
  exact aiX rows hs hr hc k (i+1) _ (by omega) (by rw[OT];exact hW)
set_option maxHeartbeats 1000000 in
def ath(rows:List (List (List UInt8)))(v43 v44:Int)(row:List (List UInt8))(i:Nat)(W:List Int)(r9 r12:List (List UInt8))(hi:i<row.length)(h12:i<12): p3L rows v43 v44 row row.length i W r9 r12=(strings_Repeat [32] (ag.wrap (wd W i-(row[i].length:Int)))).bind λx2=>if ah (row[i].length+x2.length<=bj)then(if ah (r12.length+1<lim)then p3L rows v43 v44 row row.length ((i+1:Nat):Int) W r9 ((r12.take r12.length)++ [row[i]++x2])else ai)else ai:=by
 have hlt:(i:Int)<(row.length:Int):=by omega
 have hw:ag.wrap ((i:Int)+1)=((i+1:Nat):Int):=by rw[fR (by omega) (by omega)];omega
 have hz:(i=0\/i=1\/i=2\/i=3\/i=4\/i=5)\/i=6\/i=7\/i=8\/i=9\/i=10\/i=11:=by omega
 simp only[p3L];rw[zH];simp only[hlt,aB,aC,aI,aE,ay hi,af,hw];clear hlt hw;generalize row[i]=c;rcases hz with (rfl|rfl|rfl|rfl|rfl|rfl)|rfl|rfl|rfl|rfl|rfl|rfl<;>rfl
def aji:∀n,F0 [32] n=aZ n 32
 |0=>rfl
 |n+1=>by
  show 32::F0 [32] n=_
  rw[aji n];rfl
def ai0(rows:List (List (List UInt8)))(v44:Int)(row:List (List UInt8))(W:List Int)(r9:List (List UInt8))(hl:row.length<=12)(h9:r9.length<=1048576)(hW:∀k,0<=wd W k/\wd W k<=1000)(hf:∀(j:Nat) (hj:j<row.length),(row[j].length:Int)<=wd W j):
 ∀(k i:Nat) (r12:List (List UInt8)),i+k=row.length->r12.length=i->r12++oE W i (row.drop i)=oE W 0 row->
 p3L rows rows.length v44 row row.length i W r9 r12=p2L rows rows.length (ag.wrap (v44+1)) W (r9++ [Yc W row])
 |0,i,r12,hk,hr,he=>by
  rw[bb (by omega),oE,bS]at he
  subst he
  have hb:=amB hW row hf hl
  have h1:(oE W 0 row).length<=140737488355328:=by omega
  have h2:(mZ (oE W 0 row) [32,32]).length<=140737488355328:=by omega
  have hj:strings_Join (oE W 0 row) [32,32]=ae (mZ (oE W 0 row) [32,32]):=by rw[CC,bL h1,bL h2];rfl
  have hlim:r9.length+1<lim:=by rw[lM];omega
  rw[p3L,p2L,zH]
  have:¬(i:Int)<(row.length:Int):=by omega
  simp only[this,aW,ao,aH,aA,hj,af,Pd _ (show(mZ (oE W 0 row) [32,32]).length<=1048576 by omega),hlim,aB,aC]
  rfl
 |k+1,i,r12,hk,hr,he=>by
  have hi:i<row.length:=by omega
  have h1:=hf i hi
  have h2:=hW i
  have hw:ag.wrap (wd W i-(row[i].length:Int))=wd W i-(row[i].length:Int):=fR (by omega) (by omega)
  have hrep:strings_Repeat [32] (wd W i-(row[i].length:Int))=ae (aZ (wd W i-(row[i].length:Int)).toNat 32):=by(have h3:0<=wd W i-(row[i].length:Int):=by omega);(have h4:wd W i-(row[i].length:Int)<=9223372036854775807:=by omega);(have h5: [(32:UInt8)].length*(wd W i-(row[i].length:Int)).toNat<=140737488355328:=by simp only[bh,cy];omega);rw[HV,bL h3,bL h4,bL h5,aji];rfl
  have hst:row[i].length+(aZ (wd W i-(row[i].length:Int)).toNat (32:UInt8)).length<=bj:=by rw[DV,DZ];omega
  have hlim:r12.length+1<lim:=by rw[lM];omega
  rw[ath rows rows.length v44 row i W r9 r12 hi (by omega),hw,hrep,af,aJ (bL hst),aJ (bL hlim),aA]
  refine ai0 rows v44 row W r9 hl h9 hW hf k (i+1) _ (by omega) (by simp[hr]) ?_
  rw[<-he,bf hi,oE,dJ];rfl
def aiZ(rows:List (List (List UInt8)))(W:List Int)(hs:rows.length<=1048576)(hr:XV rows)(hW:∀k,0<=wd W k/\wd W k<=1000)(hf:∀row,row∈rows->∀(j:Nat) (hj:j<row.length),(row[j].length:Int)<=wd W j):
 ∀(k i:Nat) (r9:List (List UInt8)),i+k=rows.length->r9.length=i->p2L rows rows.length i W r9=(He (r9++(rows.drop i).map (Yc W))).bind λx=>ae (x.1,x.2.1)
 |0,i,r9,hk,h9=>by
  rw[p2L,zG,bb (by omega)]
  have:¬(i:Int)<(rows.length:Int):=by omega
  simp only[this,aW,aB,aC,ao,aH,lT,bS,aA]
 |k+1,i,r9,hk,h9=>by
  have hi:i<rows.length:=by omega
  have hlt:(i:Int)<(rows.length:Int):=by omega
  have hm:=bc hi
  have hw:ag.wrap ((i:Int)+1)=((i+1:Nat):Int):=by rw[fR (by omega) (by omega)];omega
  have e:=ai0 rows i rows[i] W r9 (hr _ hm).1 (by omega) hW (hf _ hm) rows[i].length 0 [] (by omega) rfl (by rw[dV,dU])
  rw[hw,aiZ rows W hs hr hW hf k (i+1) _ (by omega) (by simp[h9])]at e
  have e':mj rows rows.length i rows[i] rows[i].length 0 (wd W 0) (wd W 1) (wd W 2) (wd W 3) (wd W 4) (wd W 5) (wd W 6) (wd W 7) (wd W 8) (wd W 9) (wd W 10) (wd W 11) r9 []=_:=e
  rw[p2L,zG,bf hi]
  simp only[hlt,aB,aC,aI,aE,ay hi,af]
  rw[e',aP,dJ];rfl
def RN(rows:List (List (List UInt8)))(hs:rows.length<=1048576)(hr:XV rows)(hc:∀row,row∈rows->Gv row=ar): qp rows=ae (if vU (rows.map (Yc (aeC rows)))=ar then(rows.map (Yc (aeC rows)),0)else([],5)):=by
 obtain⟨t1,t2,t3⟩:=atG rows hr;have e1:=aiX rows hs hr hc rows.length 0 [0,0,0,0,0,0,0,0,0,0,0,0] (by omega) rfl;rw[dV]at e1;have e2:=aiZ rows (aeC rows) hs hr t2 t3 rows.length 0 [] (by omega) rfl;rw[dV,dU]at e2;have e3:qp rows=p0L rows rows rows.length ((0:Nat):Int) [0,0,0,0,0,0,0,0,0,0,0,0]:=RL rows;rw[e3,e1];refine al5 e2 ?_
 rw[abr _ (by rw[aT];exact hs) (λx hx=>by
  obtain⟨row,h1,rfl⟩:=dK.1 hx
  exact dZ (an4 t2 row (t3 row h1) (hr row h1).1) (by decide))]
 cases vU (rows.map (Yc (aeC rows)))<;>rfl
def aan{s:ba.ty}{c:Int}(hs:jP s c)(hc:c<=1000000000000000000)(l:List (List UInt8))(h0:0<l.length)(hn:l.length<=65536): ∃(u:List UInt8) (s':ba.ty),cB s l=ae (u,s')/\jP s' (c+2)/\u∈l:=by
 obtain⟨u,s1,e1,k1,b1,b2⟩:=fv hs hc (l.length:Int) (by omega);have hi:u.toNat<l.length:=by omega
 rw[QJ];simp only[e1,af,rY,b1,aB,aC,ay hi];exact⟨_,s1,rfl,k1,bc hi⟩
def mU(x:aM.ty):Bool:=eK x.1&&(iF x.2.1 0 1000&&(iF x.2.2.1 10 1000&&(iF x.2.2.2.1 0 36524)))
def nN(xs:List aM.ty):Bool:=eZ mU (λx=>x.1) ai xs&&ah ((xs.length:Int)<=12)
def Vk{xs:List aM.ty}(h:nN xs=ar)(x:aM.ty)(hx:x∈xs):mU x=ar:=by simp only[nN,aj]at h;exact lS h.1 x hx
def acN(x:aM.ty)(h0:x.1.length<4611686018427387904):HM x=ae (mU x):=by rw[acM,mU];simp only[jx x.1 h0,Xg,Xh,acK,jX,af];cases eK x.1<;>cases iF x.2.1 0 1000<;>cases iF x.2.2.1 10 1000<;>simp
def CR(x:aM.ty)(h0:x.1.length<4611686018427387904):oI x=ae (mU x):=by rw[Qh,mU];simp only[j6 x.1 h0,EL,AU,bx,af];cases eK x.1<;>cases iF x.2.1 0 1000<;>cases iF x.2.2.1 10 1000<;>simp
def aek(xs:List aM.ty)(hs:xs.length<=1048576)(hx:∀x,x∈xs->x.1.length<=1048576):SI xs=ae (nN xs):=by rw[aej];exact tv xs HM mU (λx=>x.1) (λi=>vV xs i) _ _ rfl (λi=>Xf xs i) hs (λx hm=>acN x (dw (hx x hm) (by decide))) xs.length 0 (by omega)
def CS(xs:List aM.ty)(hs:xs.length<=1048576)(hx:∀x,x∈xs->x.1.length<=1048576):ui xs=ae (nN xs):=by rw[Ql];exact nM xs oI mU (λx=>x.1) (λi=>lh xs xs xs.length i) _ _ (show((gz (xs.length:Int) 12).bind λx4=>ae x4)=ae (ah ((xs.length:Int)<=12))by rw[fG];rfl) (λi=>KW xs xs xs.length i) hs (λx hm=>CR x (dw (hx x hm) (by decide))) xs.length 0 (by omega)
def HH(x:aN.ty):Bool:=eK x.1&&(iF x.2.1 1 10000&&(iF x.2.2.1 1 10000))
def qe(xs:List aN.ty):Bool:=eZ HH (λx=>x.1) ai xs&&ah ((xs.length:Int)<=8)
def SA{xs:List aN.ty}(h:qe xs=ar)(x:aN.ty)(hx:x∈xs):HH x=ar:=by simp only[qe,aj]at h;exact lS h.1 x hx
def acP(x:aN.ty)(h0:x.1.length<4611686018427387904):HN x=ae (HH x):=by rw[acO,HH];simp only[jx x.1 h0,ZP,jX,af];cases eK x.1<;>cases iF x.2.1 1 10000<;>simp
def GQ(x:aN.ty)(h0:x.1.length<4611686018427387904):sF x=ae (HH x):=by rw[T3,HH];simp only[j6 x.1 h0,bx,af];cases eK x.1<;>cases iF x.2.1 1 10000<;>simp
def aem(xs:List aN.ty)(hs:xs.length<=1048576)(hx:∀x,x∈xs->x.1.length<=1048576):SK xs=ae (qe xs):=by rw[ael];exact tv xs HN HH (λx=>x.1) (λi=>vW xs i) _ _ rfl (λi=>Xi xs i) hs (λx hm=>acP x (dw (hx x hm) (by decide))) xs.length 0 (by omega)
def GV(xs:List aN.ty)(hs:xs.length<=1048576)(hx:∀x,x∈xs->x.1.length<=1048576):sK xs=ae (qe xs):=by rw[T9];exact nM xs sF HH (λx=>x.1) (λi=>nC xs xs xs.length i) _ _ (show((gz (xs.length:Int) 8).bind λx4=>ae x4)=ae (ah ((xs.length:Int)<=8))by rw[fG];rfl) (λi=>NT xs xs xs.length i) hs (λx hm=>GQ x (dw (hx x hm) (by decide))) xs.length 0 (by omega)
def MO(x:aM.ty):Bool:=eK x.1&&(iF x.2.1 20 200&&(iF x.2.2.1 100 1000&&(iF x.2.2.2.1 10 100)))
def w9(xs:List aM.ty):Bool:=eZ MO (λx=>x.1) ai xs&&ah ((xs.length:Int)<=8)
def ala{xs:List aM.ty}(h:w9 xs=ar)(x:aM.ty)(hx:x∈xs):MO x=ar:=by simp only[w9,aj]at h;exact lS h.1 x hx
def acR(x:aM.ty)(h0:x.1.length<4611686018427387904):HO x=ae (MO x):=by rw[acQ,MO];simp only[jx x.1 h0,ZU,jX,af];cases eK x.1<;>cases iF x.2.1 20 200<;>cases iF x.2.2.1 100 1000<;>simp
def GL(x:aM.ty)(h0:x.1.length<4611686018427387904):sD x=ae (MO x):=by rw[TV,MO];simp only[j6 x.1 h0,Oa,bx,af];cases eK x.1<;>cases iF x.2.1 20 200<;>cases iF x.2.2.1 100 1000<;>simp
def aes(xs:List aM.ty)(hs:xs.length<=1048576)(hx:∀x,x∈xs->x.1.length<=1048576):SP xs=ae (w9 xs):=by rw[aer];exact tv xs HO MO (λx=>x.1) (λi=>vY xs i) _ _ rfl (λi=>Xl xs i) hs (λx hm=>acR x (dw (hx x hm) (by decide))) xs.length 0 (by omega)
def GS(xs:List aM.ty)(hs:xs.length<=1048576)(hx:∀x,x∈xs->x.1.length<=1048576):ym xs=ae (w9 xs):=by rw[T7];exact nM xs sD MO (λx=>x.1) (λi=>nA xs xs xs.length i) _ _ (show((gz (xs.length:Int) 8).bind λx4=>ae x4)=ae (ah ((xs.length:Int)<=8))by rw[fG];rfl) (λi=>NR xs xs xs.length i) hs (λx hm=>GL x (dw (hx x hm) (by decide))) xs.length 0 (by omega)
def wZ(x:aN.ty):Bool:=eK x.1&&(iF x.2.1 1000 100000&&(iF x.2.2.1 1 500))
def jz(xs:List aN.ty):Bool:=eZ wZ (λx=>x.1) ai xs&&ah ((xs.length:Int)<=10)
def Ho{xs:List aN.ty}(h:jz xs=ar)(x:aN.ty)(hx:x∈xs):wZ x=ar:=by simp only[jz,aj]at h;exact lS h.1 x hx
def acW(x:aN.ty)(h0:x.1.length<4611686018427387904):HQ x=ae (wZ x):=by rw[acU,wZ];simp only[jx x.1 h0,ZZ,jX,af];cases eK x.1<;>cases iF x.2.1 1000 100000<;>simp
def Er(x:aN.ty)(h0:x.1.length<4611686018427387904):qm x=ae (wZ x):=by rw[RF,wZ];simp only[j6 x.1 h0,Oc,bx,af];cases eK x.1<;>cases iF x.2.1 1000 100000<;>simp
def aew(xs:List aN.ty)(hs:xs.length<=1048576)(hx:∀x,x∈xs->x.1.length<=1048576):SU xs=ae (jz xs):=by rw[aev];exact tv xs HQ wZ (λx=>x.1) (λi=>v7 xs i) _ _ rfl (λi=>Xo xs i) hs (λx hm=>acW x (dw (hx x hm) (by decide))) xs.length 0 (by omega)
def EE(xs:List aN.ty)(hs:xs.length<=1048576)(hx:∀x,x∈xs->x.1.length<=1048576):qt xs=ae (jz xs):=by rw[RP];exact nM xs qm wZ (λx=>x.1) (λi=>ml xs xs xs.length i) _ _ (show((gz (xs.length:Int) 10).bind λx4=>ae x4)=ae (ah ((xs.length:Int)<=10))by rw[fG];rfl) (λi=>M0 xs xs xs.length i) hs (λx hm=>Er x (dw (hx x hm) (by decide))) xs.length 0 (by omega)
def vz(x:aM.ty):Bool:=eK x.1&&(iF x.2.1 1 40&&(iF x.2.2.1 0 39&&(iF x.2.2.2.1 0 39&&(ah (ag.wrap ((ag.wrap (x.2.2.1+x.2.1))-1)<=x.2.2.2.1)))))
def nO(xs:List aM.ty):Bool:=eZ vz (λx=>x.1) ai xs&&ah ((xs.length:Int)<=8)
def Pq{xs:List aM.ty}(h:nO xs=ar)(x:aM.ty)(hx:x∈xs):vz x=ar:=by simp only[nO,aj]at h;exact lS h.1 x hx
def acZ(x:aM.ty)(h0:x.1.length<4611686018427387904):HR x=ae (vz x):=by rw[acY,vz];simp only[jx x.1 h0,Z0,acX,jX,af];cases eK x.1<;>cases iF x.2.1 1 40<;>cases iF x.2.2.1 0 39<;>cases iF x.2.2.2.1 0 39<;>simp
def EI(x:aM.ty)(h0:x.1.length<4611686018427387904):qu x=ae (vz x):=by rw[RT,vz];simp only[j6 x.1 h0,abl,abe,bx,af];cases eK x.1<;>cases iF x.2.1 1 40<;>cases iF x.2.2.1 0 39<;>cases iF x.2.2.2.1 0 39<;>simp
def aey(xs:List aM.ty)(hs:xs.length<=1048576)(hx:∀x,x∈xs->x.1.length<=1048576):SW xs=ae (nO xs):=by rw[aex];exact tv xs HR vz (λx=>x.1) (λi=>wa xs i) _ _ rfl (λi=>Xp xs i) hs (λx hm=>acZ x (dw (hx x hm) (by decide))) xs.length 0 (by omega)
def EG(xs:List aM.ty)(hs:xs.length<=1048576)(hx:∀x,x∈xs->x.1.length<=1048576):nk xs=ae (nO xs):=by rw[RS];exact nM xs qu vz (λx=>x.1) (λi=>mn xs xs xs.length i) _ _ (show((gz (xs.length:Int) 8).bind λx4=>ae x4)=ae (ah ((xs.length:Int)<=8))by rw[fG];rfl) (λi=>M2 xs xs xs.length i) hs (λx hm=>EI x (dw (hx x hm) (by decide))) xs.length 0 (by omega)
def iV(x:aK.ty):Bool:=eK x.1&&(eK x.2.1&&(ah (1500<=x.2.2.1)&&(ah (x.2.2.1<=x.2.2.2.1)&&(ah (x.2.2.2.1<=2100)&&iF x.2.2.2.2.1 1 1000))))
def lr(xs:List aK.ty):Bool:=eZ iV (λx=>x.1) ai xs&&ah ((xs.length:Int)<=12)
def US{xs:List aK.ty}(h:lr xs=ar)(x:aK.ty)(hx:x∈xs):iV x=ar:=by simp only[lr,aj]at h;exact lS h.1 x hx
def MZ(a b:List UInt8)(c d e:Int)(h0:a.length<4611686018427387904)(h1:b.length<4611686018427387904):jG (a,b,c,d,e,())=ae (iV (a,b,c,d,e,())):=by rw[Qd,iV];simp only[j6 a h0,j6 b h1,bx,af];cases eK a<;>cases eK b<;>by_cases g1:1500<=c<;>by_cases g2:c<=d<;>by_cases g3:d<=2100<;>simp[g1,g2,g3]
def vd(x:aK.ty)(h0:x.1.length<4611686018427387904)(h1:x.2.1.length<4611686018427387904):jG x=ae (iV x):=MZ x.1 x.2.1 x.2.2.1 x.2.2.2.1 x.2.2.2.2.1 h0 h1
def Xr(a b:List UInt8)(c d e:Int)(h0:a.length<4611686018427387904)(h1:b.length<4611686018427387904):BK (a,b,c,d,e,())=ae (iV (a,b,c,d,e,())):=by
 rw[ac0,iV];simp only[jx a h0,jx b h1,Z3,jX,af,iF];cases eK a<;>cases eK b<;>by_cases g1:1500<=c<;>by_cases g2:c<=d<;>by_cases g3:d<=2100<;>simp[g1,g2,g3]
 all_goals first
  |(have g4:c<=2100:=by omega
    have g5:1500<=d:=by omega
    simp[g4,g5])
  |skip
 all_goals first
  |omega
  |(by_cases g6:c<=2100<;>by_cases g7:1500<=d<;>simp[g6,g7]<;>omega)
def ac1(x:aK.ty)(h0:x.1.length<4611686018427387904)(h1:x.2.1.length<4611686018427387904):BK x=ae (iV x):=Xr x.1 x.2.1 x.2.2.1 x.2.2.2.1 x.2.2.2.2.1 h0 h1
def Ra(xs:List aK.ty)(hs:xs.length<=1048576)(hx:∀x,x∈xs->x.1.length<=1048576/\x.2.1.length<=1048576):FL xs=ae (lr xs):=by rw[aez];exact tv xs BK iV (λx=>x.1) (λi=>wc xs i) _ _ rfl (λi=>Xq xs i) hs (λx hm=>ac1 x (dw (hx x hm).1 (by decide)) (dw (hx x hm).2 (by decide))) xs.length 0 (by omega)
def ve(xs:List aK.ty)(hs:xs.length<=1048576)(hx:∀x,x∈xs->x.1.length<=1048576/\x.2.1.length<=1048576):gX xs=ae (lr xs):=by rw[Qi];exact nM xs jG iV (λx=>x.1) (λi=>lg xs xs xs.length i) _ _ (show((gz (xs.length:Int) 12).bind λx4=>ae x4)=ae (ah ((xs.length:Int)<=12))by rw[fG];rfl) (λi=>KV xs xs xs.length i) hs (λx hm=>vd x (dw (hx x hm).1 (by decide)) (dw (hx x hm).2 (by decide))) xs.length 0 (by omega)
def mG(r:List Int):Bool:=r.all λx=>iF x 1 200
def fD(xs:List (List Int)):Bool:=
 match xs with
 | []=>aw
 |r0::_=>ah (xs.length<=10)&&(ah (1<=r0.length/\r0.length<=10)&&xs.all λr=>ah (r.length=r0.length)&&mG r)
def GZ(xs:List (List Int))(row:List Int)(hr:row.length<=1048576)(i:Nat)(hi:i<=1048576):∀(k j:Nat),j+k=row.length->
 sV xs 1 200 xs xs.length i row row.length j=if mG (row.drop j)then mq xs 1 200 xs xs.length ((i+1:Nat):Int)else ae aw
 |0,j,hk=>by
  rw[GY,bb (by omega)]
  have:¬(j:Int)<(row.length:Int):=by omega
  have hw:ag.wrap ((i:Int)+1)=((i+1:Nat):Int):=by rw[fR (by omega) (by omega)];omega
  simp only[this,aW,ao,aH,hw,mG,fK,aC]
 |k+1,j,hk=>by
  have hj:j<row.length:=by omega
  have hlt:(j:Int)<(row.length:Int):=by omega
  have hw:ag.wrap ((j:Int)+1)=((j+1:Nat):Int):=by rw[fR (by omega) (by omega)];omega
  have ih:=GZ xs row hr i hi k (j+1) (by omega)
  rw[GY,bf hj]
  simp only[hlt,aB,aC,aI,aE,ay hj,af,bx,hw,ih,mG,de]
  by_cases c:iF row[j] 1 200=ar<;>simp[c]
def GX(xs:List (List Int))(r0:List Int)(h0:xs[0]? =ae r0)(hs:xs.length<=1048576)(hx:∀x,x∈xs->x.length<=1048576):∀(k i:Nat),i+k=xs.length->
 mq xs 1 200 xs xs.length i=ae ((xs.drop i).all λr=>ah (r.length=r0.length)&&mG r)
 |0,i,hk=>by
  rw[GW,bb (by omega)]
  have:¬(i:Int)<(xs.length:Int):=by omega
  simp[this]
 |k+1,i,hk=>by
  have hi:i<xs.length:=by omega
  have hlt:(i:Int)<(xs.length:Int):=by omega
  have ih:=GX xs r0 h0 hs hx k (i+1) (by omega)
  have h2:=GZ xs xs[i] (hx _ (bc hi)) i (by omega) xs[i].length 0 (by omega)
  have h2':sV xs 1 200 xs xs.length i xs[i] xs[i].length 0=if mG xs[i]then mq xs 1 200 xs xs.length ((i+1:Nat):Int)else ae aw:=h2
  rw[GW,bf hi]
  simp only[hlt,aB,aC,aI,aE,ay hi,af,h0,h2',ih,de]
  by_cases hl:xs[i].length=r0.length
  ·by_cases ht:mG xs[i]=ar
   ·simp[hl,ht]
   ·simp[hl,ht]
  ·have:((xs[i].length:Int) !=(r0.length:Int))=ar:=by rw[ja];omega
   simp only[this,aC,hl,aW,qi]
def fN(xs:List (List Int))(hs:xs.length<=1048576)(hx:∀x,x∈xs->x.length<=1048576):kX xs=ae (fD xs):=by rw[RQ,abg,bx,af];cases xs with|nil=>simp[fD,iF]|cons r0 l=>have h1:=GX (r0::l) r0 rfl hs hx (r0::l).length 0 (by omega);have h1':mq (r0::l) 1 200 (r0::l) (r0::l).length 0=_:=h1;rw[dV]at h1';simp only[bg,af,bx,Uc,h1',fD];by_cases c1:(r0::l).length<=10;(·(have e1:iF ((r0::l).length:Int) 1 10=ar:=by rw[cS];simp at c1⊢;omega);simp only[e1,c1,aY,ao,aH,aB,jD];by_cases c2:1<=r0.length/\r0.length<=10;(·(have e2:iF (r0.length:Int) 1 10=ar:=by rw[cS];omega);simp only[e2,c2,mV,aY,ao,aH,aB,jD,af]);·(have e2:iF (r0.length:Int) 1 10=aw:=by rw[apk,Ly,cS];omega);simp only[e2,c2,fF,aC,aW,qi,af]);·(have e1:iF ((r0::l).length:Int) 1 10=aw:=by rw[apk,Ly,cS];omega);simp only[e1,c1,fF,aC,aW,qi,af]
def Ko(xs:List (List Int))(hs:xs.length<=1048576)(i:Nat)(hi:i<xs.length)(hr:xs[i].length<=1048576):∀(k j:Nat),j+k=xs[i].length->
 vX xs i j=if mG (xs[i].drop j)then n6 xs ((i+1:Nat):Int)else ae aw
 |0,j,hk=>by
  rw[Kn,bb (by omega)]
  have:¬(j:Int)<(xs[i].length:Int):=by omega
  have hw:ag.wrap ((i:Int)+1)=((i+1:Nat):Int):=by rw[fR (by omega) (by omega)];omega
  simp only[aI,aB,aC,aE,ay hi,af,this,aW,ao,aH,hw,mG,fK]
 |k+1,j,hk=>by
  have hj:j<xs[i].length:=by omega
  have hlt:(j:Int)<(xs[i].length:Int):=by omega
  have hw:ag.wrap ((j:Int)+1)=((j+1:Nat):Int):=by rw[fR (by omega) (by omega)];omega
  have ih:=Ko xs hs i hi hr k (j+1) (by omega)
  rw[Kn,bf hj]
  simp only[aI,hlt,aB,aC,aE,ay hi,ay hj,af,Xk,jX,hw,ih,mG,de]
  by_cases c:iF xs[i][j] 1 200=ar<;>simp[c]
def Km(xs:List (List Int))(r0:List Int)(h0:xs[0]? =ae r0)(hs:xs.length<=1048576)(hx:∀x,x∈xs->x.length<=1048576):∀(k i:Nat),i+k=xs.length->
 n6 xs i=ae (((xs.drop i).all λr=>ah (1<=r.length/\r.length<=10)&&(ah (r.length=r0.length)&&mG r))&&ah (xs.length<=10))
 |0,i,hk=>by
  rw[AD,bb (by omega)]
  have:¬(i:Int)<(xs.length:Int):=by omega
  have h1:(xs.length:Int)>=1:=by cases xs with|nil=>simp at h0|cons a l=>simp;omega
  simp only[this,aW,ao,aH,h1,aB,aC,fK,jD]
  congr 1
  simp only[anP];omega
 |k+1,i,hk=>by
  have hi:i<xs.length:=by omega
  have hlt:(i:Int)<(xs.length:Int):=by omega
  have ih:=Km xs r0 h0 hs hx k (i+1) (by omega)
  have h2:=Ko xs hs i hi (hx _ (bc hi)) xs[i].length 0 (by omega)
  have h2':vX xs i 0=if mG xs[i]then n6 xs ((i+1:Nat):Int)else ae aw:=h2
  rw[AD,bf hi]
  simp only[hlt,aB,aC,aI,aE,ay hi,af,h0,Xj,h2',ih,de]
  by_cases g1:(xs[i].length:Int)<1
  ·have:¬(1<=xs[i].length/\xs[i].length<=10):=by omega
   simp only[g1,this,aB,aW,aC,qi]
  by_cases g2:(xs[i].length:Int)>10
  ·have:¬(1<=xs[i].length/\xs[i].length<=10):=by omega
   simp only[g1,g2,this,aB,aW,aC,ao,aH,qi]
  have g3:1<=xs[i].length/\xs[i].length<=10:=by omega
  by_cases hl:xs[i].length=r0.length
  ·have hl':((xs[i].length:Int) !=(r0.length:Int))=aw:=by rw[hl];simp
   have hl2:ah (xs[i].length=r0.length)=ar:=by simpa using hl
   by_cases ht:mG xs[i]=ar
   ·simp only[g1,g2,g3,mV,hl',hl2,ht,aB,aW,aC,ao,aH,jD]
   ·simp only[g1,g2,g3,mV,hl',hl2,ht,aB,aW,aC,ao,aH,jD,qi]
  ·have hl':((xs[i].length:Int) !=(r0.length:Int))=ar:=by rw[ja];omega
   simp only[g1,g2,g3,mV,hl',hl,aB,aW,aC,ao,aH,jD,qi]
def aeo(xs:List (List Int))(hs:xs.length<=1048576)(hx:∀x,x∈xs->x.length<=1048576):SL xs=ae (fD xs):=by rw[aen];cases xs with|nil=>rw[AD];simp[fD]|cons r0 l=>have h1:=Km (r0::l) r0 rfl hs hx (r0::l).length 0 (by omega);have h1':n6 (r0::l) 0=_:=h1;rw[dV]at h1';rw[h1',fD];congr 1;rw[afX];simp only[aj,ax,aG];constructor;(·rintro⟨h,hl⟩;have h2:=(h r0 (by simp)).1;exact⟨hl,h2,λr hr=>(h r hr).2⟩);·rintro⟨hl,h2,h⟩;refine⟨λr hr=>⟨?_,h r hr⟩,hl⟩;have:=(h r hr).1;omega
def Jo(x:cD.ty):Prop:=
 (cP (α:=aM.ty) x.1<=1048576/\∀y:aM.ty,y∈x.1->y.1.length<=1048576)/\
 (cP (α:=aN.ty) x.2.1<=1048576/\∀y:aN.ty,y∈x.2.1->y.1.length<=1048576)/\
 (cP (α:=List Int) x.2.2.1<=1048576/\∀y:List Int,y∈x.2.2.1->y.length<=1048576)/\
 (cP (α:=aM.ty) x.2.2.2.2.2.2.2.1<=1048576/\∀y:aM.ty,y∈x.2.2.2.2.2.2.2.1->y.1.length<=1048576)/\
 (cP (α:=bO.ty) x.2.2.2.2.2.2.2.2.1<=1048576/\∀y:bO.ty,y∈x.2.2.2.2.2.2.2.2.1->y.1.length<=1048576)/\
 (cP (α:=aN.ty) x.2.2.2.2.2.2.2.2.2.1<=1048576/\∀y:aN.ty,y∈x.2.2.2.2.2.2.2.2.2.1->y.1.length<=1048576)/\
 (cP (α:=aM.ty) x.2.2.2.2.2.2.2.2.2.2.1<=1048576/\∀y:aM.ty,y∈x.2.2.2.2.2.2.2.2.2.2.1->y.1.length<=1048576)/\
 (cP (α:=aK.ty) x.2.2.2.2.2.2.2.2.2.2.2.1<=1048576/\∀y:aK.ty,y∈x.2.2.2.2.2.2.2.2.2.2.2.1->y.1.length<=1048576/\y.2.1.length<=1048576)
def kW(x:cD.ty):Bool:=
 nN x.1&&(qe x.2.1&&(fD x.2.2.1&&(Ck (x.2.2.2.1,x.2.2.2.2.1,x.2.2.2.2.2.1,x.2.2.2.2.2.2.1,())&&(w9 x.2.2.2.2.2.2.2.1&&(nX x.2.2.2.2.2.2.2.2.1&&(jz x.2.2.2.2.2.2.2.2.2.1&&(nO x.2.2.2.2.2.2.2.2.2.2.1&&lr x.2.2.2.2.2.2.2.2.2.2.2.1)))))))
def GR(x:cD.ty)(h:Jo x):yk x=ae (kW x):=by
 obtain⟨h1,h2,h3,h4,h5,h6,h7,h8⟩:=h;rw[T5,kW];simp only[CS _ h1.1 h1.2,GV _ h2.1 h2.2,fN _ h3.1 h3.2,yl,GS _ h4.1 h4.2,GU _ h5.1 h5.2,EE _ h6.1 h6.2,EG _ h7.1 h7.2,ve _ h8.1 h8.2,af];cases nN x.1<;>cases qe x.2.1<;>cases fD x.2.2.1<;>cases Ck (x.2.2.2.1,x.2.2.2.2.1,x.2.2.2.2.2.1,x.2.2.2.2.2.2.1,())<;>first|rfl|skip
 all_goals(cases w9 x.2.2.2.2.2.2.2.1<;>cases nX x.2.2.2.2.2.2.2.2.1<;>cases jz x.2.2.2.2.2.2.2.2.2.1<;>cases nO x.2.2.2.2.2.2.2.2.2.2.1<;>rfl)
def Va(x:cD.ty)(h:Jo x):yU x=ae (kW x):=by
 obtain⟨h1,h2,h3,h4,h5,h6,h7,h8⟩:=h;rw[U9,aeA,kW];simp only[aek _ h1.1 h1.2,aem _ h2.1 h2.2,aeo _ h3.1 h3.2,aeq,aes _ h4.1 h4.2,aeu _ h5.1 h5.2,aew _ h6.1 h6.2,aey _ h7.1 h7.2,Ra _ h8.1 h8.2,af];cases nN x.1<;>cases qe x.2.1<;>cases fD x.2.2.1<;>cases Ck (x.2.2.2.1,x.2.2.2.2.1,x.2.2.2.2.2.1,x.2.2.2.2.2.2.1,())<;>first|rfl|skip
 all_goals(cases w9 x.2.2.2.2.2.2.2.1<;>cases nX x.2.2.2.2.2.2.2.2.1<;>cases jz x.2.2.2.2.2.2.2.2.2.1<;>cases nO x.2.2.2.2.2.2.2.2.2.2.1<;>rfl)
def Hn(x0 y0 x1 y1 h:Int):Int:=if h<=x0 then y0 else if x1<=x0 then y0 else if h>=x1 then y1 else y0+fS ((y1-y0)*(h-x0)) (x1-x0)
def ND(h:Int):Int:=if h<=300 then Hn 0 0 300 60 h else if h<=600 then Hn 300 60 600 110 h else if h<=800 then Hn 600 110 800 160 h else Hn 800 160 1000 280 h
def aqm{h:Int}(hh:0<=h/\h<=1000):0<=ND h/\ND h<=280:=by
 unfold ND Hn fS;repeat' split
 all_goals omega
def chg(e t m:Int):Int:=fS (20*(e-m)) (t+20)
def stp(e t m:Int):Int:=m+chg e t m
def aft(e t:Int):Nat->Int->Int
 |0,m=>m
 |n+1,m=>aft e t n (stp e t m)
def alk{T d:Int}(hT:30<=T)(hd:0<=d):0<=fS (20*d) T/\fS (20*d) T<=d:=by
 refine⟨yO (by omega) (by omega),?_⟩;have hm:30*d<=T*d:=kT hT hd;have h1:=aoi (a:=20*d) (b:=T) (by omega);generalize hq:fS (20*d) T=q at h1⊢;by_cases hc:q<=d;·exact hc
 ·have h2:(d+1)*T<=q*T:=kT (by omega) (by omega);rw[Int.add_mul,Int.mul_comm d T]at h2;unfold MW at h1;split at h1<;>omega
def atq{T d:Int}(hT:30<=T)(hd:d<=0):d<=fS (20*d) T/\fS (20*d) T<=0:=by
 by_cases h0:d=0;·subst h0;have:=alk (d:=0) hT (by omega);omega
 ·have h1:=alk (d:= -d) hT (by omega);have h2:=PI (a:=20* -d) (b:=T) (by omega) (by omega);rw[show-(20* -d)=20*d by omega]at h2;omega
def avn{e t m:Int}(ht:10<=t)(h:m<=e):0<=chg e t m/\chg e t m<=e-m:=alk (by omega) (by omega)
def avm{e t m:Int}(ht:10<=t)(h:e<=m):e-m<=chg e t m/\chg e t m<=0:=atq (by omega) (by omega)
def ap1{e t:Int}(ht:10<=t):∀(n:Nat) {m:Int},m<=e->m<=aft e t n m/\aft e t n m<=e
 |0,m,h=>⟨dH _,h⟩
 |n+1,m,h=>by
  have h1:=avn ht h
  have h2:=ap1 (e:=e) ht n (m:=stp e t m) (by unfold stp;omega)
  show m<=aft e t n (stp e t m)/\_
  unfold stp at h2⊢
  exact⟨by omega,h2.2⟩
def apZ{e t:Int}(ht:10<=t):∀(n:Nat) {m:Int},e<=m->e<=aft e t n m/\aft e t n m<=m
 |0,m,h=>⟨h,dH _⟩
 |n+1,m,h=>by
  have h1:=avm ht h
  have h2:=apZ (e:=e) ht n (m:=stp e t m) (by unfold stp;omega)
  show e<=aft e t n (stp e t m)/\aft e t n (stp e t m)<=m
  unfold stp at h2⊢
  exact⟨h2.1,by omega⟩
def ap0{e t:Int}(n:Nat){m:Int}(h:chg e t m=0):aft e t n m=m:=by induction n with|zero=>rfl|succ n ih=>show aft e t n (stp e t m)=m;rw[show stp e t m=m by unfold stp;omega];exact ih
def avi{e t:Int}(ht:10<=t)(n:Nat){m:Int}(he:0<=e/\e<=1000)(hm:0<=m/\m<=1000):0<=aft e t n m/\aft e t n m<=1000:=by
 by_cases h:m<=e;·have:=ap1 ht n h;omega
 ·have:=apZ ht n (show e<=m by omega);omega
def aju{id:List UInt8}{m t s:Int}:mU (id,m,t,s,())=ar↔eK id=ar/\(0<=m/\m<=1000)/\(10<=t/\t<=1000)/\(0<=s/\s<=36524):=by simp[mU,agA]
def AS(x0 y0 x1 y1 h:Int)(b1:0<=x0/\x0<=100000)(b2:0<=y0/\y0<=100000)(b3:0<=x1/\x1<=100000)(b4:0<=y1/\y1<=100000)(b5: -100000<=h/\h<=100000):wV x0 y0 x1 y1 h=ae (Hn x0 y0 x1 y1 h):=by
 rw[adM,Hn];simp only[ax];repeat' split
 all_goals first|rfl|skip
 have hm: -(100000*200000)<=(y1-y0)*(h-x0)/\(y1-y0)*(h-x0)<=100000*200000:=by(have p1:0<=h-x0/\h-x0<=200000:=by omega);have q1:(y1-y0)*(h-x0)<=100000*(h-x0):=kT (by omega) p1.1;have q2:(-100000)*(h-x0)<=(y1-y0)*(h-x0):=kT (by omega) p1.1;omega
 rw[V9,fR (n:=y1-y0) (by omega) (by omega),fR (n:=h-x0) (by omega) (by omega),fR (n:=x1-x0) (by omega) (by omega),fR (n:=(y1-y0)*(h-x0)) (by omega) (by omega),jH _ _ (by omega) (by omega),af];have:=U1 (a:=(y1-y0)*(h-x0)) (b:=x1-x0) (m:=20000000000) (by omega) (by omega);rw[fR (by omega) (by omega)]
def YJ(h:Int)(hh:0<=h/\h<=1000):p7 h 1 0 0 300 60 600 110 800 160 1000 280=ae (Hn 0 0 300 60 h)/\p7 h 2 0 0 300 60 600 110 800 160 1000 280=ae (Hn 300 60 600 110 h)/\p7 h 3 0 0 300 60 600 110 800 160 1000 280=ae (Hn 600 110 800 160 h)/\p7 h 4 0 0 300 60 600 110 800 160 1000 280=ae (Hn 800 160 1000 280 h):=by
 have e0:ag.wrap (1-1)=0:=by decide
 have e1:ag.wrap (2-1)=1:=by decide
 have e2:ag.wrap (3-1)=2:=by decide
 have e3:ag.wrap (4-1)=3:=by decide
 have i1:¬(1:Int)=0:=by decide
 have i2:¬(2:Int)=0:=by decide
 have i3:¬(2:Int)=1:=by decide
 have i4:¬(3:Int)=0:=by decide
 have i5:¬(3:Int)=1:=by decide
 have i6:¬(3:Int)=2:=by decide
 have i7:¬(4:Int)=0:=by decide
 have i8:¬(4:Int)=1:=by decide
 have i9:¬(4:Int)=2:=by decide
 have i10:¬(4:Int)=3:=by decide
 have i11:¬(1:Int)=2:=by decide
 refine⟨?_,?_,?_,?_⟩;·rw[wD];simp only[e0,i1,aB,aW,ao,aC,aH];change(wV 0 0 300 60 h).bind (λx=>ae x)=_;rw[AS _ _ _ _ _ (by omega) (by omega) (by omega) (by omega) (by omega)];rfl
 ·rw[wD];simp only[e1,i1,i2,i3,aB,aW,ao,aC,aH];change(wV 300 60 600 110 h).bind (λx=>ae x)=_;rw[AS _ _ _ _ _ (by omega) (by omega) (by omega) (by omega) (by omega)];rfl
 ·rw[wD];simp only[e2,i2,i3,i4,i5,i6,aB,aW,ao,aC,aH];change(wV 600 110 800 160 h).bind (λx=>ae x)=_;rw[AS _ _ _ _ _ (by omega) (by omega) (by omega) (by omega) (by omega)];rfl
 ·rw[wD];simp only[e3,i4,i5,i6,i7,i8,i9,i10,aB,aW,ao,aC,aH];change(wV 800 160 1000 280 h).bind (λx=>ae x)=_;rw[AS _ _ _ _ _ (by omega) (by omega) (by omega) (by omega) (by omega)];rfl
def agw(h:Int)(hh:0<=h/\h<=1000):Wg h=ae (ND h):=by
 obtain⟨p1,p2,p3,p4⟩:=YJ h hh;have e1:ag.wrap (1+1)=2:=by decide
 have e2:ag.wrap (2+1)=3:=by decide
 have e3:ag.wrap (3+1)=4:=by decide
 have j1:(1:Int)<4:=by decide
 have j2:(2:Int)<4:=by decide
 have j3:(3:Int)<4:=by decide
 have j4:¬(4:Int)<4:=by decide
 have i1:¬(1:Int)=0:=by decide
 have i2:¬(2:Int)=0:=by decide
 have i3:¬(2:Int)=1:=by decide
 have i4:¬(3:Int)=0:=by decide
 have i5:¬(3:Int)=1:=by decide
 have i6:¬(3:Int)=2:=by decide
 rw[agv,wC,ND];simp only[e1,j1,i1,p1,aB,aW,ao,aC,aH,ax];change(if h>300 then uq h 2 0 0 300 60 600 110 800 160 1000 280 else ae (Hn 0 0 300 60 h))=_;by_cases c1:h<=300;·rw[aO (by omega),aJ c1]
 rw[aJ (by omega),aO c1,wC];simp only[e2,j2,i2,i3,p2,aB,aW,ao,aC,aH,ax];change(if h>600 then uq h 3 0 0 300 60 600 110 800 160 1000 280 else ae (Hn 300 60 600 110 h))=_;by_cases c2:h<=600;·rw[aO (by omega),aJ c2]
 rw[aJ (by omega),aO c2,wC];simp only[e3,j3,i4,i5,i6,p3,aB,aW,ao,aC,aH,ax];change(if h>800 then uq h 4 0 0 300 60 600 110 800 160 1000 280 else ae (Hn 600 110 800 160 h))=_;by_cases c3:h<=800;·rw[aO (by omega),aJ c3]
 rw[aJ (by omega),aO c3,wC];simp only[j4,p4,aW,ao,aH]
def aa9(m e t:Int)(hm:0<=m/\m<=1000)(he:0<=e/\e<=1000)(ht:10<=t/\t<=1000):NU m e t=ae (chg e t m):=by rw[aa8,fR (n:=e-m) (by omega) (by omega),fR (n:=20*(e-m)) (by omega) (by omega),fR (n:=t+20) (by omega) (by omega),jH _ _ (by omega) (by omega)];rfl
def JG(e t d:Int)(id:List UInt8)(m0 s:Int)(he:0<=e/\e<=1000)(ht:10<=t/\t<=1000)(hd:0<=d/\d<=4000):∀(k:Nat) (i m:Int),0<=i->i+k=d->0<=m/\m<=1000->oq e m d i id m0 t s=ae (aft e t k m)
 |0,i,m,hi,hk,hm=>by
  rw[yi]
  have:¬i<d:=by omega
  simp[this,aft]
 |k+1,i,m,hi,hk,hm=>by
  rw[yi]
  have h1:i<d:=by omega
  have h2:=avi ht.1 1 he hm
  have h2:0<=m+chg e t m/\m+chg e t m<=1000:=h2
  simp only[h1,aB,aC,aa9 m e t hm he ht,af]
  by_cases h0:chg e t m=0
  ·have h3:=ap0 (k+1) h0
   simp[h0,h3]
  ·simp only[b9,h0,aH]
   rw[fR (n:=m+chg e t m) (by omega) (by omega),fR (n:=i+1) (by omega) (by omega)]
   exact JG e t d id m0 s he ht hd k (i+1) _ (by omega) (by omega) h2
def adL(id:List UInt8)(m t s h d:Int)(hm:0<=m/\m<=1000)(ht:10<=t/\t<=1000)(hh:0<=h/\h<=1000)(hd:0<=d/\d<=4000):ug (id,m,t,s,()) h d=ae (aft (ND h) t d.toNat m):=by have he:=aqm hh;rw[Qg,agw h hh,af];exact JG (ND h) t d id m s (by omega) ht hd d.toNat 0 m (by omega) (by omega) hm
def akU(l:List Int):List UInt8:=if l=[]then [45]else BE l
def aiJ(l:List Int)(hl:l.length<=64)(hx:∀x,x∈l-> -1000000000000<=x/\x<=1000000000000):(akU l).length<=1024:=by
 unfold akU;split;·decide
 ·exact PB l hl hx
def GJ(l:List Int)(hl:l.length<=64)(hx:∀x,x∈l-> -1000000000000<=x/\x<=1000000000000):qN l=ae (akU l):=by
 by_cases h:l=[];·subst h;rw[JB,fG];simp[akU]
 ·rw[JC l h hl hx,akU,aO h]
def Bt(xs:List Int)(h:xs.length<=1048576):ji xs=ae xs:=by
 rw[sL];have h1:xs.length<lim:=by rw[lM];omega
 simp[h1]
end Go.Ab.P
namespace Go.Ab.P
open Go.Ab
namespace Cu
def rl(x:aN.ty):Int:=x.2.1
def W4(S w:Int)(free:List Int)(k:Nat):Option (List Int):=
 if k<free.length then(if w<=(free[k]?).getD 0 then ae (free.set k ((free[k]?).getD 0-w))else ai)else if k=free.length then ae (free++ [S-w])else ai
def Fi(S:Int):List Int->List Int->List Int->Option (List Int)
 |free,w::ws,k::ps=>if k<0 then ai else(W4 S w free k.toNat).bind λf=>Fi S f ws ps
 |free,_,[]=>ae free
 |_,[],_::_=>ai
def U0{S w:Int}{free f:List Int}{k:Nat}(h:W4 S w free k=ae f):free.length<=f.length/\k<f.length/\k<=free.length:=by
 unfold W4 at h;split at h
 ·split at h;·cases h;simp;omega
  ·cases h
 ·split at h;·cases h;simp;omega
  ·cases h
def ajo{S:Int}:∀{ws ps free f:List Int},Fi S free ws ps=ae f->free.length<=f.length
 | [],[],free,f,h=>by simp[Fi]at h;subst h;omega
 | [],_::_,free,f,h=>by simp[Fi]at h
 |w::ws,[],free,f,h=>by simp[Fi]at h;subst h;omega
 |w::ws,k::ps,free,f,h=>by
  simp only[Fi]at h
  split at h
  ·cases h
  ·obtain⟨f1,h1,h2⟩:=ak.1 h
   have:=(U0 h1).1
   have:=ajo h2
   omega
def fA(S:Int)(free:List Int):Prop:=∀x∈free,0<=x/\x<=S
def aod{S w:Int}(hw:0<=w/\w<=S){free f:List Int}{k:Nat}(hr:fA S free)(h:W4 S w free k=ae f):fA S f:=by
 unfold W4 at h;split at h
 ·rename_i hk;split at h;·rename_i hle;cases h;intro x hx;(rcases anq hx with hx|rfl);(·exact hr x hx);·rw[getElem?_lt hk]at hle⊢;have:=hr free[k] (bc hk);simp only[eJ]at hle⊢;omega
  ·cases h
 ·split at h;·cases h;intro x hx;(rcases aU.1 hx with hx|hx);(·exact hr x hx);·simp at hx;omega
  ·cases h
def atH(xs:List aN.ty)(strip saw left most:Int)(free places:List Int)(k:Nat)(hxl:xs.length<=8)(hfl:free.length<=8)(h1:1<=strip/\strip<=100000)(h2:0<=saw/\saw<=100) (hi:places.length<xs.length) (hx:1<=rl xs[places.length]/\rl xs[places.length]<=strip) (hr:fA (strip+saw) free) (hk:k<=free.length): ∃(b:Int) (F:List Int),(F.set k b).take free.length=free/\(F.length=free.length\/F.length=free.length+1)/\k<F.length/\ ((W4 (strip+saw) (rl xs[places.length]+saw) free k=ai/\k<free.length/\F=free/\rS (xs,strip,saw,free,places,left,most,()) k=ae (b,aw,(xs,strip,saw,F,places,left,most,())))\/ (W4 (strip+saw) (rl xs[places.length]+saw) free k=ae F/\rS (xs,strip,saw,free,places,left,most,()) k=ae (b,ar,(xs,strip,saw,F,places++ [(k:Int)],left,most,())))):=by
 have hpl:places.length+1<lim:=by rw[lM];omega
 have hflim:free.length+1<lim:=by rw[lM];omega
 have e0:(xs[places.length].2.1:Int)=rl xs[places.length]:=rfl;have w1:ag.wrap (rl xs[places.length]+saw)=rl xs[places.length]+saw:=fR (by omega) (by omega);have w2:ag.wrap (strip+saw)=strip+saw:=fR (by omega) (by omega);by_cases hkf:k<free.length
 ·have hb:=hr free[k] (bc hkf);have hne:((k:Int)==(free.length:Int))=aw:=by simp;omega
  have hlt:(k:Int)<(free.length:Int):=by omega
  by_cases hw:rl xs[places.length]+saw<=free[k];·refine⟨free[k],free.set k (free[k]-(rl xs[places.length]+saw)),?_,.inl (by simp),by simpa using hkf,.inr ⟨?_,?_⟩⟩;(·rw[awZ,dO (by simp)];exact akl hkf);(·unfold W4;rw[aJ hkf,getElem?_lt hkf,eJ,aJ hw]);·(have hn:¬rl xs[places.length]+saw>free[k]:=by omega);rw[sN];simp only[aI,aB,aC,aE,getElem?_lt hi,af,hne,ao,aH,oR,hlt,bM,getElem?_lt hkf,e0,w1,hn,aW,hpl,aA,fR (n:=free[k]-(rl xs[places.length]+saw)) (by omega) (by omega)];rw[dO (by simp)]
  ·refine⟨free[k],free,?_,.inl rfl,hkf,.inl ⟨?_,hkf,rfl,?_⟩⟩;(·rw[akl hkf,aA]);(·unfold W4;rw[aJ hkf,getElem?_lt hkf,eJ,aO hw]);·(have hn:rl xs[places.length]+saw>free[k]:=by omega);rw[sN];simp only[aI,aB,aC,aE,getElem?_lt hi,af,hne,ao,aH,oR,hlt,bM,getElem?_lt hkf,e0,w1,hn,aA]
 ·have hke:k=free.length:=by omega
  subst hke;have hg:(free++ [strip+saw])[free.length]? =ae (strip+saw):=by simp
  have hlt:(free.length:Int)<((free++ [strip+saw]).length:Int):=by simp;omega
  have hn:¬rl xs[places.length]+saw>strip+saw:=by omega
  have hset:(free++ [strip+saw]).set free.length (strip+saw-(rl xs[places.length]+saw))=free++ [strip+saw-(rl xs[places.length]+saw)]:=by simp
  refine⟨strip+saw,free++ [strip+saw-(rl xs[places.length]+saw)],?_,.inr (by simp),by simp,.inr ⟨?_,?_⟩⟩;·simp
  ·unfold W4;rw[aO (by omega),aJ rfl]
  ·rw[sN];simp only[aI,aB,aC,aE,getElem?_lt hi,af,lU,hflim,aA,oR,w2,hg,hlt,bM,e0,w1,hn,aW,ao,aH,hpl,fR (n:=strip+saw-(rl xs[places.length]+saw)) (by omega) (by omega),hset];rw[dO (by simp)]
def apJ(xs:List aN.ty)(strip saw:Int)(free places:List Int)(left most:Int)(ws:List Int)(Q:List Int->Prop)(r:Bool×Bool×dI.ty):Prop:=
 (r.1=ar/\r.2.1=ar/\∃(ps f:List Int) (mW:Int),ps.length=ws.length/\Fi (strip+saw) free ws ps=ae f/\(f.length:Int)<=most/\r.2.2=(xs,strip,saw,f,places++ps,mW,most,()))\/
 (r.1=aw/\r.2.1=ar/\(∃mW:Int,0<=mW/\mW<=left/\r.2.2=(xs,strip,saw,free,places,mW,most,()))/\∀ps f,ps.length=ws.length->Q ps->Fi (strip+saw) free ws ps=ae f->most<(f.length:Int))\/
 (r.1=aw/\r.2.1=aw)
def Ay(xs:List aN.ty)(strip saw most:Int)(hxl:xs.length<=8)(h1:1<=strip/\strip<=100000)(h2:0<=saw/\saw<=100)(hx:∀x,x∈xs->1<=rl x/\rl x<=strip)(hm:0<=most/\most<=8):∀(d n:Nat),d<n->∀(free places:List Int) (left:Int),places.length+d=xs.length->
 fA (strip+saw) free->(free.length:Int)<=most->0<=left->left<=20000->∃r,ou n (xs,strip,saw,free,places,left,most,())=ae r/\apJ xs strip saw free places left most ((xs.drop places.length).map λx=>rl x+saw) (λ_=>True) r
 |0,n+1,_,free,places,left,hd,hr,hfm,hl0,hl1=>by
  have hgl:((places.length:Int)==(xs.length:Int))=ar:=by simp;omega
  rw[yt]
  simp only[hgl,aC,aA]
  refine⟨_,rfl,.inl ⟨rfl,rfl,[],free,left,?_,?_,hfm,?_⟩⟩
  ·rw[aT,dm,cy];omega
  ·rw[Nl (by omega)];rfl
  ·rw[bS]
 |d+1,n+1,hdn,free,places,left,hd,hr,hfm,hl0,hl1=>by
  have hgl:((places.length:Int)==(xs.length:Int))=aw:=by simp;omega
  have hi:places.length<xs.length:=by omega
  have hxi:=hx xs[places.length] (bc hi)
  have hws:(xs.drop places.length).map (λx=>rl x+saw)=(rl xs[places.length]+saw)::(xs.drop (places.length+1)).map λx=>rl x+saw:=by rw[drop_cons hi];rfl
  have loop:∀(c k:Nat),k+c=free.length+1->∀(F G:List Int),F.take free.length=free->G.take places.length=places->∀(left:Int),0<=left->left<=20000->
   ∃r,lD n (free.length:Int) (k:Int) xs strip saw free.length places.length left most F G=ae r/\apJ xs strip saw free places left most ((rl xs[places.length]+saw)::(xs.drop (places.length+1)).map λx=>rl x+saw) (λps=>∃y,ps[0]? =ae y/\(k:Int)<=y) r:=by
   intro c
   induction c with
   |zero=>
    intro k hk F G hF hG left hl0 hl1
    have hn:¬(k:Int)<=(free.length:Int):=by omega
    rw[uR]
    simp only[hn,aW,ao,aH,hF,hG]
    refine⟨_,rfl,.inr (.inl ⟨rfl,rfl,⟨left,hl0,dH _,rfl⟩,λps f hpl ⟨y,hy,hky⟩ hrun=> ?_⟩)⟩
    cases ps with
    |nil=>simp at hy
    |cons z ps=>
     simp at hy
     subst hy
     simp only[Fi]at hrun
     split at hrun
     ·cases hrun
     ·obtain⟨f1,e1,e2⟩:=ak.1 hrun
      have:=(U0 e1).2.2
      omega
   |succ c ih=>
    intro k hk F G hF hG left hl0 hl1
    have hle:(k:Int)<=(free.length:Int):=by omega
    rw[uR]
    simp only[hle,aB,aC,ax]
    by_cases hkm:(k:Int)<most
    ·simp only[hkm,aC,Gg,hF,hG]
     obtain⟨b,F1,hF1,hFl,hkF,hcase⟩:=atH xs strip saw left most free places k hxl (by omega) h1 h2 hi hxi hr (by omega)
     have hw:ag.wrap ((k:Int)+1)=((k+1:Nat):Int):=fY (by omega)
     have c1:(k:Int)<(F1.length:Int):=by omega
     have c2:(free.length:Int)<=(F1.length:Int):=by omega
     have tail:∀(G':List Int),G'.take places.length=places->∀(mW:Int),0<=mW->mW<=20000->∃r,lE n (free.length:Int) (k:Int) b xs strip saw places.length mW most F1 G'=ae r/\apJ xs strip saw free places mW most ((rl xs[places.length]+saw)::(xs.drop (places.length+1)).map λx=>rl x+saw) (λps=>∃y,ps[0]? =ae y/\((k+1:Nat):Int)<=y) r:=λG' hG' mW q0 q1=>by rw[Gi];simp only[aI,c1,c2,aB,bM,aC,aE,getElem?_lt hkF,af,hw];exact ih (k+1) (by omega) (F1.set k b) G' hF1 hG' mW q0 q1
     rcases hcase with ⟨hnone,hkf,rfl,e⟩|⟨hsome,e⟩
     ·simp only[e,af,ao,aH]
      obtain⟨r,e2,hp⟩:=tail places (by simp) left hl0 hl1
      refine⟨r,e2,?_⟩
      rcases hp with hp|⟨p1,p2,p3,p4⟩|hp
      ·exact .inl hp
      ·refine .inr (.inl ⟨p1,p2,p3,λps f hpl ⟨y,hy,hky⟩ hrun=> ?_⟩)
       by_cases he:y=(k:Int)
       ·cases ps with
        |nil=>simp at hy
        |cons z ps=>
         simp at hy
         subst hy
         subst he
         simp only[Fi,aE,hnone,Option.bind_none]at hrun
         split at hrun<;>cases hrun
       ·exact p4 ps f hpl ⟨y,hy,by omega⟩ hrun
      ·exact .inr (.inr hp)
     ·simp only[e,af,aC]
      by_cases hz:left=0
      ·simp only[hz,lU,aC]
       exact⟨_,rfl,.inr (.inr ⟨rfl,rfl⟩)⟩
      ·have hz':(left==0)=aw:=by simpa using hz
       have hrl:=aod (S:=strip+saw) (w:=rl xs[places.length]+saw) (by omega) hr hsome
       have hF1m:(F1.length:Int)<=most:=by(rcases hFl with h|h);(·omega);·have:=(U0 hsome).2.2;by_cases hkl:k<free.length;(·exfalso;unfold W4 at hsome;rw[aJ hkl]at hsome;split at hsome;(·cases hsome;simp at h);·cases hsome);·omega
       obtain⟨⟨s1,ok1,w⟩,e3,hp3⟩:=Ay xs strip saw most hxl h1 h2 hx hm d n (by omega) F1 (places++ [(k:Int)]) (left-1) (by simp;omega) hrl hF1m (by omega) (by omega)
       have hdl:(places++ [(k:Int)]).length=places.length+1:=by simp
       rw[hdl]at hp3
       simp only[hz',ao,aH,aA,fR (n:=left-1) (by omega) (by omega),e3,af]
       have hrunk:∀ps,Fi (strip+saw) free ((rl xs[places.length]+saw)::(xs.drop (places.length+1)).map λx=>rl x+saw) ((k:Int)::ps)=Fi (strip+saw) F1 ((xs.drop (places.length+1)).map λx=>rl x+saw) ps:=λps=>by simp only[Fi,aE,hsome,af];rw[aO (by omega)]
       rcases hp3 with ⟨q1,q2,ps,f,l',q3,q4,q5,q6⟩|⟨q1,q2,⟨l',q3,q4,q5⟩,q6⟩|⟨q1,q2⟩
       ·simp only at q1 q2 q6
        subst q1
        subst q2
        subst q6
        simp only[aC,aA]
        refine⟨_,rfl,.inl ⟨rfl,rfl,(k:Int)::ps,f,l',by simp[q3],by rw[hrunk];exact q4,q5,?_⟩⟩
        simp
       ·simp only at q1 q2 q5
        subst q1
        subst q2
        subst q5
        have hll:((places++ [(k:Int)]).length:Int)=(places.length:Int)+1:=by simp
        have d1:(0:Int)<=(places.length:Int):=by omega
        have d2:(places.length:Int)<=(places.length:Int)+1:=by omega
        simp only[ao,aH,aY,Gh,hll,fR (n:=(places.length:Int)+1-1) (by omega) (by omega),fR (n:=(places.length:Int)) (by omega) (by omega),show(places.length:Int)+1-1=(places.length:Int)by omega,d1,d2,aB,bM,aC,aE]
        obtain⟨r,e2,hp⟩:=tail (places++ [(k:Int)]) (by simp) l' q3 (by omega)
        refine⟨r,e2,?_⟩
        rcases hp with ⟨p1,p2,ps,f,l2,p3,p4,p5,p6⟩|⟨p1,p2,⟨l2,p3,p5,p6⟩,p4⟩|hp
        ·exact .inl ⟨p1,p2,ps,f,l2,p3,p4,p5,p6⟩
        ·refine .inr (.inl ⟨p1,p2,⟨l2,p3,by omega,p6⟩,λps f hpl ⟨y,hy,hky⟩ hrun=> ?_⟩)
         by_cases he:y=(k:Int)
         ·cases ps with
          |nil=>simp at hy
          |cons z ps=>
           simp at hy
           subst hy
           subst he
           rw[hrunk]at hrun
           exact q6 ps f (by simpa using hpl) trivial hrun
         ·exact p4 ps f hpl ⟨y,hy,by omega⟩ hrun
        ·exact .inr (.inr hp)
       ·simp only at q1 q2
        subst q1
        subst q2
        simp only[ao,aH,fF,aC]
        exact⟨_,rfl,.inr (.inr ⟨rfl,rfl⟩)⟩
    ·simp only[hkm,aH,hF,hG]
     refine⟨_,rfl,.inr (.inl ⟨rfl,rfl,⟨left,hl0,dH _,rfl⟩,λps f hpl ⟨y,hy,hky⟩ hrun=> ?_⟩)⟩
     cases ps with
     |nil=>simp at hy
     |cons z ps=>
      simp at hy
      subst hy
      simp only[Fi]at hrun
      split at hrun
      ·cases hrun
      ·obtain⟨f1,e1,e2⟩:=ak.1 hrun
       have:=(U0 e1).2.1
       have:=ajo e2
       omega
  rw[yt,hws]
  simp only[hgl,ao,aH]
  obtain⟨r,e,hp⟩:=loop (free.length+1) 0 (by omega) free places (by simp) (by simp) left hl0 hl1
  refine⟨r,e,?_⟩
  rcases hp with hp|⟨p1,p2,p3,p4⟩|hp
  ·exact .inl hp
  ·refine .inr (.inl ⟨p1,p2,p3,λps f hpl _ hrun=> ?_⟩)
   cases ps with
   |nil=>simp at hpl
   |cons z ps=>
    by_cases hz:z<0
    ·simp only[Fi,hz,aC]at hrun;cases hrun
    ·exact p4 (z::ps) f hpl ⟨z,by simp,by omega⟩ hrun
  ·exact .inr (.inr hp)
def apH(x:aN.ty):Prop:=x.1.length<=100
def apI(xs:List aN.ty):Prop:=xs.length<=100/\∀x,x∈xs->apH x
def Ph(xs:List aN.ty)(h:apI xs):sK xs=ae (qe xs):=
 GV xs (by have:=h.1;omega) λx hx=>by have:=h.2 x hx;unfold apH at this;omega
def ag9{xs:List aN.ty}(h:qe xs=ar):xs.length<=8/\∀x,x∈xs->1<=rl x/\rl x<=10000:=by have h1:=SA h;simp only[qe,aj,ax]at h;refine⟨by omega,λx hx=> ?_⟩;have h2:=h1 x hx;simp only[HH,aj]at h2;exact cS.1 h2.2.1
def Vn(strip saw:Int):Bool:=iF strip 1 100000&&iF saw 0 100
def akL(strip saw:Int):K9 strip saw=ae (Vn strip saw):=by rw[YM];simp only[bx,af,Vn];cases iF strip 1 100000<;>rfl
def Mf(strip:Int)(xs:List aN.ty):Bool:=xs.any λx=>ah (rl x>strip)
def alH(xs:List aN.ty)(hl:xs.length<=8)(strip saw left most:Int):sP (xs,strip,saw,[],[],left,most,())=ae (Mf strip xs):=by
 have loop:∀(k i:Nat),i+k=xs.length->kC xs strip saw [] [] left most xs (xs.length:Int) i=ae (Mf strip (xs.drop i)):=by intro k;induction k with|zero=>intro i hi;(have:¬(i:Int)<(xs.length:Int):=by omega);rw[sQ,Nl (by omega)];simp only[this,aW,ao,aH];rfl|succ k ih=>intro i hi;(have hil:i<xs.length:=by omega);(have hlt:(i:Int)<(xs.length:Int):=by omega);have e0:(xs[i].2.1:Int)=rl xs[i]:=rfl;rw[sQ,drop_cons hil];simp only[hlt,aB,aC,aI,aE,getElem?_lt hil,af,e0,fY (show i<4611686018427387904 by omega),ih (i+1) (by omega),Mf,zy,ax];by_cases hc:rl xs[i]>strip;(·simp[hc]);·simp[hc]
 rw[JK];exact loop xs.length 0 (by omega)
def alG{strip:Int}{xs:List aN.ty}(h:Mf strip xs=aw)(x:aN.ty)(hx:x∈xs):rl x<=strip:=by simp only[Mf,CI,ax]at h;have:=h x hx;omega
def wsP(saw:Int)(xs:List aN.ty):List Int:=xs.map λx=>rl x+saw
def akC(xs:List aN.ty)(strip saw b:Int)(hx:apI xs):∃p m e,KM xs strip saw b=ae (p,m,e)/\(e=0->qe xs=ar/\Vn strip saw=ar/\Mf strip xs=aw/\∃f,p.length=xs.length/\Fi (strip+saw) [] (wsP saw xs) p=ae f/\(f.length:Int)=m/\∀ps f',ps.length=xs.length->Fi (strip+saw) [] (wsP saw xs) ps=ae f'->m<=(f'.length:Int))/\(e≠0->p=[]/\m=0):=by
 rw[Yy,Ph xs hx];simp only[af,akL,bx];cases e1:qe xs;·exact⟨_,_,_,rfl,λh=>by simp at h,λ_=>⟨rfl,rfl⟩⟩
 simp only[aY,ao,aH];cases e2:Vn strip saw;·exact⟨_,_,_,rfl,λh=>by simp at h,λ_=>⟨rfl,rfl⟩⟩
 simp only[aY,ao,aH];cases e3:iF b 1 20000;·exact⟨_,_,_,rfl,λh=>by simp at h,λ_=>⟨rfl,rfl⟩⟩
 obtain⟨hl,hr⟩:=ag9 e1;have hb:=cS.1 e3;have e2':=e2;simp only[Vn,aj]at e2';have hst:=cS.1 e2'.1;have hsa:=cS.1 e2'.2;simp only[aY,ao,aH,Rt,alH xs hl,af];cases e4:Mf strip xs;rotate_left;·exact⟨_,_,_,rfl,λh=>by simp at h,λ_=>⟨rfl,rfl⟩⟩
 have hxs:∀x,x∈xs->1<=rl x/\rl x<=strip:=λx hm=>⟨(hr x hm).1,alG e4 x hm⟩;simp only[ao,aH,Ru];have loop:∀(k m:Nat),m+k=9->∀(left:Int) (A B:List Int),0<=left->left<=20000->(∀ps f',ps.length=xs.length->Fi (strip+saw) [] (wsP saw xs) ps=ae f'->(m:Int)<=(f'.length:Int))-> ∃p q e,wj xs strip saw left m A B=ae (p,q,e)/\(e=0->∃f,p.length=xs.length/\Fi (strip+saw) [] (wsP saw xs) p=ae f/\(f.length:Int)=q/\∀ps f',ps.length=xs.length->Fi (strip+saw) [] (wsP saw xs) ps=ae f'->q<=(f'.length:Int))/\(e≠0->p=[]/\q=0):=by intro k;induction k with|zero=>intro m hm left A B h0 h1 hall;(have:¬(m:Int)<=8:=by omega);rw[Ee];simp only[this,aW,ao,aH];exact⟨_,_,_,rfl,λh=>by simp at h,λ_=>⟨rfl,rfl⟩⟩|succ k ih=>intro m hm left A B h0 h1 hall;(have hle:(m:Int)<=8:=by omega);obtain⟨⟨s1,ok1,w⟩,e,hp⟩:=Ay xs strip saw m hl hst hsa hxs (by omega) xs.length 1000 (by omega) [] [] left (by simp) (by intro x hx;cases hx) (by simp) h0 h1;rw[cy,dV]at hp;rw[Ee];simp only[hle,aB,aC,e,af];(rcases hp with ⟨q1,q2,ps,f,l',q3,q4,q5,q6⟩|⟨q1,q2,⟨l',q3,q4,q5⟩,q6⟩|⟨q1,q2⟩);(·simp only at q1 q2 q6;subst q1;subst q2;subst q6;simp only[aY,ao,aH,aC,dU,aA];(have hpl:ps.length=xs.length:=by rw[q3,aT]);have:=hall ps f hpl q4;exact⟨_,_,_,rfl,λ_=>⟨f,hpl,q4,by omega,hall⟩,λh=>absurd rfl h⟩);(·simp only at q1 q2 q5;subst q1;subst q2;subst q5;simp only[aY,ao,aH];have hw:ag.wrap ((m:Int)+1)=((m+1:Nat):Int):=fY (by omega);rw[hw];exact ih (m+1) (by omega) l' [] [] q3 (by omega) λps f' hpl hrun=>by have:=q6 ps f' (by rw[hpl,aT]) trivial hrun;omega);·simp only at q1 q2;subst q1;subst q2;simp only[fF,aC];exact⟨_,_,_,rfl,λh=>by simp at h,λ_=>⟨rfl,rfl⟩⟩
 obtain⟨p,q,e,f1,f2,f3⟩:=loop 9 0 (by omega) b [] [] (by omega) (by omega) λps f' _ _=>by omega
 exact⟨p,q,e,f1,λh=>⟨trivial,trivial,trivial,f2 h⟩,f3⟩
end Cu
namespace Pl
def nL{xs:List (List Int)}(h:fD xs=ar):(1<=xs.length/\xs.length<=10)/\∃c,(1<=c/\c<=10)/\∀r,r∈xs->r.length=c/\∀x,x∈r->1<=x/\x<=200:=by cases xs with|nil=>cases h|cons r0 t=>simp only[fD,aj,ax,aG,mG,cS]at h;obtain⟨h1,h2,h3⟩:=h;exact⟨⟨by simp,h1⟩,r0.length,h2,λr hr=>⟨(h3 r hr).1,λx hx=>(h3 r hr).2 x hx⟩⟩
def ald{xs:List (List Int)}{c:Nat}(h1:1<=xs.length)(h2:xs.length<=10)(hc:1<=c/\c<=10)(hx:∀r,r∈xs->r.length=c/\∀x,x∈r->1<=x/\x<=200):fD xs=ar:=by cases xs with|nil=>simp at h1|cons r0 t=>have h0:=(hx r0 di).1;simp only[fD,aj,ax,aG,mG,cS];exact⟨h2,by omega,λr hr=>⟨by rw[(hx r hr).1,h0],(hx r hr).2⟩⟩
def aru{b le n:Int}(hb:0<=b/\b<=200)(hl:1<=le/\le<=200)(hn:1<=n/\n<=200):1<=Kv b le n/\Kv b le n<=n/\n-b<=Kv b le n:=by
 unfold Kv;split;·omega
 ·split<;>omega
def MU(b le:Int)(xs:List (List Int)):List (List Int):=xs.map λr=>r.map (Kv b le)
def arv{b le:Int}{xs:List (List Int)}(hb:0<=b/\b<=200)(hl:1<=le/\le<=200)(h:fD xs=ar):fD (MU b le xs)=ar:=by obtain⟨h1,c,hc,hx⟩:=nL h;refine ald (c:=c) (by simp[MU];omega) (by simp[MU];omega) hc λr hr=> ?_;obtain⟨r',hr',rfl⟩:=dK.1 hr;refine⟨by rw[aT];exact(hx r' hr').1,λx hx'=> ?_⟩;obtain⟨y,hy,rfl⟩:=dK.1 hx';have h2:=(hx r' hr').2 y hy;have:=aru hb hl h2;omega
def Sz(xs:List (List Int)):Prop:=xs.length<=1048576/\∀x,x∈xs->x.length<=1048576
def Kf{xs:List (List Int)}(h:fD xs=ar):Sz xs:=by obtain⟨h1,c,hc,hx⟩:=nL h;exact⟨by omega,λr hr=>by rw[(hx r hr).1];omega⟩
def YZ{n b le:Int}(hb:0<=b/\b<=200)(hl:1<=le/\le<=200)(hn:1<=n/\n<=200):Lt n b le=ae (Kv b le n):=by rw[YY,fR (n:=n-b) (by omega) (by omega),Kv];congr 1;split<;>split<;>split<;>omega
def pl3(i k:Nat):ku.ty:=((i:Int),(k:Int),())
def UW(xs:List (List Int))(i k:Nat)(hi:i<xs.length)(hk:k<xs[i].length):AZ (pl3 i k) xs=ae (xs[i][k]):=by rw[Wl];have h1:(0:Int)<=(pl3 i k).1:=aI _;have h2:(0:Int)<=(pl3 i k).2.1:=aI _;have h3:(pl3 i k).1.toNat=i:=aE _;have h4:(pl3 i k).2.1.toNat=k:=aE _;simp only[h1,h2,aB,aC,h3,h4,ay hi,af,ay hk]
def ahp{α β:Type}(f:α->β){l:List α}{k:Nat}(hk:k<l.length):(l.take k).map f++ [f l[k]]=(l.take (k+1)).map f:=by rw[Jg,ay hk,eu];rfl
def A5{α:Type}(l:List α):l.take l.length=l:=aA
def acg{xs:List (List Int)}(h:fD xs=ar){i k:Nat}(hi:i<xs.length)(hk:k<xs[i].length):1<=xs[i][k]/\xs[i][k]<=200:=by obtain⟨_,c,hc,hx⟩:=nL h;exact(hx xs[i] (bc hi)).2 _ (bc hk)
def LJ{xs:List (List Int)}(h:fD xs=ar){i:Nat}(hi:i<xs.length):1<=xs[i].length/\xs[i].length<=10:=by obtain⟨_,c,hc,hx⟩:=nL h;rw[(hx xs[i] (bc hi)).1];exact hc
def DS{xs:List (List Int)}(h:fD xs=ar):1<=xs.length/\xs.length<=10:=(nL h).1
section
variable (xs:List (List Int)) (h:fD xs=ar) (b le:Int) (hb:0<=b/\b<=200) (hl:1<=le/\le<=200)
include h hb hl
def art(i k:Nat)(hi:i<xs.length)(hk:k<xs[i].length):ER ((i:Int),(k:Int),()) xs b le=ae (Kv b le xs[i][k]):=by rw[Ui];have:=UW xs i k hi hk;unfold pl3 at this;rw[this,af,YZ hb hl (acg h hi hk),af]
def abB(i:Nat)(hi:i<xs.length)(r5:List (List Int))(hr5:r5.length<=100):∀(n k:Nat),k+n=xs[i].length->
 iq xs b le i xs xs.length i xs[i].length k r5 ((xs[i].take k).map (Kv b le))=fH xs b le xs xs.length ((i+1:Nat):Int) (r5++ [xs[i].map (Kv b le)])
 |0,k,hk=>by
  have hk':¬(k:Int)<(xs[i].length:Int):=by omega
  have hl1:=DS h
  have hk2:k=xs[i].length:=by omega
  rw[nG]
  have hlim:r5.length+1<lim:=by unfold lim;omega
  simp only[hk',hlim,aW,ao,aH,A5,aB,aC]
  rw[fY (by omega),hk2,A5]
 |n+1,k,hk=>by
  have hk':(k:Int)<(xs[i].length:Int):=by omega
  have hkl:k<xs[i].length:=by omega
  have hrl:=LJ h hi
  have hlim:((xs[i].take k).map (Kv b le)).length+1<lim:=by rw[aT,cQ];unfold lim;omega
  rw[nG]
  simp only[hk',hlim,aB,aC,art xs h b le hb hl i k hi hkl,af,A5]
  rw[fY (by omega),ahp _ hkl]
  exact abB i hi r5 hr5 n (k+1) (by omega)
def abA:∀(n i:Nat),i+n=xs.length->
 fH xs b le xs xs.length i (MU b le (xs.take i))=ae (MU b le xs)
 |0,i,hi=>by
  have hi':¬(i:Int)<(xs.length:Int):=by omega
  have hi2:i=xs.length:=by omega
  rw[nF]
  simp only[hi',aW,ao,aH,A5]
  rw[hi2,A5]
 |n+1,i,hi=>by
  have hi':(i:Int)<(xs.length:Int):=by omega
  have h0:(0:Int)<=(i:Int):=by omega
  have hil:i<xs.length:=by omega
  have hpl:=DS h
  rw[nF]
  simp only[hi',h0,aB,aC,aE,ay hil,af]
  have:=abB xs h b le hb hl i hil (MU b le (xs.take i)) (by simp[MU];omega) xs[i].length 0 (by omega)
  simp only[xf,lT]at this
  refine this.trans ?_
  have e:MU b le (xs.take i)++ [xs[i].map (Kv b le)]=MU b le (xs.take (i+1)):=by exact ahp (λr=>r.map (Kv b le)) hil
  rw[e]
  exact abA n (i+1) (by omega)
def YX:Ls xs b le=ae (MU b le xs):=by rw[YW,Bz];have:=abA xs h b le hb hl xs.length 0 (by omega);simp only[xf,MU,lT]at this;have e:=this;rw[show((0:Nat):Int)=0 from rfl]at e;rw[e];rfl
end
def tq(i:Nat)(n:Nat):List ku.ty:=(dL n).map (pl3 i)
def gpl:Nat->List (List Int)->List ku.ty
 |_,[]=>[]
 |i,r::t=>tq i r.length++gpl (i+1) t
section
variable (xs:List (List Int)) (h:fD xs=ar)
include h
def UY(i:Nat)(hi:i<xs.length)(r3:List ku.ty)(hr3:r3.length<=1000):∀(n k:Nat),k+n=xs[i].length->
 yB i xs xs.length i xs[i].length k (r3++tq i k)=sY xs xs.length ((i+1:Nat):Int) (r3++tq i xs[i].length)
 |0,k,hk=>by
  have hk':¬(k:Int)<(xs[i].length:Int):=by omega
  have hk2:k=xs[i].length:=by omega
  have hl1:=DS h
  rw[Hd]
  simp only[hk',aW,ao,aH]
  rw[fY (by omega),hk2]
 |n+1,k,hk=>by
  have hk':(k:Int)<(xs[i].length:Int):=by omega
  have hrl:=LJ h hi
  have hlen:(r3++tq i k).length=r3.length+k:=by simp[tq]
  have hlim:(r3++tq i k).length+1<lim:=by rw[hlen];unfold lim;omega
  rw[Hd]
  simp only[hk',aB,aC,A5,hlim]
  rw[fY (by omega)]
  have e:r3++tq i k++ [((i:Int),(k:Int),())]=r3++tq i (k+1):=by simp only[tq,asx,eu,dJ];rfl
  refine(congrArg _ e).trans ?_
  exact UY i hi r3 hr3 n (k+1) (by omega)
def UX:∀(n i:Nat) (r3:List ku.ty),i+n=xs.length->r3.length<=10*i->sY xs xs.length i r3=ae (r3++gpl i (xs.drop i))
 |0,i,r3,hi,hr=>by
  have hi':¬(i:Int)<(xs.length:Int):=by omega
  rw[Hc,bb (by omega)]
  simp only[hi',aW,ao,aH,A5,gpl,bS]
 |n+1,i,r3,hi,hr=>by
  have hi':(i:Int)<(xs.length:Int):=by omega
  have h0:(0:Int)<=(i:Int):=by omega
  have hil:i<xs.length:=by omega
  have hpl:=DS h
  have hrl:=LJ h hil
  rw[Hc]
  simp only[hi',h0,aB,aC,aE,ay hil,af]
  have:=UY xs h i hil r3 (by omega) xs[i].length 0 (by omega)
  have e:r3++tq i 0=r3:=by simp[tq]
  rw[e]at this
  refine this.trans ?_
  have hle:(r3++tq i xs[i].length).length<=10*(i+1):=by simp[tq];omega
  rw[UX n (i+1) _ (by omega) hle,bf hil,gpl,dJ]
def abp:Of xs=ae (gpl 0 xs):=by rw[abo];exact(UX xs h xs.length 0 [] (by omega) (by simp)).trans (by simp)
end
def akI(xs:List (List Int)):∀(n i:Nat),i+n=xs.length->(gpl i (xs.drop i)).length=(xs.drop i).flatten.length/\∀(j:Nat) p,(gpl i (xs.drop i))[j]? =ae p->∃a k,∃(ha:a<xs.length) (hk:k<xs[a].length),p=pl3 a k/\(xs.drop i).flatten[j]? =ae xs[a][k]
 |0,i,hi=>by
  rw[bb (by omega)]
  exact⟨rfl,λj p hp=>by simp[gpl]at hp⟩
 |n+1,i,hi=>by
  have hil:i<xs.length:=by omega
  obtain⟨h1,h2⟩:=akI xs n (i+1) (by omega)
  rw[bf hil]
  simp only[gpl,Mt]
  refine⟨by simp[tq,h1],λj p hp=> ?_⟩
  have hrl:(tq i xs[i].length).length=xs[i].length:=by simp[tq]
  rcases bH j xs[i].length with hj|hj
  ·rw[eA (by omega)]at hp
   rw[eA hj]
   refine⟨i,j,hil,hj,?_,ay hj⟩
   simp only[tq,bX,List.getElem?_range hj,az]at hp
   exact(cq hp).symm
  ·rw[dC (by omega),hrl]at hp
   rw[dC hj]
   exact h2 _ p hp
def Sx{xs:List (List Int)}(h:fD xs=ar):xs.flatten.length<=100/\∀y,y∈xs.flatten->1<=y/\y<=200:=by
 obtain⟨h1,c,hc,hx⟩:=nL h;refine⟨?_,λy hy=> ?_⟩
 ·have key:∀t:List (List Int),(∀r,r∈t->r.length<=10)->t.flatten.length<=10*t.length:=by intro t;induction t with|nil=>intro _;simp|cons r t ih=>intro hr;have h1:=hr r di;have h2:=ih λx hx=>hr x (aL _ hx);simp only[Mt,aQ,bh];omega
  have:=key xs λr hr=>by rw[(hx r hr).1];exact hc.2
  omega
 ·obtain⟨r,hr,hy⟩:=List.mem_flatten.1 hy;exact(hx r hr).2 y hy
def QL(l:List Int):Int:=l.sum
def afJ(a:Int)(l:List Int):QL (a::l)=a+QL l:=by simp[QL]
def PK:∀(l:List Int),(∀y,y∈l->1<=y/\y<=200)->0<=QL l/\QL l<=200*(l.length:Int)
 | [],_=>by simp[QL]
 |a::l,h=>by
  have h1:=h a di
  have h2:=PK l λy hy=>h y (aL _ hy)
  rw[afJ,bh];omega
def afi(xs:List (List Int))(c d:Int):Int:=fS (QL xs.flatten*c*d) 10000
def amI{s c d:Int}(hs:0<=s/\s<=20000)(hc:1<=c/\c<=10000)(hd:1<=d/\d<=2000):(0<=s*c/\s*c<=200000000)/\0<=s*c*d/\s*c*d<=400000000000:=by have h1:0<=s*c:=af3 hs.1 (by omega);have h2:s*c<=20000*10000:=avc hs.2 hc.2 (by omega) (by omega);have h3:0<=s*c*d:=af3 h1 (by omega);have h4:s*c*d<=200000000*2000:=avc (by omega) hd.2 (by omega) (by omega);omega
section
variable (xs:List (List Int)) (h:fD xs=ar) (c d:Int) (hc:1<=c/\c<=10000) (hd:1<=d/\d<=2000)
include h hc hd
def MP:∀(n j:Nat) (a:Int),j+n=(gpl 0 xs).length->0<=a->a+QL (xs.flatten.drop j)=QL xs.flatten->
 rU xs c d a (gpl 0 xs) (gpl 0 xs).length j=ae (afi xs c d)
 |0,j,a,hj,ha,hs=>by
  have hj':¬(j:Int)<((gpl 0 xs).length:Int):=by omega
  obtain⟨hlen,_⟩:=akI xs xs.length 0 (by omega)
  rw[dV]at hlen
  rw[bb (by omega)]at hs
  have hs:a=QL xs.flatten:=by simpa[QL]using hs
  obtain⟨f1,f2⟩:=Sx h
  have f3:=PK _ f2
  have f4:=amI (s:=QL xs.flatten) (by omega) hc hd
  rw[BA]
  simp only[hj',aW,ao,aH]
  rw[hs,fR (n:=QL xs.flatten*c) (by omega) (by omega),fR (n:=QL xs.flatten*c*d) (by omega) (by omega),jH _ _ (by omega) (by omega)]
  rfl
 |n+1,j,a,hj,ha,hs=>by
  have hj':(j:Int)<((gpl 0 xs).length:Int):=by omega
  have h0:(0:Int)<=(j:Int):=by omega
  have hjl:j<(gpl 0 xs).length:=by omega
  obtain⟨hlen,hat⟩:=akI xs xs.length 0 (by omega)
  rw[dV]at hlen hat
  obtain⟨i,k,hi,hk,hp,hy⟩:=hat j _ (ay hjl)
  obtain⟨f1,f2⟩:=Sx h
  have hjf:j<xs.flatten.length:=by omega
  have hyv:xs.flatten[j]=xs[i][k]:=by rw[ay hjf]at hy;exact cq hy
  have hcell:=acg h hi hk
  have f5:=PK (xs.flatten.drop j) λy hy=>f2 y (cA hy)
  have f6:=PK _ f2
  rw[bf hjf,afJ,hyv]at hs
  have f7:=PK (xs.flatten.drop (j+1)) λy hy=>f2 y (cA hy)
  rw[BA]
  simp only[hj',h0,aB,aC,aE,ay hjl,af,hp,UW xs i k hi hk]
  rw[fR (n:=a+xs[i][k]) (by omega) (by omega),fY (by omega)]
  exact MP n (j+1) (a+xs[i][k]) (by omega) (by omega) (by omega)
def Ug:EN xs c d=ae (afi xs c d):=by rw[Uf,abp xs h,af];exact MP xs h c d hc hd (gpl 0 xs).length 0 0 (c8 _) (dH _) (by simp)
end
def NZ(c d:Int):NY c d=ae (iF c 1 10000&&iF d 1 2000):=by rw[abd];simp only[bx,af];cases iF c 1 10000<;>rfl
def MH(c:Int):K8 c=ae (iF c 1 200):=by rw[YL];simp only[bx,af]
def KY(c:Int):Wh c=ae (iF c 0 200):=by rw[agx];simp only[bx,af]
def YI(xs:List (List Int))(h:fD xs=ar)(b le:Int)(hb:0<=b/\b<=200)(hl:1<=le/\le<=200):Db xs b le=ae (MU b le xs,0):=by have hz:=Kf h;rw[Cg,fN xs hz.1 hz.2,af,h];simp only[aY,ao,aH,KY,MH,af,cS.2 hb,cS.2 hl];rw[RO,YX xs h b le hb hl,af]
def TX(xs:List (List Int))(h:fD xs=ar)(c d:Int)(hc:1<=c/\c<=10000)(hd:1<=d/\d<=2000):yc xs c d=ae (afi xs c d,0):=by have hz:=Kf h;rw[GM,fN xs hz.1 hz.2,af,h];simp only[aY,ao,aH,NZ,af,cS.2 hc,cS.2 hd,bM,Ug xs h c d hc hd]
section
variable (xs:List (List Int)) (h:fD xs=ar)
include h
def aob{i:Nat}(hi:i<xs.length):∀y,y∈xs[i]->1<=y/\y<=200:=by obtain⟨_,c,hc,hx⟩:=nL h;exact(hx xs[i] (bc hi)).2
end
def Sw(xs:List (List Int)):List UInt8:=mZ (xs.map BE) [47]
section
variable (xs:List (List Int)) (h:fD xs=ar)
include h
def afu{i:Nat}(hi:i<xs.length):xs[i]≠ []/\xs[i].length<=64/\∀x,x∈xs[i]-> -1000000000000<=x/\x<=1000000000000:=by have h1:=LJ h hi;have h2:=aob xs h hi;refine⟨λe=>by rw[e]at h1;simp at h1,by omega,λx hx=>by have:=h2 x hx;omega⟩
def ac9:∀(n i:Nat),i+n=xs.length->rM xs xs.length i ((xs.take i).map BE)=ae (Sw xs)
 |0,i,hi=>by
  have hi':¬(i:Int)<(xs.length:Int):=by omega
  have hi2:i=xs.length:=by omega
  have hpl:=DS h
  have hj:(mZ (xs.map BE) [47]).length<=(1024+1)*(xs.map BE).length:=abv (xs.map BE) λx hx=>by obtain⟨r,hr,rfl⟩:=dK.1 hx;obtain⟨k,hk,rfl⟩:=List.getElem_of_mem hr;have:=afu xs h hk;exact PB _ this.2.1 this.2.2
  rw[aT]at hj
  have hj1:(xs.map BE).length<=140737488355328:=by rw[aT];omega
  have hj2:(mZ (xs.map BE) [47]).length<=140737488355328:=by omega
  rw[Bl]
  simp only[hi',aW,ao,aH,A5]
  rw[hi2,A5,CC]
  simp only[hj1,hj2,aB,bM,aC,af]
  rfl
 |n+1,i,hi=>by
  have hi':(i:Int)<(xs.length:Int):=by omega
  have h0:(0:Int)<=(i:Int):=by omega
  have hil:i<xs.length:=by omega
  have hpl:=DS h
  have hr:=afu xs h hil
  have hlim:((xs.take i).map BE).length+1<lim:=by rw[aT,cQ];unfold lim;omega
  rw[Bl]
  simp only[hi',h0,aB,aC,aE,ay hil,af,JC _ hr.1 hr.2.1 hr.2.2,hlim,A5]
  rw[fY (by omega),ahp BE hil]
  exact ac9 n (i+1) (by omega)
def TY:sE xs=ae (Sw xs):=by have hz:=Kf h;rw[GN,fN xs hz.1 hz.2,af,h];simp only[aY,ao,aH];exact ac9 xs h xs.length 0 (by omega)
end
end Pl
namespace Gl
def TB(x:bO.ty):Int:=(x.2.1:Int)+x.2.2.1
def arn(x:bO.ty):Int:=DT x.2.1 x.2.2.1 x.2.2.2.1 x.2.2.2.2.1
def cnt(ps:List bO.ty)(k:Nat):Int:=((ps[k]?).map TB).getD 0
def str(ps:List bO.ty)(k:Nat):Int:=((ps[k]?).map arn).getD 0
def akA{ps:List bO.ty}{k:Nat}(h:k<ps.length):cnt ps k=TB ps[k]:=by simp[cnt,h]
def avW{ps:List bO.ty}{k:Nat}(h:k<ps.length):str ps k=arn ps[k]:=by simp[str,h]
def PG{x:bO.ty}(h:Aw x=ar):(2<=TB x/\TB x<=20000)/\0<=arn x/\arn x<=10000001:=by have h1:=PF.1 h;have h2:=Rc (heat:=x.2.2.2.1) (hours:=x.2.2.2.2.1) h1.2.1 ⟨h1.2.2.1.1,pc h1.2.2.1.2 (by decide)⟩ h1.2.2.2.1 ⟨h1.2.2.2.2.1,pc h1.2.2.2.2.2 (by decide)⟩;refine⟨?_,h2.2.2⟩;unfold TB;omega
def ajJ{x:bO.ty}(h:Aw x=ar):ky x=ae (arn x):=by have h1:=PF.1 h;exact NO x.1 x.2.1 x.2.2.1 x.2.2.2.1 x.2.2.2.2.1 (by omega) (by omega) (by omega) (by omega)
def PY:List Int->List Int->Nat->Int
 |n::ns,j::g,k=>(if j=(k:Int)then n else 0)+PY ns g k
 |_,_,_=>0
def af9(j:Int)(k:Nat):∀(ns g:List Int),g.length<ns.length->PY ns (g++ [j]) k=PY ns g k+if j=(k:Int)then(ns[g.length]?).getD 0 else 0
 | [],g,h=>by simp at h
 |n::ns,[],h=>by
  simp only[dU,PY,cy,bg,eJ]
  cases ns<;>simp[PY]
 |n::ns,x::g,h=>by
  simp only[sn,PY,bh,ct,af9 j k ns g (by simpa using h)]
  omega
def aaA(k:Nat):∀(ns g t:List Int),(∀n,n∈ns->0<=n)->PY ns g k<=PY ns (g++t) k
 | [],g,t,h=>by cases g<;>cases t<;>simp[PY]
 |n::ns,[],t,h=>by
  simp only[dU]
  have:∀(ns t:List Int),(∀n,n∈ns->0<=n)->0<=PY ns t k:=by intro ns;induction ns with|nil=>intro t _;simp[PY]|cons n ns ih=>intro t h;cases t with|nil=>simp[PY]|cons y t=>have h1:=ih t λm hm=>h m (aL _ hm);have h2:=h n (by simp);simp only[PY];split<;>omega
  exact this (n::ns) t h
 |n::ns,x::g,t,h=>by
  have:=aaA k ns g t λm hm=>h m (aL _ hm)
  simp only[sn,PY]
  omega
def sc(ps:List bO.ty):List Int->Int
 | []=>0
 |j::g=>str ps j.toNat+sc ps g
def alr(ps:List bO.ty)(j:Int):∀g,sc ps (g++ [j])=sc ps g+str ps j.toNat
 | []=>by simp[sc]
 |x::g=>by simp only[sn,sc,alr ps j g];omega
def auM{ps:List bO.ty}(h:∀k,0<=str ps k/\str ps k<=10000001):∀g,0<=sc ps g/\sc ps g<=10000001*g.length
 | []=>by simp[sc]
 |x::g=>by
  have h1:=auM h g
  have h2:=h x.toNat
  simp only[sc,bh]
  omega
def Fit(ps:List bO.ty)(ns g:List Int):Prop:=g.length=ns.length/\(∀x∈g,0<=x/\x<(ps.length:Int))/\∀k,k<ps.length->PY ns g k<=cnt ps k
def at7(ps:List bO.ty)(ns rest:List Int)(given:List Int)(left most:Int)(found:Bool)(Q:List Int->Prop)(r:Bool×gV.ty):Prop:=
 ∃(mW:Int) (best':List Int) (most':Int) (found':Bool),r.2=(ps,ns,rest,mW,given,sc ps given,best',most',found',())/\0<=mW/\mW<=left/\(found'=ar->Fit ps ns best'/\most'=sc ps best')/\
  (found=ar->found'=ar/\most<=most')/\(r.1=ar->∀g,Fit ps ns g->Q g->found'=ar/\sc ps g<=most')
structure auW(ps:List bO.ty)(ns rest given:List Int)(left:Int)(best:List Int)(most:Int)(found:Bool):Prop where
 ul:rest.length=ps.length
 us:∀k,k<ps.length->rest[k]? =ae (cnt ps k-PY ns given k)
 ok:∀k,k<ps.length->PY ns given k<=cnt ps k
 rg:∀x∈given,0<=x/\x<(ps.length:Int)
 l0:0<=left
 l1:left<=20000
 bo:found=ar->Fit ps ns best/\most=sc ps best
def Ay(ps:List bO.ty)(ns:List Int)(hpl:ps.length<=8)(hnl:ns.length<=10)(hp:∀x,x∈ps->Aw x=ar)(hn:∀n,n∈ns->1<=n/\n<=10000):∀(d n:Nat),d<n->∀(rest given:List Int) (left:Int) (best:List Int) (most:Int) (found:Bool),
 auW ps ns rest given left best most found->given.length+d=ns.length->∃r,mo n (ps,ns,rest,left,given,sc ps given,best,most,found,())=ae r/\at7 ps ns rest given left most found (λg=>given<+:g) r
 |0,n+1,_,rest,given,left,best,most,found,hi,hd=>by
  have hgl:((given.length:Int)==(ns.length:Int))=ar:=by simp;omega
  have hc:=Bt given (by omega)
  rw[zO]
  simp only[hgl,aC,Ip,aA,hc,af]
  have fin:∀g,Fit ps ns g->given<+:g->g=given:=λg hg hp=>(hp.eq_of_length (by rw[hg.1];omega)).symm
  have hcg:Fit ps ns given:=⟨by omega,hi.rg,hi.ok⟩
  cases found with
  |false=>
   simp only[fF,aC]
   exact⟨_,rfl,left,given,_,ar,rfl,hi.l0,dH _,λ_=>⟨hcg,rfl⟩,λh=>(by cases h),λ_ g hg hp=>⟨rfl,by rw[fin g hg hp];exact dH _⟩⟩
  |true=>
   simp only[aY,ao,aH,ax]
   by_cases hlt:sc ps given>most
   ·simp only[hlt,aC]
    exact⟨_,rfl,left,given,_,ar,rfl,hi.l0,dH _,λ_=>⟨hcg,rfl⟩,λh=>⟨rfl,Int.le_of_lt hlt⟩,λ_ g hg hp=>⟨rfl,by rw[fin g hg hp];exact dH _⟩⟩
   ·simp only[hlt,aH]
    exact⟨_,rfl,left,best,most,ar,rfl,hi.l0,dH _,hi.bo,λh=>⟨rfl,dH _⟩,λ_ g hg hp=>⟨rfl,by rw[fin g hg hp];omega⟩⟩
 |d+1,n+1,hdn,rest,given,left,best,most,found,hi,hd=>by
  have hgl:((given.length:Int)==(ns.length:Int))=aw:=by simp;omega
  have hga:given.length<ns.length:=by omega
  have hstr:∀k,0<=str ps k/\str ps k<=10000001:=λk=>by unfold str;cases e:ps[k]? with|none=>simp|some x=>exact(PG (hp x (bw e))).2
  have hs0:=auM hstr given
  have hn0:=hn ns[given.length] (bc hga)
  have loop:∀(k j:Nat),j+k=ps.length->∀(G:List Int),G.take given.length=given->∀(left:Int) (best:List Int) (most:Int) (found:Bool),auW ps ns rest given left best most found->
   ∃r,jB n (given.length:Int) ps (ps.length:Int) (j:Int) ps ns rest.length left given.length (sc ps given) most found rest G best=ae r/\
    at7 ps ns rest given left most found (λg=>given<+:g/\∃x,g[given.length]? =ae x/\(j:Int)<=x) r:=by
   intro k
   induction k with
   |zero=>
    intro j hj G hG left best most found hi
    have hn:¬(j:Int)<(ps.length:Int):=by omega
    rw[vO]
    simp only[hn,aW,ao,aH,aA,hG]
    refine⟨_,rfl,left,best,most,found,rfl,hi.l0,dH _,hi.bo,λh=>⟨h,dH _⟩,λ_ g hg ⟨_,x,hx,hjx⟩=> ?_⟩
    have:=hg.2.1 x (bw hx)
    omega
   |succ k ih=>
    intro j hj G hG left best most found hi
    have hjb:j<ps.length:=by omega
    have hlt:(j:Int)<(ps.length:Int):=by omega
    have hju:(j:Int)<(rest.length:Int):=by rw[hi.ul];omega
    have hw:ag.wrap ((j:Int)+1)=((j+1:Nat):Int):=fY (by omega)
    have huj:=hi.us j hjb
    have hoj:=hi.ok j hjb
    have hpj:=hp ps[j] (bc hjb)
    have hcj:=(PG hpj).1
    rw[<-akA hjb]at hcj
    have ham:0<=PY ns given j:=by(have:=aaA j ns [] given λn hm=>by have:=hn n hm;omega);(have h0:PY ns [] j=0:=by cases ns<;>rfl);rw[h0]at this;simpa using this
    have hgj:(ns[given.length]?).getD 0=ns[given.length]:=by rw[getElem?_lt hga];rfl
    rw[vO]
    simp only[hlt,aB,aC,aI,aE,getElem?_lt hjb,af,hju,bM,huj,hw,getElem?_lt hga,ax]
    by_cases hm:cnt ps j-PY ns given j<ns[given.length]
    ·simp only[hm,aC]
     obtain⟨r,e,l',b',s',f',h1,h2,h3,h4,h5,h6⟩:=ih (j+1) (by omega) G hG left best most found hi
     refine⟨r,e,l',b',s',f',h1,h2,h3,h4,h5,λho g hg ⟨hpr,x,hx,hjx⟩=>h6 ho g hg ⟨hpr,x,hx,?_⟩⟩
     by_cases he:x=(j:Int)
     ·exfalso
      subst he
      obtain⟨t,rfl⟩:=hpr
      have ht:t[0]? =ae (j:Int):=by rw[dC (by omega),ahT]at hx;exact hx
      obtain⟨y,t',rfl⟩:∃y t',t=y::t':=by cases t with|nil=>simp at ht|cons y t'=>exact⟨y,t',rfl⟩
      simp at ht
      subst ht
      have h7:=hg.2.2 j hjb
      have h8:=aaA j ns (given++ [(j:Int)]) t' λn hm=>by have:=hn n hm;omega
      rw[af9 (j:Int) j ns given hga,aJ rfl,hgj]at h8
      rw[show given++(j:Int)::t'=given++ [(j:Int)]++t' by simp]at h7
      omega
     ·omega
    ·simp only[hm,aH]
     by_cases hz:left=0
     ·simp only[hz,lU,aC,aA,hG]
      exact⟨_,rfl,0,best,most,found,rfl,dH _,dH _,hi.bo,λh=>⟨h,dH _⟩,λh=>by cases h⟩
     ·have hz':(left==0)=aw:=by simpa using hz
      have hd1:=hstr j
      have hlim:given.length+1<lim:=by rw[lM];omega
      have hsj:ky ps[j]=ae (str ps j):=by rw[ajJ hpj,avW hjb]
      have hsum:ag.wrap (sc ps given+str ps j)=sc ps (given++ [(j:Int)]):=by rw[alr,aE,fR (by omega) (by omega)]
      have hl0:=hi.l0
      have hl1:=hi.l1
      have hamt:∀k,k<ps.length->PY ns (given++ [(j:Int)]) k=PY ns given k+if k=j then ns[given.length]else 0:=λk hk=>by rw[af9 (j:Int) k ns given hga,hgj];congr 1;by_cases hkj:k=j;(·subst hkj;rw[aJ rfl,aJ rfl]);·rw[aO hkj,aO (by omega)]
      have hwr:ag.wrap (cnt ps j-PY ns given j-ns[given.length])=cnt ps j-PY ns (given++ [(j:Int)]) j:=by rw[hamt j hjb,aJ rfl,fR (by omega) (by omega)];omega
      simp only[hz',ao,aH,af,hlim,aB,aC,hG,hsj,hsum,hwr,aA,fR (n:=left-1) (by omega) (by omega),
       show(rest.set j (cnt ps j-PY ns (given++ [(j:Int)]) j)).take rest.length=rest.set j (cnt ps j-PY ns (given++ [(j:Int)]) j)from dO (by simp)]
      have hi':auW ps ns (rest.set j (cnt ps j-PY ns (given++ [(j:Int)]) j)) (given++ [(j:Int)]) (left-1) best most found:=by refine⟨by simp[hi.ul],λk hk=> ?_,λk hk=> ?_,λx hx=> ?_,by omega,by omega,hi.bo⟩;(·by_cases hkj:k=j;(·subst hkj;rw[PV (by rw[hi.ul];exact hk)]);·rw[Tq (by omega),hi.us k hk,hamt k hk,aO hkj,Int.add_zero]);(·rw[hamt k hk];by_cases hkj:k=j;(·subst hkj;rw[aJ rfl];omega);·rw[aO hkj];have:=hi.ok k hk;omega);·(rcases aU.1 hx with hx|hx);(·exact hi.rg x hx);·simp at hx;omega
      obtain⟨⟨ok,w⟩,e,l',b',s',f',h1,h2,h3,h4,h5,h6⟩:=Ay ps ns hpl hnl hp hn d n (by omega) (rest.set j (cnt ps j-PY ns (given++ [(j:Int)]) j)) (given++ [(j:Int)]) (left-1) best most found hi' (by simp;omega)
      simp only at h1
      subst h1
      have hback:ag.wrap (sc ps (given++ [(j:Int)])-str ps j)=sc ps given:=by rw[alr,aE,fR (by omega) (by omega)];omega
      have hset:(rest.set j (cnt ps j-PY ns (given++ [(j:Int)]) j)).set j (ag.wrap (cnt ps j-PY ns (given++ [(j:Int)]) j+ns[given.length]))=rest:=by rw[hamt j hjb,aJ rfl,fR (by omega) (by omega),awZ];refine List.ext_getElem? λi=> ?_;by_cases hij:i=j;(·subst hij;rw[PV (by rw[hi.ul];exact hjb),huj];congr 1;omega);·rw[Tq (by omega)]
      have c1:(given.length:Int)<=((given++ [(j:Int)]).length:Int):=by simp;omega
      have c3:(rest.set j (cnt ps j-PY ns (given++ [(j:Int)]) j))[j]? =ae (cnt ps j-PY ns (given++ [(j:Int)]) j):=PV (by rw[hi.ul];exact hjb)
      have c4:(given++ [(j:Int)]).take given.length=given:=by simp
      simp only[e,af,c1,c3,c4,hju,hsj,getElem?_lt hga,aB,bM,aC,hset,hback,List.length_set,aA]
      cases ok with
      |false=>
       simp only[fF,aC]
       exact⟨_,rfl,l',b',s',f',rfl,h2,by omega,h4,h5,λh=>by cases h⟩
      |true=>
       simp only[aY,ao,aH]
       obtain⟨r,e2,l2,b2,s2,f2,k1,k2,k3,k4,k5,k6⟩:=ih (j+1) (by omega) (given++ [(j:Int)]) c4 l' b' s' f' ⟨hi.ul,hi.us,hi.ok,hi.rg,h2,by omega,h4⟩
       refine⟨r,e2,l2,b2,s2,f2,k1,k2,by omega,k4,λh=> ?_,λho g hg ⟨hpr,x,hx,hjx⟩=> ?_⟩
       ·obtain⟨q1,q2⟩:=h5 h
        obtain⟨q3,q4⟩:=k5 q1
        exact⟨q3,by omega⟩
       ·by_cases he:x=(j:Int)
        ·subst he
         obtain⟨t,rfl⟩:=hpr
         have ht:t[0]? =ae (j:Int):=by rw[dC (by omega),ahT]at hx;exact hx
         obtain⟨y,t',rfl⟩:∃y t',t=y::t':=by cases t with|nil=>simp at ht|cons y t'=>exact⟨y,t',rfl⟩
         simp at ht
         subst ht
         obtain⟨q1,q2⟩:=h6 rfl _ hg ⟨t',by simp⟩
         obtain⟨q3,q4⟩:=k5 q1
         exact⟨q3,by omega⟩
        ·exact k6 ho g hg ⟨hpr,x,hx,by omega⟩
  rw[zO]
  simp only[hgl,ao,aH]
  obtain⟨r,e,l',b',s',f',h1,h2,h3,h4,h5,h6⟩:=loop ps.length 0 (by omega) given (by simp) left best most found hi
  refine⟨r,e,l',b',s',f',h1,h2,h3,h4,h5,λho g hg hpr=>h6 ho g hg ⟨hpr,?_⟩⟩
  obtain⟨t,rfl⟩:=hpr
  have hl:=hg.1
  have hlt:given.length<(given++t).length:=by rw[hl];omega
  refine⟨_,ay hlt,?_⟩
  exact(hg.2.1 _ (bc hlt)).1
def agK(n:Int):Bool:=iF n 1 10000
def PD(ns:List Int):Bool:=ns.all agK&&ah ((ns.length:Int)<=10)
def ah2(ns:List Int)(h:ns.length<=1048576):Ih ns=ae (PD ns):=by
 rw[V7]
 have e:=Z8 ns yz agK (λi=>lW ns ns (ns.length:Int) i) aw (ae (ah ((ns.length:Int)<=10))) (λi=>by
  show lW ns ns (ns.length:Int) i=_
  rw[Qn]
  simp only[fG,af]) (by omega) (λx _=>by rw[MG,bx];rfl) ns.length 0 (by omega)
 have e:lW ns ns (ns.length:Int) 0=if((ns.drop 0).all agK)=ar then ae (ah ((ns.length:Int)<=10))else ae aw:=e
 rw[e,dV,PD];cases ns.all agK<;>rfl
def ah8(ps:List bO.ty)(hl:ps.length<=8)(hp:∀x,x∈ps->Aw x=ar):Il ps=ae (ps.map TB):=by
 have loop:∀(k i:Nat),i+k=ps.length->um ps (ps.length:Int) i ((ps.take i).map TB)=ae (ps.map TB):=by intro k;induction k with|zero=>intro i hi;(have:¬(i:Int)<(ps.length:Int):=by omega);rw[CV,dO (by omega)];simp only[this,aW,ao,aH,aA]|succ k ih=>intro i hi;(have hil:i<ps.length:=by omega);(have hlt:(i:Int)<(ps.length:Int):=by omega);have hc:=(PG (hp ps[i] (bc hil))).1;(have hlim:((ps.take i).map TB).length+1<lim:=by rw[lM,aT,cQ];omega);have ih:=ih (i+1) (by omega);rw[aaw hil,eu]at ih;have hw:ag.wrap (ps[i].2.1+ps[i].2.2.1)=TB ps[i]:=fR (n:=TB ps[i]) (by omega) (by omega);rw[CV];simp only[hlt,aB,aC,aI,aE,getElem?_lt hil,af,hlim,hw,aA,fY (show i<4611686018427387904 by omega)];exact ih
 rw[Wa];exact loop ps.length 0 (by omega)
def apE(x:bO.ty):Prop:=x.1.length<=100
def apF(xs:List bO.ty):Prop:=xs.length<=100/\∀x,x∈xs->apE x
def Ph(xs:List bO.ty)(h:apF xs):sJ xs=ae (nX xs):=
 GU xs (by have:=h.1;omega) λx hx=>by have:=h.2 x hx;unfold apE at this;omega
def alf{xs:List bO.ty}(h:nX xs=ar):xs.length<=8:=by simp only[nX,aj,ax]at h;omega
def aiN{ns:List Int}(h:PD ns=ar):ns.length<=10/\∀n,n∈ns->1<=n/\n<=10000:=by simp only[PD,aj,ax,aG]at h;exact⟨by omega,λn hn=>cS.1 (h.1 n hn)⟩
def asT(ps:List bO.ty)(ns:List Int)(b:Int)(hps:apF ps)(hns:ns.length<=100):∃g s e,B8 ps ns b=ae (g,s,e)/\(e=0->nX ps=ar/\PD ns=ar/\Fit ps ns g/\s=sc ps g/\∀g',Fit ps ns g'->sc ps g'<=s)/\(e≠0->g=[]/\s=0):=by
 rw[RD,Ph ps hps,ah2 ns (by omega)];simp only[af,bx];cases e1:nX ps;·exact⟨_,_,_,rfl,λh=>by simp at h,λ_=>⟨rfl,rfl⟩⟩
 simp only[aY,ao,aH];cases e2:PD ns;·exact⟨_,_,_,rfl,λh=>by simp at h,λ_=>⟨rfl,rfl⟩⟩
 simp only[aY,ao,aH];cases e3:iF b 1 20000;·exact⟨_,_,_,rfl,λh=>by simp at h,λ_=>⟨rfl,rfl⟩⟩
 have hb:=cS.1 e3;have hpl:=alf e1;have hpo:=LL e1;obtain⟨hnl,hno⟩:=aiN e2;simp only[aY,ao,aH,MY,ah8 ps hpl hpo,af,aA];have a0:∀k,PY ns [] k=0:=λk=>by cases ns<;>rfl
 obtain⟨⟨ok,w⟩,e,l',b',s',f',h1,h2,h3,h4,h5,h6⟩:=Ay ps ns hpl hnl hpo hno ns.length 1000 (by omega) (ps.map TB) [] b [] 0 aw
  ⟨by simp,λk hk=>by rw[bX,getElem?_lt hk,a0,akA hk];simp,λk hk=>by
    have:=(PG (hpo ps[k] (bc hk))).1
    rw[a0,akA hk];omega,by simp,by omega,by omega,λh=>by cases h⟩ (by simp)
 simp only at h1;subst h1;have e':mo 1000 (ps,ns,ps.map TB,b,[],0,[],0,aw,())=ae (ok,ps,ns,ps.map TB,l',[],sc ps [],b',s',f',()):=e;simp only[e',af,aA];cases ok;·exact⟨_,_,_,rfl,λh=>by simp at h,λ_=>⟨rfl,rfl⟩⟩
 ·simp only[aY,ao,aH];cases f';·exact⟨_,_,_,rfl,λh=>by simp at h,λ_=>⟨rfl,rfl⟩⟩
  ·obtain⟨q1,q2⟩:=h4 rfl;simp only[aY,ao,aH];exact⟨_,_,_,rfl,λ_=>⟨trivial,trivial,q1,q2,λg' hg=>(h6 rfl g' hg (by simp)).2⟩,λh=>absurd rfl h⟩
end Gl
namespace Wo
def tn(xs:List aN.ty)(j:Nat):Int:=((xs[j]?).map λx=>(x.2.1:Int)).getD 0
def auP{xs:List aN.ty}{j:Nat}(h:j<xs.length):(xs[j].2.1:Int)=tn xs j:=by simp[tn,h]
def akn(x:aN.ty):Prop:=x.1.length<=100
def amc(xs:List aN.ty):Prop:=xs.length<=100/\∀x,x∈xs->akn x
def Ph(xs:List aN.ty)(h:amc xs):qt xs=ae (jz xs):=
 EE xs (by have:=h.1;omega) λx hx=>by have:=h.2 x hx;unfold akn at this;omega
def adU{xs:List aN.ty}(h:jz xs=ar):xs.length<=10/\∀i,0<=tn xs i/\tn xs i<=100000:=by have h1:=Ho h;simp only[jz,aj,ax]at h;refine⟨by omega,λi=> ?_⟩;unfold tn;cases e:xs[i]? with|none=>simp|some x=>have h2:=h1 x (bw e);simp only[wZ,aj]at h2;have h3:=cS.1 h2.2.1;simp only[az,eJ];omega
def akV{xs:List aN.ty}(h:jz xs=ar){i:Nat}(hi:i<xs.length):1000<=tn xs i/\tn xs i<=100000:=by have h2:=Ho h xs[i] (bc hi);simp only[wZ,aj]at h2;have h3:=cS.1 h2.2.1;rw[<-auP hi];exact h3
def aiM(xs:List aN.ty)(w:Int)(k:Nat):Bool:=xs.any λx=>ah (MW (nt k-x.2.1)<=w)
def ahE(xs:List aN.ty)(hv:jz xs=ar)(w:Int)(k:Nat)(hk:k<=60)(r:List Int)(hr:r.length<=60)(v18:Int):∀(m i:Nat) (b:Bool),i+m=xs.length->
 nD xs w k b v18 xs (xs.length:Int) i r=if(b||(xs.drop i).any λx=>ah (MW (nt k-x.2.1)<=w))=ar then jh xs w (ag.wrap (v18+1)) (r++ [(k:Int)])else jh xs w (ag.wrap (v18+1)) r
 |0,i,b,hi=>by
  have:¬(i:Int)<(xs.length:Int):=by omega
  have hlim:r.length+1<lim:=by rw[lM];omega
  rw[Bo,Nl (by omega)]
  simp only[this,aW,ao,aH,List.any_nil,Bool.or_false,hlim,aB,aC,aA]
 |m+1,i,b,hi=>by
  have hil:i<xs.length:=by omega
  have h10:=(adU hv).1
  have hlt:(i:Int)<(xs.length:Int):=by omega
  have hw:ag.wrap ((i:Int)+1)=((i+1:Nat):Int):=fY (by omega)
  have hb:=akV hv hil
  have hn:=amN k hk
  rw[Bo,drop_cons hil]
  simp only[hlt,aB,aC,aI,aE,getElem?_lt hil,af,hw,zy,auP hil,ur k hk,Al (nt k) (tn xs i) (by omega) (by omega)]
  cases b
  ·simp only[ao,aH,XM]
   rw[ahE xs hv w k hk r hr v18 m (i+1) _ (by omega)]
  ·simp only[aC,aar]
   rw[ahE xs hv w k hk r hr v18 m (i+1) _ (by omega)]
   simp only[aar,aC]
def anf(xs:List aN.ty)(hv:jz xs=ar)(w:Int):∀(m k:Nat),k+m=61->jh xs w k (idx (aiM xs w) k)=ae (idx (aiM xs w) 61,0)
 |0,k,hk=>by
  obtain rfl:k=61:=by omega
  rw[Bn]
  simp
 |m+1,k,hk=>by
  have hlt:(k:Int)<61:=by omega
  have hl:=aab (aiM xs w) k
  have hw:ag.wrap ((k:Int)+1)=((k+1:Nat):Int):=fY (by omega)
  have e:=ahE xs hv w k (by omega) (idx (aiM xs w) k) (by omega) k xs.length 0 aw (by omega)
  rw[show((0:Nat):Int)=0 from rfl,dV,XM]at e
  rw[Bn]
  simp only[hlt,aB,aC]
  rw[e,hw]
  have hn:(xs.any λx=>ah (MW (nt k-x.2.1)<=w))=aiM xs w k:=rfl
  have ih:=anf xs hv w m (k+1) (by omega)
  rw[ais]at ih
  rw[hn]
  cases hb:aiM xs w k
  ·rw[hb]at ih
   simp only[ao,aH,bS]at ih⊢
   exact ih
  ·rw[hb]at ih
   simp only[aC]at ih⊢
   exact ih
def at5(xs:List aN.ty)(w:Int)(h:amc xs):∃ks e,EH xs w=ae (ks,e)/\(e=0->jz xs=ar/\ks=idx (aiM xs w) 61)/\(e≠0->ks=[]):=by
 rw[Ua,Ph xs h];simp only[af];cases e1:jz xs;·exact⟨_,_,rfl,λh=>by simp at h,λ_=>rfl⟩
 simp only[aY,ao,aH,bx,af];cases e2:iF w 0 1000;·exact⟨_,_,rfl,λh=>by simp at h,λ_=>rfl⟩
 simp only[aY,ao,aH];have:=anf xs e1 w 61 0 (by omega);exact⟨_,_,this,λ_=>⟨trivial,rfl⟩,λh=>absurd rfl h⟩
end Wo
namespace Re
def afj{s:List UInt8}(h:eK s=ar):(s.all λch=>iF (ch.toNat:Int) 33 126)=ar/\s.length<=10:=by cases s with|nil=>cases h|cons c r=>simp only[eK,aj,ax]at h;refine⟨?_,h.2⟩;rw[de,aj];(have one:∀x:UInt8,(small x||digit x)=ar->iF (x.toNat:Int) 33 126=ar:=λx hx=>by rw[cS];simp only[small,digit,cj,aj,ax]at hx;omega);refine⟨one c (by rw[h.1.1];rfl),aG.2 λx hx=>one x (aG.1 h.1.2 x hx)⟩
def an1(n:Int):((bG n).all λch=>iF (ch.toNat:Int) 33 126)=ar:=by
 refine aG.2 λx hx=> ?_;rw[cS];rcases aiv n x hx with rfl|h
 ·decide
 ·omega
def ZG(x:aK.ty):List (List UInt8):=[x.1,x.2.1,(bG x.2.2.1++ [45])++bG x.2.2.2.1,bG x.2.2.2.2.1]
def Gx:List (List UInt8):=[[112,97,112,101,114],[109,97,107,101,114],[121,101,97,114,115],[116,114,117,115,116]]
def afq{x:aK.ty}(h:iV x=ar):eK x.1=ar/\eK x.2.1=ar/\(1500<=x.2.2.1/\x.2.2.1<=2100)/\(1500<=x.2.2.2.1/\x.2.2.2.1<=2100)/\(1<=x.2.2.2.2.1/\x.2.2.2.2.1<=1000):=by simp only[iV,aj,ax,cS]at h;obtain⟨h1,h2,h3,h4,h5,h6⟩:=h;exact⟨h1,h2,⟨h3,pc h4 h5⟩,⟨pc h3 h4,h5⟩,h6⟩
def aop(nm mk:List UInt8)(a b t:Int)(h1:eK nm=ar)(h2:eK mk=ar)(h3:1500<=a/\a<=2100)(h4:1500<=b/\b<=2100)(h5:1<=t/\t<=1000): (([nm,mk,(bG a++ [45])++bG b,bG t]:List (List UInt8)).length<=12/\∀c,c∈([nm,mk,(bG a++ [45])++bG b,bG t]:List (List UInt8))->c.length<=1000)/\Gv [nm,mk,(bG a++ [45])++bG b,bG t]=ar:=by
 have n1:=afj h1;have n2:=afj h2;have l3:=tm a (by omega);have l4:=tm b (by omega);have l5:=tm t (by omega);refine⟨⟨by simp,λc hc=> ?_⟩,?_⟩
 ·simp only[bl,gx,Cm]at hc;rcases hc with rfl|rfl|rfl|rfl
  ·omega
  ·omega
  ·simp only[aQ,bh,cy];omega
  ·omega
 ·have hd:iF ((45:UInt8).toNat:Int) 33 126=ar:=rfl;simp only[Gv,de,fK,List.all_append,n1.1,n2.1,an1,bM,hd];rfl
def atv{x:aK.ty}(h:iV x=ar):((ZG x).length<=12/\∀c,c∈ZG x->c.length<=1000)/\Gv (ZG x)=ar:=by obtain⟨h1,h2,h3,h4,h5⟩:=afq h;exact aop _ _ _ _ _ h1 h2 h3 h4 h5
def aqt:(Gx.length<=12/\∀c,c∈Gx->c.length<=1000)/\Gv Gx=ar:=by refine⟨⟨by decide,λc hc=> ?_⟩,by decide⟩;simp only[Gx,bl,gx,Cm]at hc;rcases hc with rfl|rfl|rfl|rfl<;>decide
def ace(xs:List aK.ty)(hs:xs.length<=1048576)(hx:∀x,x∈xs->iV x=ar):∀(k i:Nat) (r:List (List (List UInt8))),i+k=xs.length->r.length=i+1->
 jl xs xs.length i r=((qp (r++(xs.drop i).map ZG)).bind λx5=>ae ((x5.1.take x5.1.length),x5.2))
 |0,i,r,hk,hr=>by
  have:¬(i:Int)<(xs.length:Int):=by omega
  rw[x9,bb (by omega)]
  simp only[this,aW,ao,aH,lT,bS,aA]
 |k+1,i,r,hk,hr=>by
  have hi:i<xs.length:=by omega
  have hlt:(i:Int)<(xs.length:Int):=by omega
  have hw:ag.wrap ((i:Int)+1)=((i+1:Nat):Int):=by rw[fR (by omega) (by omega)];omega
  have hp:=afq (hx xs[i] (bc hi))
  have ih:=ace xs hs hx k (i+1) (r++ [ZG xs[i]]) (by omega) (by simp[hr])
  have hlim:r.length+1<lim:=by rw[lM];omega
  rw[x9,bf hi,aP]
  simp only[hlt,aB,aC,aI,aE,ay hi,af,hw]
  have key:∀a b t:Int,1500<=a/\a<=2100->1500<=b/\b<=2100->1<=t/\t<=1000->(fM a=ae (bG a)/\fM b=ae (bG b)/\fM t=ae (bG t))/\(bG a).length+ [45].length<=bj/\((bG a)++ [(45:UInt8)]).length+(bG b).length<=bj:=λa b t ha hb ht=>by have l1:=tm a (by omega);have l2:=tm b (by omega);refine⟨⟨gQ a (by omega),gQ b (by omega),gQ t (by omega)⟩,?_,?_⟩;(·rw[DV];simp only[bh,cy];omega);·rw[DV];simp only[aQ,bh,cy];omega
  obtain⟨⟨k4,k5,k6⟩,k7,k8⟩:=key _ _ _ hp.2.2.1 hp.2.2.2.1 hp.2.2.2.2
  rw[k4,af,aJ (bL k7),k5,af,aJ (bL k8),k6,af,aJ (bL hlim),aA]
  rw[dJ]at ih
  exact ih
def agY(xs:List aK.ty)(hs:xs.length<=1048576)(hx:∀x,x∈xs->x.1.length<=1048576/\x.2.1.length<=1048576):∃(r:List (List UInt8)) (c:Int),Aa xs=ae (r,c)/\(c=0->vU r=ar/\(∀x,x∈xs->iV x=ar)/\∃W,r=(Gx::xs.map ZG).map (Yc W)):=by
 rw[Qc,ve xs hs hx,af];cases h:lr xs;·exact⟨[],1,by simp,λh=>by cases h⟩
 have hall:=λx hx=>US h x hx;have s2:=ace xs hs hall xs.length 0 [Gx] (by omega) rfl;have s2:jl xs xs.length 0 [Gx]=_:=s2;rw[dV]at s2;have h12:(xs.length:Int)<=12:=by simp only[lr,aj,ax]at h;exact h.2
 have hm:∀row,row∈ [Gx]++xs.map ZG->(row.length<=12/\∀c,c∈row->c.length<=1000)/\Gv row=ar:=λrow hm=>by(rcases aU.1 hm with hm|hm);(·rw[aX]at hm;subst hm;exact aqt);·obtain⟨x,h1,rfl⟩:=dK.1 hm;exact atv (hall x h1)
 have hlen:([Gx]++xs.map ZG).length<=1048576:=by simp only[aQ,aT,bh,cy];omega
 have hT:XV ([Gx]++xs.map ZG):=λrow h=>(hm row h).1;rw[RN _ hlen hT (λrow h=>(hm row h).2),af]at s2;show∃(r:List (List UInt8)) (c:Int),jl xs xs.length 0 [Gx]=ae (r,c)/\_;rw[s2];generalize hls:([Gx]++xs.map ZG).map (Yc (aeC ([Gx]++xs.map ZG)))=ls;cases hr:vU ls;·exact⟨[],5,rfl,λh=>by cases h⟩
 ·refine⟨ls,0,?_,λ_=>⟨hr,hall,aeC ([Gx]++xs.map ZG),hls.symm⟩⟩;simp only[aC,aA]
end Re
namespace Ry
def sId(x:aM.ty):List UInt8:=x.1
def sM(x:aM.ty):Int:=x.2.1
def sT(x:aM.ty):Int:=x.2.2.1
def sS(x:aM.ty):Int:=x.2.2.2.1
def axx{x:aM.ty}(h:mU x=ar):eK (sId x)=ar/\(0<=sM x/\sM x<=1000)/\(10<=sT x/\sT x<=1000)/\0<=sS x/\sS x<=36524:=aju.1 h
def aaX{a:List UInt8}(h:∀c,c∈a->48<=c.toNat/\c.toNat<=57):(32:UInt8)∉a:=aiQ h (by decide)
def anO(d:Int)(h:0<=d/\d<=36524):∃t,nU d=ae t/\qO t=ae (d,ar)/\(32:UInt8)∉t/\t≠ []/\t.length<=20:=by
 obtain⟨y,m,r,hd,e1⟩:=aa5 d h.1 h.2;have hd':=hd;obtain⟨hy,hm,hr0,hr1,hde⟩:=hd';have hb:=yF (y:=2000+y) (m:=m) hm;obtain⟨rn,rfl⟩:∃rn:Nat,r=rn:=⟨r.toNat,by omega⟩;have hdt:=VT e1 hy hm (show rn<31 by omega);refine⟨_,hdt,ajd hd hdt,?_,by simp,?_⟩
 ·intro e;rcases aU.1 e with e|e
  ·exact aaX (by rw[aiw];exact AN _) e
  ·(rcases bl.1 e with e|e);(·exact absurd e (by decide));·(rcases aU.1 e with e|e);(·exact aaX (ai1 _ _) e);·(rcases bl.1 e with e|e);(·exact absurd e (by decide));·exact aaX (ai1 _ _) e
 ·have l1:=Ws y hy;have l2:=PE (m+1) (by omega);have l3:=PE (rn+1) (by omega);simp only[aQ,bh,l1.1,l2.2.1,l3.2.1];omega
def ayz(x:aM.ty):x.2.2.2.1=sS x:=rfl
def anT(xs:List aM.ty)(air day want:Int)(i:Nat):Bool:=match xs[i]? with
 |some x=>iF (day-sS x) 0 4000&&ah (aft (ND air) (sT x) (day-sS x).toNat (sM x)<=want)
 |none=>aw
def acq(air day want:Int)(xs:List aM.ty)(hs:xs.length<=1000)(hok:∀(j:Nat) (h:j<xs.length),mU xs[j]=ar)(ha:0<=air/\air<=1000)(hd:0<=day/\day<=36524):∀(k i:Nat),i+k=xs.length->
 jm air day want xs xs.length i (idx (anT xs air day want) i)=ae (idx (anT xs air day want) xs.length,0)
 |0,i,hk=>by
  have hi:i=xs.length:=by omega
  subst hi
  rw[yh]
  have:¬((xs.length:Nat):Int)<(xs.length:Int):=by omega
  simp only[this,aW,ao,aH,aA]
 |k+1,i,hk=>by
  have hi:i<xs.length:=by omega
  have hlt:(i:Int)<(xs.length:Int):=by omega
  have hi0:(0:Int)<=(i:Int):=by omega
  have hv:=axx (hok i hi)
  have hlim:(idx (anT xs air day want) i).length+1<lim:=by have:=aab (anT xs air day want) i;rw[lM];omega
  have ih:=acq air day want xs hs hok ha hd k (i+1) (by omega)
  rw[ais]at ih
  have hP:anT xs air day want i=(iF (day-sS xs[i]) 0 4000&&ah (aft (ND air) (sT xs[i]) (day-sS xs[i]).toNat (sM xs[i])<=want)):=by unfold anT;rw[getElem?_lt hi]
  rw[hP]at ih
  rw[yh]
  simp only[hlt,aB,aC,hi0,aE,getElem?_lt hi,af,fY (show i<4611686018427387904 by omega),ayz,fR (n:=day-sS xs[i]) (by omega) (by omega),adO,bx,aA]
  cases hr:iF (day-sS xs[i]) 0 4000
  ·rw[hr]at ih
   simp only[qi,ao,aH,bS]at ih⊢
   exact ih
  ·have kr:=cS.1 hr
   have ea:ug xs[i] air (day-sS xs[i])=ae (aft (ND air) (sT xs[i]) (day-sS xs[i]).toNat (sM xs[i])):=adL (sId xs[i]) (sM xs[i]) (sT xs[i]) (sS xs[i]) air (day-sS xs[i]) hv.2.1 hv.2.2.1 ha kr
   rw[hr]at ih
   simp only[aC,ea,af,jD]at ih⊢
   by_cases hc:aft (ND air) (sT xs[i]) (day-sS xs[i]).toNat (sM xs[i])<=want
   ·simp only[hc,aB,aC,hlim]at ih⊢
    exact ih
   ·simp only[hc,aW,ao,aH,bS]at ih⊢
    exact ih
end Ry
namespace Sh
def aqZ(b c d:Int):Int:=c+fS (b*d) 1000
def ati{b c d:Int}(hb:100<=b/\b<=10000)(hc:0<=c/\c<=500)(hd: -1000000<=d/\d<=1000000): (-10000000000<=b*d/\b*d<=10000000000)/\ -10000000001<=fS (b*d) 1000/\fS (b*d) 1000<=10000000001:=by have h:=avH (b:=b) (d:=d) (B:=10000) (D:=1000000) (by omega) hd;have h':=U1 (a:=b*d) (b:=1000) (m:=10000000000) (by omega) (by omega);exact⟨by omega,by omega⟩
def agz(a b c d:Int)(hb:100<=b/\b<=10000)(hc:0<=c/\c<=500)(hd: -1000000<=d/\d<=1000000):sB (a,b,c,d,())=ae (aqZ b c d):=by obtain⟨h1,h2⟩:=ati hb hc hd;rw[JD];simp only[fR (n:=b*d) (by omega) (by omega),jH (b*d) 1000 (by omega) (by omega),af,fR (n:=c+fS (b*d) 1000) (by omega) (by omega)];rfl
def am1(b c d j s:Int):Int:=aqZ b c (d+fS (1000*s) j)
def atC{d j s:Int}(hd:0<=d/\d<=300)(hj:1<=j/\j<=1000)(hs: -1<=s/\s<=201): -201001<=fS (1000*s) j/\fS (1000*s) j<=201001:=by have h:=U1 (a:=1000*s) (b:=j) (m:=201000) (by omega) (by omega);omega
def afG(h j a b c d:Int)(hb:100<=b/\b<=10000)(hc:0<=c/\c<=500)(hd:0<=d/\d<=300)(hj:1<=j/\j<=1000):∀(k:Nat) (i u:Int),i+k=201->0<=i->(i=0\/am1 b c d j (i-1)<h)->
 ∃n e:Int,wv h j d i a b c u=ae (n,e)/\((e=0/\0<=n/\n<=200/\h<=am1 b c d j n/\(n=0\/am1 b c d j (n-1)<h))\/(e=3/\n=0))
 |0,i,u,hk,h0,hi=>by
  rw[EC]
  have:¬i<=200:=by omega
  simp only[this,aW,ao,aH]
  exact⟨0,3,rfl,.inr ⟨rfl,rfl⟩⟩
 |k+1,i,u,hk,h0,hi=>by
  rw[EC]
  have:i<=200:=by omega
  have hs:=atC (s:=i) hd hj (by omega)
  simp only[this,aB,aC,fR (n:=1000*i) (by omega) (by omega),jH (1000*i) j (by omega) (by omega),af,fR (n:=d+fS (1000*i) j) (by omega) (by omega),agz a b c (d+fS (1000*i) j) hb hc (by omega)]
  by_cases hp:aqZ b c (d+fS (1000*i) j)>=h
  ·simp only[hp,aB,aC]
   exact⟨i,0,rfl,.inl ⟨rfl,h0,this,hp,hi⟩⟩
  ·simp only[hp,aW,ao,aH,fR (n:=i+1) (by omega) (by omega)]
   exact afG h j a b c d hb hc hd hj k (i+1) _ (by omega) (by omega) (.inr (by rw[show i+1-1=i by omega];unfold am1;omega))
end Sh
namespace Be
def aw6(x:aM.ty):Prop:=cP (α:=UInt8) x.1<=100
def apO(xs:List aM.ty):Prop:=xs.length<=100/\∀x,x∈xs->aw6 x
def al2{x:aM.ty}(h:vz x=ar):eK x.1=ar/\(1<=wkD x/\wkD x<=40)/\(0<=wkF x/\wkF x<=39)/\(0<=wkL x/\wkL x<=39)/\wkF x+wkD x-1<=wkL x:=by simp only[vz,aj,cS,ax]at h;obtain⟨h1,h2,h3,h4,h5⟩:=h;have h2:1<=wkD x/\wkD x<=40:=h2;have h3:0<=wkF x/\wkF x<=39:=h3;have h4:0<=wkL x/\wkL x<=39:=h4;have h5:ag.wrap ((ag.wrap (wkF x+wkD x))-1)<=wkL x:=h5;rw[fR (n:=wkF x+wkD x) (by omega) (by omega),fR (by omega) (by omega)]at h5;exact⟨h1,h2,h3,h4,h5⟩
def al3{x:aM.ty}(h:vz x=ar):Xa x=ar:=by obtain⟨_,h2,h3,h4,_⟩:=al2 h;simp only[Xa,aj,ax];omega
def alO(xs:List aM.ty)(h:apO xs):nk xs=ae (nO xs):=EG xs (dZ h.1 (by decide)) λx hx=>dZ (h.2 x hx) (by decide)
def srP(n:Int)(xs:List aM.ty)(c:Int):PwR:=O5 xs 0 (aZ n.toNat (aZ 40 0)) c
def Fc(n:Int)(xs:List aM.ty)(c:Int):List (List Int)×Int:=
 if nO xs=aw then([],1)
 else if¬(1<=n/\n<=6/\1<=c/\c<=20000)then([],2)
 else if(srP n xs c).2.1=aw then([],5)
 else if(srP n xs c).1=aw then([],3)
 else((srP n xs c).2.2.1,0)
def aqY(n:Int)(xs:List aM.ty)(c:Int)(h:apO xs):Ca n xs c=ae (Fc n xs c):=by rw[RG];unfold acf Fc;rw[alO xs h,af];cases hv:nO xs with|false=>rfl|true=>(have ht:¬(ar=aw):=by decide);rw[aO ht,aO ht];by_cases hc:¬(1<=n/\n<=6/\1<=c/\c<=20000);(·rw[aJ hc,aJ hc]);·rw[aO hc,aO hc];have hs:xs.length<=1000/\xs.all Xa=ar:=⟨dZ h.1 (by decide),aG.2 λx hx=>al3 (Pq hv x hx)⟩;rw[aJ hs];show(if(srP n xs c).2.1=aw then ae ([],5)else if(srP n xs c).1=aw then ae ([],3)else ae ((srP n xs c).2.2.1,0))=_;split;(·rfl);·split<;>rfl
def aqo(xs:List aM.ty)(c:Int)(h:apO xs):∀(k i:Nat),i+k=6->(i=0\/(Fc (i:Int) xs c).2=3)->
 ∃f e,mN xs c ((i+1:Nat):Int)=ae (f,e)/\(e=0->1<=f/\f<=6/\(Fc f xs c).2=0/\(f>1->(Fc (f-1) xs c).2=3))/\(e≠0->f=0)
 |0,i,hk,hp=>by
  have:¬((i+1:Nat):Int)<=6:=by omega
  rw[vM]
  simp only[this,aW,ao,aH]
  exact⟨0,3,rfl,λh=>by omega,λ_=>rfl⟩
 |k+1,i,hk,hp=>by
  have hle:((i+1:Nat):Int)<=6:=by omega
  rw[vM]
  simp only[hle,aB,aC,aqY _ xs c h,af]
  by_cases h0:(Fc ((i+1:Nat):Int) xs c).2=0
  ·have h0':((Fc ((i+1:Nat):Int) xs c).2==0)=ar:=by simpa using h0
   rw[aJ h0']
   refine⟨_,_,rfl,λ_=>⟨by omega,hle,h0,λhf=> ?_⟩,λh=>absurd rfl h⟩
   rcases hp with rfl|hp
   ·omega
   ·rw[show((i+1:Nat):Int)-1=(i:Int)from by omega];exact hp
  ·have h0':((Fc ((i+1:Nat):Int) xs c).2==0)=aw:=by simpa using h0
   rw[aO (by rw[h0'];decide)]
   by_cases h3:(Fc ((i+1:Nat):Int) xs c).2=3
   ·have h3':((Fc ((i+1:Nat):Int) xs c).2==3)=ar:=by simpa using h3
    rw[aJ h3',fY (i:=i+1) (by omega)]
    exact aqo xs c h k (i+1) (by omega) (.inr h3)
   ·have h3':((Fc ((i+1:Nat):Int) xs c).2==3)=aw:=by simpa using h3
    rw[aO (by rw[h3'];decide)]
    exact⟨0,_,rfl,λe=>absurd e h0,λ_=>rfl⟩
end Be
namespace Pa
def pI(x:aK.ty):List UInt8:=x.1
def pK(x:aK.ty):List UInt8:=x.2.1
def pE(x:aK.ty):Int:=x.2.2.1
def pL(x:aK.ty):Int:=x.2.2.2.1
def pT(x:aK.ty):Int:=x.2.2.2.2.1
def aus(x:aK.ty):Prop:=(pI x).length<=100/\(pK x).length<=100
def aay(xs:List aK.ty):Prop:=∀x,x∈xs->aus x
def Pw{α:Type}{ok:α->Bool}{id:α->List UInt8}:∀{l:List α} {p:Option α},eZ ok id p l=ar↔(∀x,x∈l->ok x=ar)/\l.Pairwise (λa b=>id a<id b)/\∀y,p=ae y->∀x,x∈l->id y<id x
 | [],p=>by simp[eZ]
 |z::r,p=>by
  have IH:=Pw (ok:=ok) (id:=id) (l:=r) (p:=ae z)
  have e0:eZ ok id p (z::r)=(ok z&&((match p with|none=>ar|some y=>cN (id y) (id z))&&eZ ok id (ae z) r)):=by cases p<;>rfl
  rw[e0,aj,aj,IH]
  constructor
  ·rintro⟨h1,h2,h3,h4,h5⟩
   refine⟨λx hx=> ?_,ic.2 ⟨λx hx=>h5 z rfl x hx,h4⟩,λy hy x hx=> ?_⟩
   ·rcases bl.1 hx with rfl|hx
    ·exact h1
    ·exact h3 x hx
   ·subst hy
    have hyz:id y<id z:=by simp only[C8,ax]at h2;exact h2
    rcases bl.1 hx with rfl|hx
    ·exact hyz
    ·exact KA hyz (h5 z rfl x hx)
  ·rintro⟨h1,h2,h3⟩
   obtain⟨h4,h5⟩:=ic.1 h2
   refine⟨h1 z di,?_,λx hx=>h1 x (aL _ hx),h5,λy hy x hx=> ?_⟩
   ·cases p with
    |none=>rfl
    |some y=>simp only[C8,ax];exact h3 y rfl z di
   ·cases hy;exact h4 x hx
structure l8(xs:List aK.ty):Prop where
 ok:∀x,x∈xs->iV x=ar
 up:xs.Pairwise λa b=>pI a<pI b
 few:xs.length<=12
def w8{xs:List aK.ty}:lr xs=ar↔l8 xs:=by rw[lr,aj,Pw,ax];exact⟨λh=>⟨h.1.1,h.1.2.1,by have:=h.2;omega⟩,λh=>⟨⟨h.ok,h.up,λy hy=>by cases hy⟩,by have:=h.few;omega⟩⟩
def l8.sub{xs ys:List aK.ty}(h:l8 xs)(hs:ys.Sublist xs):l8 ys:=
 ⟨λx hx=>h.ok x (hs.subset hx),h.up.sublist hs,dZ hs.length_le h.few⟩
structure Nt(x:aK.ty):Prop where
 i:eK (pI x)=ar
 k:eK (pK x)=ar
 e0:1500<=pE x
 el:pE x<=pL x
 l1:pL x<=2100
 t0:1<=pT x
 t1:pT x<=1000
def amz{x:aK.ty}(h:iV x=ar):Nt x:=by simp only[iV,aj,ax,cS]at h;exact⟨h.1,h.2.1,h.2.2.1,h.2.2.2.1,h.2.2.2.2.1,h.2.2.2.2.2.1,h.2.2.2.2.2.2⟩
def l8.asW{xs:List aK.ty}(h:l8 xs){x:aK.ty}(hx:x∈xs):Nt x:=amz (h.ok x hx)
def amJ{s:List UInt8}(h:eK s=ar):s.length<=10:=by cases s with|nil=>simp|cons c r=>simp only[eK,aj,ax]at h;exact h.2
def Xy{xs:List aK.ty}(hl:xs.length<=20)(hs:aay xs):gX xs=ae (lr xs)/\FL xs=ae (lr xs):=by
 have hx:∀x,x∈xs->x.1.length<=1048576/\x.2.1.length<=1048576:=λx hx=>by obtain⟨h1,h2⟩:=hs x hx;simp only[pI,pK]at h1 h2;exact⟨by omega,by omega⟩
 exact⟨ve xs (by omega) hx,Ra xs (by omega) hx⟩
def l8.avU{xs:List aK.ty}(h:l8 xs):aay xs:=λx hx=>by have g:=h.asW hx;exact⟨by have:=amJ g.i;omega,by have:=amJ g.k;omega⟩
def l8.valid{xs:List aK.ty}(h:l8 xs):gX xs=ae ar/\FL xs=ae ar:=by have:=Xy (by have:=h.few;omega) h.avU;rw[w8.2 h]at this;exact this
def clB(a b:aK.ty):Bool:= !(pK a==pK b)||(ah (pL a<pE b)||ah (pL b<pE a))
def anH(e l e' l':Int)(h1:e<=l)(h2:e'<=l'):ah ((if e'>e then e' else e)>(if l'<l then l' else l))=(ah (l<e')||ah (l'<e)):=by rw[afX,cj,ax,ax,ax];split<;>split<;>omega
def aqf{a b:aK.ty}(ha:Nt a)(hb:Nt b):Ai a b=ae (clB a b):=by have h1:=ha.el;have h2:=hb.el;obtain⟨i,k,e,l,t,u⟩:=a;obtain⟨i',k',e',l',t',u'⟩:=b;simp only[pE,pL]at h1 h2;rw[QX,clB];simp only[pK,pE,pL];rw[anH e l e' l' h1 h2];cases k==k'<;>rfl
def HE(xs:List aK.ty)(i:Nat):aK.ty:=(xs[i]?).getD ([],[],0,0,0,())
def UR{xs:List aK.ty}{i:Nat}(h:i<xs.length):xs[i]? =ae (HE xs i):=by simp[HE,ay h]
def agX{xs:List aK.ty}{i:Nat}(h:i<xs.length):HE xs i∈xs:=bw (UR h)
def XY{xs:List aK.ty}(h:xs.length<=1048576):lC xs=ae xs:=by
 rw[Ge];have h1:((xs.length:Int)).toNat<lim:=by unfold lim;omega
 have h2:0+xs.length<lim:=by unfold lim;omega
 simp only[aI,h1,h2,aB,bM,aC,dU,aA]
def ix(T:List Nat):List Int:=T.map λt:Nat=>(t:Int)
def Lu(T:List Nat):(ix T).length=T.length:=aT _
def avA{T:List Nat}{i:Nat}(h:i<T.length):(ix T)[i]? =ae ((T[i]:Nat):Int):=by rw[ix,bX,ay h];rfl
def aqz(T S:List Nat):ix (T++S)=ix T++ix S:=eu
structure Calm(xs:List aK.ty)(T:List Nat):Prop where
 up:T.Pairwise λa b=>a<b/\clB (HE xs a) (HE xs b)=aw
 lt:∀t,t∈T->t<xs.length
def tr(xs:List aK.ty)(T:List Nat):Int:=(T.map λt=>pT (HE xs t)).sum
def arA(xs:List aK.ty):tr xs []=0:=rfl
def aao(xs:List aK.ty)(t:Nat)(T:List Nat):tr xs (t::T)=pT (HE xs t)+tr xs T:=by simp[tr]
def ahq(xs:List aK.ty)(t:Nat):∀T:List Nat,tr xs (T++ [t])=tr xs T+pT (HE xs t)
 | []=>by rw[dU,aao,arA];omega
 |a::T=>by rw[sn,aao,aao,ahq xs t T];omega
def acv:∀{T:List Nat} {lo m:Nat},T.Pairwise (· < ·)->(∀t,t∈T->lo<=t/\t<m)->T.length<=m-lo
 | [],_,_,_,_=>iW _
 |a::T,lo,m,h1,h2=>by
  obtain⟨h3,h4⟩:=ic.1 h1
  have ha:=h2 a di
  have:=acv (T:=T) (lo:=a+1) (m:=m) h4 λt ht=>⟨h3 t ht,(h2 t (aL _ ht)).2⟩
  rw[bh];omega
def Calm.len{xs:List aK.ty}{T:List Nat}(h:Calm xs T):T.length<=xs.length:=
 acv (lo:=0) (h.up.imp λh=>h.1) λt ht=>⟨iW _,h.lt t ht⟩
def auQ{xs:List aK.ty}(h:l8 xs):∀{T:List Nat},(∀t,t∈T->t<xs.length)->0<=tr xs T/\tr xs T<=1000*(T.length:Int)
 | [],_=>by rw[arA];simp
 |a::T,ht=>by
  have g:=h.asW (agX (ht a di))
  have:=auQ h (T:=T) λt h=>ht t (aL _ h)
  have g0:=g.t0;have g1:=g.t1
  rw[aao,bh];omega
def Calm.bd{xs:List aK.ty}(h:l8 xs){T:List Nat}(c:Calm xs T):0<=tr xs T/\tr xs T<=12000:=by have h1:=auQ h c.lt;have h2:=c.len;have h3:=h.few;omega
def ah6(xs:List aK.ty):Calm xs []:=⟨.nil,λt h=>by cases h⟩
def Calm.snoc{xs:List aK.ty}{T:List Nat}(c:Calm xs T){i:Nat}(h:i<xs.length)(hT:∀t,t∈T->t<i)(hc:∀t,t∈T->clB (HE xs t) (HE xs i)=aw):Calm xs (T++ [i]):=by
 refine⟨ib.2 ⟨c.up,List.pairwise_singleton _ _,λa ha b hb=> ?_⟩,λt ht=> ?_⟩;·rw[aX.1 hb];exact⟨hT a ha,hc a ha⟩
 ·rcases aU.1 ht with ht|ht
  ·exact c.lt t ht
  ·rw[aX.1 ht];exact h
def foe(xs:List aK.ty)(x:aK.ty)(T:List Nat):Bool:=T.any λt=>clB (HE xs t) x
def afV{xs:List aK.ty}(h:l8 xs){x:aK.ty}(hx:Nt x){T:List Nat}(hT:∀t,t∈T->t<xs.length)(hl:T.length<=1000):∀(n i:Nat),i+n=T.length->
 ∃r:Int,cC (ix T) xs x.1 x.2.1 x.2.2.1 x.2.2.2.1 x.2.2.2.2.1 T.length i=ae r/\ah (r>=0)=foe xs x (T.drop i)
 |0,i,hn=>by
  have:i=T.length:=by omega
  subst this
  rw[fI,aO (by simp),ave]
  exact⟨_,rfl,rfl⟩
 |n+1,i,hn=>by
  have hi:i<T.length:=by omega
  have hlt:(i:Int)<(T.length:Int):=by omega
  have hti:=hT _ (bc hi)
  obtain⟨r,e1,e2⟩:=afV h hx hT hl n (i+1) (by omega)
  have hcl:=aqf (h.asW (agX hti)) hx
  have hc1:wW ((T[i]:Nat):Int) xs (x.1,x.2.1,x.2.2.1,x.2.2.2.1,x.2.2.2.2.1,())=ae (clB (HE xs T[i]) x):=by rw[M3];simp only[aI,aB,aC,aE,UR hti,af];rw[show((x.1,x.2.1,x.2.2.1,x.2.2.2.1,x.2.2.2.2.1,()):aK.ty)=x from rfl,hcl];rfl
  rw[fI]
  simp only[hlt,aB,aC,aI,aE,avA hi,af,hc1,fY (show i<4611686018427387904 by omega)]
  have hd:foe xs x (T.drop i)=(clB (HE xs T[i]) x||foe xs x (T.drop (i+1))):=by rw[foe,bf hi,zy];rfl
  by_cases c:clB (HE xs T[i]) x=ar
  ·rw[aJ c]
   refine⟨_,rfl,?_⟩
   rw[hd,c,aar];simp
  ·rw[aO c]
   refine⟨r,e1,?_⟩
   rw[hd,e2]
   have:clB (HE xs T[i]) x=aw:=by simpa using c
   rw[this,XM]
def at4{xs:List aK.ty}(h:l8 xs){x:aK.ty}(hx:Nt x){T:List Nat}(hT:∀t,t∈T->t<xs.length)(hl:T.length<=1000):Aj xs (ix T) x=ae (foe xs x T):=by obtain⟨r,e1,e2⟩:=afV h hx hT hl T.length 0 (by omega);rw[Qo,kf,lu,Lu];have e1':cC (ix T) xs x.1 x.2.1 x.2.2.1 x.2.2.2.1 x.2.2.2.2.1 T.length 0=ae r:=e1;simp only[e1',af,e2,dV]
def aqr{xs:List aK.ty}{x:aK.ty}{T:List Nat}:foe xs x T=aw↔∀t,t∈T->clB (HE xs t) x=aw:=by rw[foe,CI];exact⟨λh t ht=>by simpa using h t ht,λh t ht=>by rw[h t ht];simp⟩
def anJ{l:List Int}(h:l.length<=1048576):ji l=ae l:=by
 have h1:(0:Int)<=(l.length:Int):=by omega
 have h2:((l.length:Int)).toNat<lim:=by unfold lim;omega
 have h3:0+l.length<lim:=by unfold lim;omega
 rw[sL];simp only[h1,h2,h3,aB,bM,aC,dU,aA]
def Found(xs:List aK.ty)(i:Nat)(T B:List Nat)(left:Int)(r:Option (Bool×dR.ty)):Prop:=
 ∃(ok:Bool) (mW:Int) (B':List Nat),r=ae (ok,(xs,mW,ix T,tr xs T,ix B',tr xs B',()))/\Calm xs B'/\
  (ok=ar->0<=mW/\mW<=left/\tr xs B<=tr xs B'/\∀S,Calm xs (T++S)->(∀s,s∈S->i<=s)->tr xs (T++S)<=tr xs B')
def amM(xs:List aK.ty){left:Int}(h0:0<=left)(h1:left<=100000)(T:List Int)(s:Int)(B:List Int)(t:Int): p9 (xs,left,T,s,B,t,())=ae (ah (left-1>=0),(xs,left-1,T,s,B,t,())):=by rw[M4];have w:ag.wrap (left-1)=left-1:=fR (by omega) (by omega);simp only[w,aA]
def axq{xs:List aK.ty}{i n:Nat}(hi:i<1000){T:List Nat}{B:List Nat}{left:Int}(h0:0<=left)(h1:left<=100000){R:List Int}(hR:R.take T.length=ix T)(hB:Calm xs B) (IH:∀left:Int,0<=left->left<=100000->Found xs (i+1) T B left (gH n (xs,left,ix T,tr xs T,ix B,tr xs B,()) ((i+1:Nat):Int))): Found xs (i+1) T B left (iQ n i xs left T.length (tr xs T) (tr xs B) R (ix B)):=by
 rw[EV,hR,aA,amM xs h0 h1,af];by_cases c:left-1>=0;·rw[aJ (by simpa using c),fY (by omega)];obtain⟨ok,mW,B',e,q1,q2⟩:=IH (left-1) c (by omega);simp only[aA,e,af];exact⟨ok,mW,B',rfl,q1,λhk=>by obtain⟨a,b,d⟩:=q2 hk;exact⟨a,by omega,d⟩⟩
 ·rw[aO (by simpa using c)];simp only[aA];exact⟨aw,left-1,B,rfl,hB,λh=>by cases h⟩
def Ay{xs:List aK.ty}(h:l8 xs):∀(d n:Nat),d<n->∀(i:Nat) (T B:List Nat) (left:Int),i+d=xs.length->Calm xs T->(∀t,t∈T->t<i)->Calm xs B->0<=left->left<=100000-> Found xs i T B left (gH n (xs,left,ix T,tr xs T,ix B,tr xs B,()) (i:Int)):=by
 intro d
 induction d with
 |zero=>
  intro n hn i T B left hi hT hTi hB h0 h1;obtain⟨n,rfl⟩:∃m,n=m+1:=⟨n-1,by omega⟩;have hil:i=xs.length:=by omega
  have hTl:=hT.len;have hfew:=h.few;rw[xk,aJ (by simp[hil])];have ai:∀S,Calm xs (T++S)->(∀s,s∈S->i<=s)->S=[]:=λS hS hs=>by cases S with|nil=>rfl|cons s S=>have a:=hS.lt s (by simp);have b:=hs s di;omega
  by_cases c:tr xs T>tr xs B;·rw[aJ (by simpa using c)];simp only[aA,anJ (show(ix T).length<=1048576 by rw[Lu];omega),af];refine⟨ar,left,T,rfl,hT,λ_=>⟨h0,dH _,by omega,λS hS hs=> ?_⟩⟩;rw[ai S hS hs,bS];exact dH _
  ·rw[aO (by simpa using c)];simp only[aA];refine⟨ar,left,B,rfl,hB,λ_=>⟨h0,dH _,dH _,λS hS hs=> ?_⟩⟩;rw[ai S hS hs,bS];omega
 |succ d IHd=>
  intro n hn i T B left hi hT hTi hB h0 h1;obtain⟨n,rfl⟩:∃m,n=m+1:=⟨n-1,by omega⟩;have hix:i<xs.length:=by omega
  have hfew:=h.few;have hTl:=hT.len;have hTb:=hT.bd h;have hg:=h.asW (agX hix);have g0:=hg.t0;have g1:=hg.t1;have hne:¬((i:Int)==(xs.length:Int))=ar:=by simp;omega
  have hw:=at4 h hg hT.lt (by omega);have rest:∀(B1:List Nat) (left1:Int) (R:List Int),Calm xs B1->0<=left1->left1<=100000->R.take T.length=ix T->Found xs (i+1) T B1 left1 (iQ n i xs left1 T.length (tr xs T) (tr xs B1) R (ix B1)):=λB1 left1 R b1 b2 b3 b4=> axq (by omega) b2 b3 b4 b1 λl l0 l1=>IHd n (by omega) (i+1) T B1 l (by omega) hT (λt ht=>by have:=hTi t ht;omega) b1 l0 l1;rw[xk,aO hne];simp only[aI,aB,aC,aE,UR hix,af,aA,hw]
  cases c:foe xs (HE xs i) T with
  |false=>
   rw[aJ (show(!aw)=ar from rfl),amM xs h0 h1,af];by_cases c1:left-1>=0
   ·(have hc1:(!(ah (left-1>=0),(xs,left-1,ix T,tr xs T,ix B,tr xs B,())).1)=aw:=by simp only[c1,aB,aY]);rw[aO (by rw[hc1];decide)];have hTn:=hT.snoc hix hTi (aqr.1 c);(have hlim:(ix T).length+1<lim:=by rw[Lu];unfold lim;omega);(have hs:ag.wrap (tr xs T+(HE xs i).2.2.2.2.1)=tr xs (T++ [i]):=by rw[ahq];exact fR (n:=tr xs T+pT (HE xs i)) (by omega) (by omega));have happ:ix T++ [(i:Int)]=ix (T++ [i]):=by rw[aqz];rfl
    obtain⟨ok,mW,B',e,q1,q2⟩:=IHd n (by omega) (i+1) (T++ [i]) B (left-1) (by omega) hTn (λt ht=>by
     rcases aU.1 ht with ht|ht
     ·have:=hTi t ht;omega
     ·rw[aX.1 ht];omega) hB c1 (by omega)
    have hwi:=fY (show i<4611686018427387904 by omega);simp only[aA,hlim,aB,aC,hs,happ,hwi,e,af];(have hk1:((ix T).length:Int)<=((ix (T++ [i])).length:Int):=by rw[Lu,Lu,aQ];omega);(have hk2:(0:Int)<=((ix T).length:Int):=by omega);(have htk:(ix (T++ [i])).take (ix T).length=ix T:=by rw[aqz,asy];rfl);(have hsub:ag.wrap (tr xs (T++ [i])-(HE xs i).2.2.2.2.1)=tr xs T:=by rw[ahq];(have:tr xs T+pT (HE xs i)-pT (HE xs i)=tr xs T:=by omega);have e2:tr xs T+pT (HE xs i)-(HE xs i).2.2.2.2.1=tr xs T:=this;rw[e2];exact fR (by omega) (by omega));simp only[hk1,hk2,aB,bM,aC,htk,hsub,aA,aE];cases ok with|false=>rw[aJ (show(!aw)=ar from rfl)];exact⟨aw,mW,B',rfl,q1,λh=>by cases h⟩|true=>rw[aO (by decide)];obtain⟨k1,k2,k3,k4⟩:=q2 rfl;rw[Lu]at htk⊢;obtain⟨ok2,left2,B2,e2,z1,z2⟩:=rest B' mW (ix (T++ [i])) q1 k1 (by omega) htk;refine⟨ok2,left2,B2,e2,z1,λhk=> ?_⟩;obtain⟨y1,y2,y3,y4⟩:=z2 hk;refine⟨y1,by omega,by omega,λS hS hs=> ?_⟩;cases S with|nil=>exact y4 [] hS λs h=>by cases h|cons s S=>(have hrise:∀t,t∈S->s<t:=λt ht=>by have:=(ib.1 hS.up).2.1;exact((ic.1 this).1 t ht).1);by_cases hsi:s=i;(·subst hsi;(have e3:T++s::S=(T++ [s])++S:=by simp);rw[e3]at hS⊢;have:=k4 S hS λt ht=>hrise t ht;omega);·have hs0:=hs s di;exact y4 (s::S) hS λt ht=>by(rcases bl.1 ht with rfl|ht);(·omega);·have:=hrise t ht;omega
   ·(have hc1:(!(ah (left-1>=0),(xs,left-1,ix T,tr xs T,ix B,tr xs B,())).1)=ar:=by simp only[c1,aW,fF]);rw[aJ hc1];simp only[aA];exact⟨aw,left-1,B,rfl,hB,λh=>by cases h⟩
  |true=>
   rw[aO (by decide)];rw[Lu];obtain⟨ok2,left2,B2,e2,z1,z2⟩:=rest B left (ix T) hB h0 h1 (by rw[<-Lu,aA]);refine⟨ok2,left2,B2,e2,z1,λhk=> ?_⟩;obtain⟨y1,y2,y3,y4⟩:=z2 hk;refine⟨y1,y2,y3,λS hS hs=> ?_⟩;cases S with|nil=>exact y4 [] hS λs h=>by cases h|cons s S=>(have hrise:∀t,t∈S->s<t:=λt ht=>by have:=(ib.1 hS.up).2.1;exact((ic.1 this).1 t ht).1);(have hsi:s≠i:=λe=>by subst e;have:foe xs (HE xs s) T=aw:=aqr.2 λt ht=>((ib.1 hS.up).2.2 t ht s di).2;rw[this]at c;cases c);have hs0:=hs s di;exact y4 (s::S) hS λt ht=>by(rcases bl.1 ht with rfl|ht);(·omega);·have:=hrise t ht;omega
def atd{xs:List aK.ty}(hl:xs.length<=20)(hs:aay xs)(b:Int):∃(l:List Int) (t e:Int),z8 xs b=ae (l,t,e)/\(e≠0/\l=[]/\t=0\/e=0/\l8 xs/\∃B,Calm xs B/\l=ix B/\t=tr xs B/\∀S,Calm xs S->tr xs S<=tr xs B):=by
 rw[P9,(Xy hl hs).1,af];by_cases hv:lr xs=ar
 ·have h:=w8.1 hv;rw[aO (by simp[hv]),bx,af];by_cases hb:iF b 1 20000=ar;·rw[aO (by simp[hb])];(have hb':1<=b/\b<=20000:=by simpa[iF]using hb);have hf:=h.few;obtain⟨ok,mW,B,e,q1,q2⟩:=Ay h xs.length 1000 (by omega) 0 [] [] b (by omega) (ah6 xs) (λt ht=>by cases ht) (ah6 xs) (by omega) (by omega);have e':gH 1000 (xs,b,[],0,[],0,()) 0=ae (ok,(xs,mW,ix [],tr xs [],ix B,tr xs B,())):=e;rw[e',af];cases ok with|false=>exact⟨_,_,_,rfl,.inl ⟨by decide,rfl,rfl⟩⟩|true=>obtain⟨_,_,_,k⟩:=q2 rfl;rw[aO (by simp)];simp only[aA];exact⟨_,_,_,rfl,.inr ⟨rfl,h,B,q1,rfl,rfl,λS hS=>k S hS λs _=>iW _⟩⟩
  ·rw[aJ (by simpa using hb)];exact⟨_,_,_,rfl,.inl ⟨by decide,rfl,rfl⟩⟩
 ·rw[aJ (by simpa using hv)];exact⟨_,_,_,rfl,.inl ⟨by decide,rfl,rfl⟩⟩
def avh{xs:List aK.ty}{x:aK.ty}(hl:xs.length<=20)(hs:aay xs)(hx:aus x):∃(l:List aK.ty) (e:Int),AO xs x=ae (l,e)/\ (e≠0/\l=[]\/e=0/\Nt x/\l8 l/\l.length=xs.length+1/\x∈l):=by
 have bad:∀(e:Int),e≠0->∃(l:List aK.ty) (e':Int),(ae (([]:List aK.ty),e):Option (List aK.ty×Int))=ae (l,e')/\(e'≠0/\l=[]\/e'=0/\Nt x/\l8 l/\l.length=xs.length+1/\x∈l):=λe he=>⟨_,_,rfl,.inl ⟨he,rfl⟩⟩;rw[VQ,(Xy hl hs).1,af];by_cases hv:lr xs=ar;rotate_left;·rw[aJ (by simpa using hv)];exact bad 1 (by decide)
 have h:=w8.1 hv;have h12:=h.few;rw[aO (by simp[hv]),vd x (dw hx.1 (by decide)) (dw hx.2 (by decide)),af];by_cases hp:iV x=ar;rotate_left;·rw[aJ (by simpa using hp)];exact bad 2 (by decide)
 rw[aO (by simp[hp])]
 have p2:∀i:Nat,i<=xs.length->xs.length<=11->(∀t,t<i->pI (HE xs t)<pI x)->(∀t,i<=t->t<xs.length->pI x<pI (HE xs t))->
  ∃(l:List aK.ty) (e:Int),tU xs i x.1 x.2.1 x.2.2.1 x.2.2.2.1 x.2.2.2.2.1=ae (l,e)/\(e≠0/\l=[]\/e=0/\Nt x/\l8 l/\l.length=xs.length+1/\x∈l):=λi hi h11 a1 a2=>by
  have e1:([(x.1,x.2.1,x.2.2.1,x.2.2.2.1,x.2.2.2.2.1,())]:List aK.ty)=[x]:=rfl
  have hle:(i:Int)<=(xs.length:Int):=by omega
  have hlim:xs.length+1<1099511627776:=by omega
  have e2:gL xs i [x]=ae (xs.take i++ [x]++xs.drop i,()):=by
   rw[qG]
   simp only[fB,aI,hle,hlim,aB,bM,aC,aE]
  rw[P5,XY (by omega),af,aJ (by simp),e1,e2,af]
  simp only[aA]
  refine⟨_,_,rfl,.inr ⟨rfl,amz hp,⟨λy hy=> ?_,?_,?_⟩,?_,by simp⟩⟩
  ·rcases aU.1 hy with hy|hy
   ·rcases aU.1 hy with hy|hy
    ·exact h.ok y (fo hy)
    ·rw[aX.1 hy];exact hp
   ·exact h.ok y (cA hy)
  ·rw[dJ,ib]
   refine⟨h.up.sublist (apD _ _),?_,λa ha b hb=> ?_⟩
   ·rw[jO,ic]
    refine⟨λb hb=> ?_,h.up.sublist (XU _ _)⟩
    obtain⟨t,ht,rfl⟩:=List.mem_iff_getElem.1 hb
    rw[dm]at ht
    have:=a2 (i+t) (by omega) (by omega)
    rw[apB]
    simpa[HE,ay (show i+t<xs.length by omega)]using this
   ·obtain⟨t,ht,rfl⟩:=List.mem_iff_getElem.1 ha
    rw[cQ]at ht
    have hax:=a1 t (by omega)
    have e3:(xs.take i)[t]=HE xs t:=by
     rw[apC];simp[HE,ay (show t<xs.length by omega)]
    rw[jO]at hb
    rcases bl.1 hb with rfl|hb
    ·rw[e3];exact hax
    ·obtain⟨u,hu,rfl⟩:=List.mem_iff_getElem.1 hb
     rw[dm]at hu
     have:=a2 (i+u) (by omega) (by omega)
     rw[e3,apB]
     have e4:xs[i+u]=HE xs (i+u):=by simp[HE,ay (show i+u<xs.length by omega)]
     rw[e4]
     exact KA hax this
  ·simp;omega
  ·simp;omega
 have p1:∀i:Nat,i<=xs.length->(∀t,t<i->pI (HE xs t)<pI x)->(i<xs.length->¬pI (HE xs i)<pI x)->
  ∃(l:List aK.ty) (e:Int),tT xs i x.1 x.2.1 x.2.2.1 x.2.2.2.1 x.2.2.2.2.1=ae (l,e)/\(e≠0/\l=[]\/e=0/\Nt x/\l8 l/\l.length=xs.length+1/\x∈l):=λi hi a1 a2=>by
  rw[P4]
  by_cases c:i<xs.length
  ·have hlt:(i:Int)<(xs.length:Int):=by omega
   simp only[hlt,aB,aC,aI,aE,UR c,af]
   by_cases c2:((HE xs i).1==x.1)=ar
   ·rw[aJ c2];exact bad 4 (by decide)
   ·rw[aO c2]
    by_cases c3:((xs.length:Int)==12)=ar
    ·rw[aJ c3];exact bad 5 (by decide)
    ·rw[aO c3]
     have c3':¬xs.length=12:=λe=>c3 (by rw[e];rfl)
     have hix:pI x<pI (HE xs i):=by
      have n1:=a2 c
      rcases amb.1 (List.not_lt.1 n1)with q|q
      ·exact q
      ·exact absurd (b9.2 q.symm) c2
     refine p2 i hi (by omega) a1 λt ht htl=> ?_
     by_cases q:t=i
     ·subst q;exact hix
     ·have hup:=List.pairwise_iff_getElem.1 h.up i t c htl (by omega)
      have e1:xs[i]=HE xs i:=by simp[HE,ay c]
      have e2:xs[t]=HE xs t:=by simp[HE,ay htl]
      rw[e1,e2]at hup
      exact KA hix hup
  ·have hlt:¬(i:Int)<(xs.length:Int):=by omega
   simp only[hlt,aW,ao,aH]
   by_cases c3:((xs.length:Int)==12)=ar
   ·rw[aJ c3];exact bad 5 (by decide)
   ·rw[aO c3]
    have c3':¬xs.length=12:=λe=>c3 (by rw[e];rfl)
    exact p2 i hi (by omega) a1 λt ht htl=>by omega
 have p0:∀(n i:Nat),i+n=xs.length->(∀t,t<i->pI (HE xs t)<pI x)-> ∃(l:List aK.ty) (e:Int),tQ xs i x.1 x.2.1 x.2.2.1 x.2.2.2.1 x.2.2.2.2.1=ae (l,e)/\(e≠0/\l=[]\/e=0/\Nt x/\l8 l/\l.length=xs.length+1/\x∈l):=by intro n;induction n with|zero=>intro i hn a1;rw[CK,aO (by simp;omega)];exact p1 i (by omega) a1 λhc=>by omega|succ n ih=>intro i hn a1;(have hi:i<xs.length:=by omega);(have hlt:(i:Int)<(xs.length:Int):=by omega);rw[CK];simp only[hlt,aB,aC,aI,aE,UR hi,af,C8,ax,fY (show i<4611686018427387904 by omega)];by_cases c:pI (HE xs i)<pI x;(·rw[aJ (show(HE xs i).1<x.1 from c)];exact ih (i+1) (by omega) λt ht=>by by_cases q:t=i;(·subst q;exact c);·exact a1 t (by omega));·rw[aO (show¬(HE xs i).1<x.1 from c)];exact p1 i (by omega) a1 λ_=>c
 exact p0 xs.length 0 (by omega) λt ht=>by omega
def anI(a b:aK.ty):∃c,Ai a b=ae c:=by rw[QX];split<;>exact⟨_,rfl⟩
def w1{xs:List aK.ty}(hl:xs.length<=1000){i:Nat}(hi:i<xs.length)(b m:Int)(hb: -1<=b/\b<(xs.length:Int))(y:aK.ty):∀(n k:Nat) (s:Int),k+n=xs.length->
 ∃b' m':Int,(-1<=b'/\b'<(xs.length:Int))/\qT xs b m i s xs xs.length i xs xs.length k y.1 y.2.1 y.2.2.1 y.2.2.2.1 y.2.2.2.2.1=qS xs b' m' xs xs.length ((i+1:Nat):Int)
 |0,k,s,hn=>by
  have:k=xs.length:=by omega
  subst this
  rw[JS,aO (by simp),fY (by omega)]
  split
  ·exact⟨i,s,by omega,rfl⟩
  ·exact⟨b,m,hb,rfl⟩
 |n+1,k,s,hn=>by
  have hk:k<xs.length:=by omega
  have hlt:(k:Int)<(xs.length:Int):=by omega
  obtain⟨c,hc⟩:=anI y xs[k]
  have hc':Ai (y.1,y.2.1,y.2.2.1,y.2.2.2.1,y.2.2.2.2.1,()) xs[k]=ae c:=hc
  rw[JS]
  simp only[hlt,aB,aC,aI,aE,ay hk,af,fY (show k<4611686018427387904 by omega),hc']
  split
  ·split<;>exact w1 hl hi b m hb y n (k+1) _ (by omega)
  ·exact w1 hl hi b m hb y n (k+1) _ (by omega)
def w0{xs:List aK.ty}(hl:xs.length<=1000):∀(n i:Nat) (b m:Int),i+n=xs.length-> -1<=b/\b<(xs.length:Int)->∃r:Int,qS xs b m xs xs.length i=ae r/\ -1<=r/\r<(xs.length:Int)
 |0,i,b,m,hn,hb=>⟨b,by rw[JR,aO (by simp;omega)],hb⟩
 |n+1,i,b,m,hn,hb=>by
  have hi:i<xs.length:=by omega
  have hlt:(i:Int)<(xs.length:Int):=by omega
  obtain⟨b',m',hb',e⟩:=w1 hl hi b m hb xs[i] xs.length 0 0 (by omega)
  rw[JR]
  simp only[hlt,aB,aC,aI,aE,ay hi,af]
  obtain⟨r,q⟩:=w0 hl n (i+1) b' m' (by omega) hb'
  exact⟨r,e.trans q.1,q.2⟩
def PR{xs:List aK.ty}(hl:xs.length<=1000):∃r:Int,EW xs=ae r/\ -1<=r/\r<(xs.length:Int):=by rw[adS];exact w0 hl xs.length 0 (-1) 0 (by omega) (by omega)
def anS:∀(n:Nat) (xs:List aK.ty) (r:Int),xs.length<=n->xs.length<=1000->EW xs=ae r->∃ys,om r xs=ae (ys,0)/\ys.Sublist xs:=by intro n;induction n with|zero=>intro xs r hn hl hr;obtain⟨r',e,h1,h2⟩:=PR hl;rw[hr]at e;cases e;exact⟨xs,by rw[pJ,aO (by simp;omega),aA],Pt _⟩|succ n ih=>intro xs r hn hl hr;obtain⟨r',e,h1,h2⟩:=PR hl;rw[hr]at e;cases e;by_cases c:0<=r;(·obtain⟨j,rfl⟩:∃j:Nat,r=j:=⟨r.toNat,by omega⟩;(have hsub:(xs.take j++xs.drop (j+1)).Sublist xs:=by have h1:(xs.take j++xs.drop (j+1)).Sublist (xs.take j++xs.drop j):=List.Sublist.append (Pt _) (List.drop_sublist_drop_left xs (by omega));rwa[List.take_append_drop]at h1);(have hlen:(xs.take j++xs.drop (j+1)).length=xs.length-1:=by simp;omega);have hw:=fY (show j<4611686018427387904 by omega);(have c1:(j:Int)<((j+1:Nat):Int):=by omega);(have c2:((j+1:Nat):Int)<=(xs.length:Int):=by omega);(have c3:xs.length<1099511627776:=by omega);(have hd:gI xs j ((j+1:Nat):Int)=ae (xs.take j++xs.drop (j+1),()):=by rw[qF];simp only[aI,c1,c2,c3,aB,bM,aC,aE]);obtain⟨r2,e2,_⟩:=PR (xs:=xs.take j++xs.drop (j+1)) (by omega);obtain⟨ys,q1,q2⟩:=ih _ r2 (by omega) (by omega) e2;refine⟨ys,?_,q2.trans hsub⟩;rw[pJ,aJ (by simp)];simp only[aB,aC,hw,hd,af,aA,e2];exact q1);·exact⟨xs,by rw[pJ,aO (by simpa using c),aA],Pt _⟩
def asO{xs:List aK.ty}(h:l8 xs):∃ys,z6 xs=ae (ys,0)/\l8 ys:=by have hf:=h.few;obtain⟨r,e,-⟩:=PR (xs:=xs) (by omega);obtain⟨ys,q1,q2⟩:=anS xs.length xs r (bm _) (by omega) e;refine⟨ys,?_,h.sub q2⟩;rw[P8,h.valid.1];simp only[af,aY,ao,aH,XY (show xs.length<=1048576 by omega),aA,e];exact q1
end Pa
def Few(l:List Int):Prop:=l.length<=12/\∀x,x∈l->0<=x/\x<=100
def Few.nil:Few []:=⟨by simp,λ_ h=>by cases h⟩
def amx(xs:List aM.ty)(holes:List Int)(way:Int)(hl:xs.length<=8)(hl':holes.length<=8)(m:Nat):
 ∀(n:Nat) (g:List Int),g.length+n=holes.length->(∀x,x∈g->0<=x/\x<=100)->∃(r:List Int) (b:Bool),Few r/\Ub (n+m+1) xs holes way g=ae (r,b,())
 |0,g,hg,hf=>⟨g,ar,⟨by omega,hf⟩,by rw[X0,aA];simp[show g.length=holes.length by omega]⟩
 |n+1,g,hg,hf=>by
  have ih:=amx xs holes way hl hl' m n
  rw[show n+1+m+1=(n+m+1)+1 by omega,X0]
  have hne:((g.length:Int)==(holes.length:Int))=aw:=by rw[fj];omega
  simp only[hne,ao,aH]
  have loop:∀(k i:Nat),i+k=xs.length->∃(r:List Int) (b:Bool),Few r/\sU (n+m+1) g.length xs holes way xs xs.length i g=ae (r,b,()):=by intro k;induction k with|zero=>intro i hi;exact⟨[],aw,Few.nil,by rw[NV,aO (by simp;omega)]⟩|succ k ihk=>intro i hk;(have hi:i<xs.length:=by omega);(have hlt:(i:Int)<(xs.length:Int):=by omega);(have hgl:g.length<holes.length:=by omega);have again:=ihk (i+1) (by omega);rw[NV];simp only[hlt,aB,aC,aI,aE,ay hi,af];(have in1:∀(kk j:Nat) (b:Bool),j+kk=g.length->∃(r:List Int) (c:Bool),Few r/\Bv (n+m+1) g.length xs holes way i b xs xs.length i g.length j g xs[i].1 xs[i].2.1 xs[i].2.2.1 xs[i].2.2.2.1=ae (r,c,()):=by intro kk;induction kk with|zero=>intro j b hj;(have:j=g.length:=by omega);subst this;obtain⟨q,hq⟩:∃q,Et (xs[i].1,xs[i].2.1,xs[i].2.2.1,xs[i].2.2.2.1,()) holes[g.length]=ae q:=⟨_,TW _ _⟩;rw[NW,aO (by simp)];simp only[aI,aB,aC,aE,ay hgl,af,hq,fY (show i<4611686018427387904 by omega)];split;(·exact again);split;(·exact again);split;(·exact again);(have hlim:0+g.length<lim:=by rw[lM];omega);(have hlim2:g.length+1<lim:=by rw[lM];omega);(have hlim3:g.length<lim:=by rw[lM];omega);(obtain⟨r2,b2,z1,z3⟩:=ih (g++ [(i:Int)]) (by simp;omega) λx hx=>by(rcases aU.1 hx with hx|hx);(·exact hf x hx);·rw[aX.1 hx];omega);rw[abc,aA,sL];simp only[hlim,hlim2,hlim3,aC,aB,aI,aE,bM,af,dU,aA,z3,fY (show i<4611686018427387904 by omega)];cases b2;(·exact again);·exact⟨r2,ar,z1,rfl⟩|succ kk ih1=>intro j b hj;(have hjl:j<g.length:=by omega);(have hjt:(j:Int)<(g.length:Int):=by omega);rw[NW];simp only[hjt,aB,aC,aI,aE,ay hjl,af,bM,fY (show j<4611686018427387904 by omega)];split;(·exact ih1 (j+1) _ (by omega));·exact ih1 (j+1) _ (by omega));exact in1 g.length 0 aw (by omega)
  exact loop xs.length 0 (by omega)
def aa4(xs:List aM.ty)(holes:List Int)(way:Int)(hl:xs.length<=8)(hl':holes.length<=8):∀(k i:Nat),i+k=holes.length->∃(r:List Int) (c:Int),Few r/\(0<=c/\c<=12)/\wm xs holes way holes holes.length i=ae (r,c)
 |0,i,hk=>by
  rw[Eo,aO (by simp;omega)]
  split
  ·exact⟨[],7,Few.nil,by omega,rfl⟩
  ·obtain⟨r,b,z1,z2⟩:=amx xs holes way hl hl' (999-holes.length) holes.length [] (by simp) (λ_ h=>by cases h)
   rw[show holes.length+(999-holes.length)+1=1000 by omega]at z2
   rw[z2]
   cases b
   ·exact⟨[],3,Few.nil,by omega,rfl⟩
   ·exact⟨r,0,z1,by omega,by simp⟩
 |k+1,i,hk=>by
  have hi:i<holes.length:=by omega
  have hlt:(i:Int)<(holes.length:Int):=by omega
  rw[Eo]
  simp only[hlt,aB,aC,aI,aE,ay hi,af,Oa,bx,fY (show i<4611686018427387904 by omega)]
  split
  ·exact⟨[],2,Few.nil,by omega,rfl⟩
  ·exact aa4 xs holes way hl hl' k (i+1) (by omega)
def avu{xs:List aM.ty}(h:w9 xs=ar)(hs:xs.length<=8)(hx:∀x,x∈xs->x.1.length<=1048576)(holes:List Int)(way:Int):∃(r:List Int) (c:Int),Few r/\(0<=c/\c<=12)/\KN xs holes way=ae (r,c):=by
 rw[YB,GS xs (by omega) hx,h,adP,fG];simp only[bx,af,aY,ao,aH];split;·exact⟨[],2,Few.nil,by omega,rfl⟩
 split;·exact⟨[],2,Few.nil,by omega,rfl⟩
 ·rename_i h2;rw[RC];exact aa4 xs holes way hs (by simp at h2;omega) holes.length 0 (by omega)
def dN(c:UInt8)(s:List UInt8):List (List UInt8):=uV [c] 0 (Nq s [c]) s
def ac4{c:UInt8}{M:List UInt8->List (List UInt8)->Prop}(h0:∀a,c∉a->M a [a])(h1:∀a r,c∉a->M r (dN c r)->M (a++c::r) (a::dN c r)):∀(n:Nat) (s:List UInt8),s.length<=n->M s (dN c s):=by intro n;induction n with|zero=>intro s hs;have:s=[]:=zA.1 (by omega);subst this;have:=h0 [] (by simp);rwa[dN,O3 (by simp)]|succ n ih=>intro s hs;by_cases hc:c∈s;(·obtain⟨a,r,rfl,ha⟩:=aeO hc;rw[dN,O2 r ha];exact h1 a r ha (ih r (by simp at hs;omega)));·have:=h0 s hc;rwa[dN,O3 hc]
def DU{c:UInt8}(s:List UInt8):1<=(dN c s).length/\(dN c s).length<=s.length+1/\∀w,w∈dN c s->w.length<=s.length:=by
 refine ac4 (c:=c) (M:=λs ws=>1<=ws.length/\ws.length<=s.length+1/\∀w,w∈ws->w.length<=s.length) (λa _=> ?_) (λa r _ h=> ?_) s.length s (bm _);·simp
 ·obtain⟨h1,h2,h3⟩:=h;refine⟨by simp,by simp;omega,λw hw=> ?_⟩;rcases bl.1 hw with rfl|hw
  ·simp
  ·have:=h3 w hw;simp;omega
def BL(s:List UInt8)(c:UInt8)(hs:s.length<4294967281):strings_Split s [c]=ae (dN c s):=by rw[Kq];simp[hs,dN]
def XK(m:Nat):∀(k:Nat) (v8:List (List UInt8)) (i:Nat) (r3:List (List UInt8)),i+k=v8.length->v8.length<=1000000->r3.length<=i->(∀w,w∈v8->w.length<=m)->(∀w,w∈r3->w.length<=m/\w≠ [])->∃ws,mh v8 v8.length i r3=ae ws/\ws.length<=v8.length/\∀w,w∈ws->w.length<=m/\w≠ []
 |0,v8,i,r3,hk,hl,hr,hv,h3=>⟨r3,by rw[zD,aO (by simp;omega),aA],by omega,h3⟩
 |k+1,v8,i,r3,hk,hl,hr,hv,h3=>by
  have hi:i<v8.length:=by omega
  have hlt:(i:Int)<(v8.length:Int):=by omega
  have hlim:r3.length+1<lim:=by rw[lM];omega
  rw[zD]
  simp only[hlt,aB,aC,aI,aE,ay hi,af,hlim,aA,fY (show i<4611686018427387904 by omega)]
  split
  ·rename_i hne
   exact XK m k v8 (i+1) _ (by omega) hl (by simp;omega) hv λw hw=>by(rcases aU.1 hw with hw|hw);(·exact h3 w hw);·rw[aX.1 hw];exact⟨hv _ (bc hi),by simpa using hne⟩
  ·exact XK m k v8 (i+1) r3 (by omega) hl (by omega) hv h3
def O4(s:List UInt8)(hs:s.length<=500000):∃ws,wx s=ae ws/\∀w,w∈ws->w.length<=s.length/\w≠ []:=by obtain⟨h1,h2,h3⟩:=DU (c:=32) s;obtain⟨ws,e,q1,q2⟩:=XK s.length (dN 32 s).length (dN 32 s) 0 [] (by omega) (by omega) (by simp) h3 (λ_ h=>by cases h);exact⟨ws,by rw[RJ,BL s 32 (by omega)];exact e,q2⟩
def nf(l:List Int):Prop:=l.length<=64/\∀x,x∈l-> -1000000000000<=x/\x<=1000000000000
def aiF:∀(k:Nat) (v:List (List UInt8)) (i:Nat) (r:List Int),i+k=v.length->v.length<=1000000->nf r->∃l ok,ub v v.length i r=ae (l,ok)/\nf l
 |0,v,i,r,hk,hl,hr=>⟨r,ar,by rw[CP,aO (by simp;omega),aA],hr⟩
 |k+1,v,i,r,hk,hl,hr=>by
  have hi:i<v.length:=by omega
  have hlt:(i:Int)<(v.length:Int):=by omega
  have hn:nf []:=⟨by simp,λ_ h=>by cases h⟩
  rw[CP]
  simp only[hlt,aB,aC,aI,aE,ay hi,af,CO,bx,aA,fY (show i<4611686018427387904 by omega)]
  split
  ·exact⟨[],aw,rfl,hn⟩
  split
  ·exact⟨[],aw,rfl,hn⟩
  split
  ·exact⟨[],aw,rfl,hn⟩
  rename_i h1 h2 h3
  have hr1:=hr.1
  have h64:r.length≠64:=λe=>h3 (by rw[e];rfl)
  rw[aJ (bL (show r.length+1<lim by rw[lM];omega))]
  refine aiF k v (i+1) _ (by omega) hl ⟨by simp;omega,λx hx=> ?_⟩
  rcases aU.1 hx with hx|hx
  ·exact hr.2 x hx
  ·rw[aX.1 hx]
   have:iF (Fh v[i]).1 (-1000000000000) 1000000000000=ar:=by simpa using h2
   simpa[iF]using this
def uF(s:List UInt8)(hs:s.length<=900000):∃l ok,lQ s=ae (l,ok)/\nf l:=by
 have hb:=DU (c:=44) s;rw[V0];split;·exact⟨[],ar,rfl,by simp,λ_ h=>by cases h⟩
 ·rw[BL s 44 (by omega)];exact aiF (dN 44 s).length (dN 44 s) 0 [] (by omega) (by omega) ⟨by simp,λ_ h=>by cases h⟩
def amm(s:List UInt8)(c:UInt8):(A7 s [c]).1.length<=s.length/\(A7 s [c]).2.1.length<=s.length:=by
 by_cases hc:c∈s;·obtain⟨a,r,rfl,ha⟩:=aeO hc;rw[asJ r ha];simp;omega
 ·rw[anM hc];simp
def JX(s:List UInt8)(n:Int)(hs:s.length<=900000):∃id l ok,mu s n=ae (id,l,ok)/\id.length<=900000/\nf l/\(ok=ar->(l.length:Int)=n):=by
 have hc:=amm s 32;obtain⟨l,ok,e,hn⟩:=uF (A7 s [32]).2.1 (by omega);rw[Uh,Pb,aJ (by simp;omega)];simp only[af,e,aA];split
 ·split;·exact⟨_,l,_,rfl,by omega,hn,λh=>by simpa using h⟩
  ·exact⟨_,l,_,rfl,by omega,hn,λh=>by cases h⟩
 ·exact⟨_,l,_,rfl,by omega,hn,λh=>by cases h⟩
def ajh(s:List UInt8)(hs:s.length<=900000):∃(x:aN.ty) (ok:Bool),KR s=ae (x,ok)/\(ok=ar->HH x=ar):=by obtain⟨id,l,ok,e,hid,hn,hok⟩:=JX s 2 hs;rw[YF,e];cases ok with|false=>exact⟨_,_,rfl,λh=>by cases h⟩|true=>have hl:=hok rfl;(obtain⟨a,b,rfl⟩:∃a b,l=[a,b]:=by match l,hl with| [a,b],_=>exact⟨a,b,rfl⟩| [],h=>simp at h| [_],h=>simp at h|_::_::_::_,h=>simp at h;omega);have hv:=GQ (id,a,b,()) (show id.length<_ by omega);simp only[af,aY,ao,aH,bh,cy,bg,ct,hv];cases hr:HH (id,a,b,());(·exact⟨_,_,rfl,λh=>by cases h⟩);·exact⟨_,_,rfl,λ_=>hr⟩
def ag2(s:List UInt8)(hs:s.length<=900000):∃(x:aN.ty) (ok:Bool),Ic s=ae (x,ok)/\(ok=ar->wZ x=ar):=by obtain⟨id,l,ok,e,hid,hn,hok⟩:=JX s 2 hs;rw[V1,e];cases ok with|false=>exact⟨_,_,rfl,λh=>by cases h⟩|true=>have hl:=hok rfl;(obtain⟨a,b,rfl⟩:∃a b,l=[a,b]:=by match l,hl with| [a,b],_=>exact⟨a,b,rfl⟩| [],h=>simp at h| [_],h=>simp at h|_::_::_::_,h=>simp at h;omega);have hv:=Er (id,a,b,()) (show id.length<_ by omega);simp only[af,aY,ao,aH,bh,cy,bg,ct,hv];cases hr:wZ (id,a,b,());(·exact⟨_,_,rfl,λh=>by cases h⟩);·exact⟨_,_,rfl,λ_=>hr⟩
def three{l:List Int}(h:(l.length:Int)=3):∃a b c,l=[a,b,c]:=by match l,h with| [a,b,c],_=>exact⟨a,b,c,rfl⟩| [],h=>simp at h| [_],h=>simp at h| [_,_],h=>simp at h|_::_::_::_::_,h=>simp at h;omega
def four{l:List Int}(h:(l.length:Int)=4):∃a b c d,l=[a,b,c,d]:=by match l,h with| [a,b,c,d],_=>exact⟨a,b,c,d,rfl⟩| [],h=>simp at h| [_],h=>simp at h| [_,_],h=>simp at h| [_,_,_],h=>simp at h|_::_::_::_::_::_,h=>simp at h;omega
def ajf(s:List UInt8)(hs:s.length<=900000):∃(x:aM.ty) (ok:Bool),KP s=ae (x,ok)/\(ok=ar->MO x=ar):=by obtain⟨id,l,ok,e,hid,hn,hok⟩:=JX s 3 hs;rw[YD,e];cases ok with|false=>exact⟨_,_,rfl,λh=>by cases h⟩|true=>obtain⟨a,b,c,rfl⟩:=three (hok rfl);have hv:=GL (id,a,b,c,()) (show id.length<_ by omega);simp only[af,aY,ao,aH,bh,cy,bg,ct,hv];cases hr:MO (id,a,b,c,());(·exact⟨_,_,rfl,λh=>by cases h⟩);·exact⟨_,_,rfl,λ_=>hr⟩
def ag4(s:List UInt8)(hs:s.length<=900000):∃(x:aM.ty) (ok:Bool),If s=ae (x,ok)/\(ok=ar->vz x=ar):=by obtain⟨id,l,ok,e,hid,hn,hok⟩:=JX s 3 hs;rw[V3,e];cases ok with|false=>exact⟨_,_,rfl,λh=>by cases h⟩|true=>obtain⟨a,b,c,rfl⟩:=three (hok rfl);have hv:=EI (id,a,b,c,()) (show id.length<_ by omega);simp only[af,aY,ao,aH,bh,cy,bg,ct,hv];cases hr:vz (id,a,b,c,());(·exact⟨_,_,rfl,λh=>by cases h⟩);·exact⟨_,_,rfl,λ_=>hr⟩
def ajg(s:List UInt8)(hs:s.length<=900000):∃(x:bO.ty) (ok:Bool),KQ s=ae (x,ok)/\(ok=ar->Aw x=ar):=by obtain⟨id,l,ok,e,hid,hn,hok⟩:=JX s 4 hs;rw[YE,e];cases ok with|false=>exact⟨_,_,rfl,λh=>by cases h⟩|true=>obtain⟨a,b,c,d,rfl⟩:=four (hok rfl);have hv:=yf id a b c d (show id.length<_ by omega);simp only[af,aY,ao,aH,bh,cy,bg,ct,hv];cases hr:HF id a b c d;(·exact⟨_,_,rfl,λh=>by cases h⟩);·exact⟨_,_,rfl,λ_=>hr⟩
def ag3(s:List UInt8)(hs:s.length<=900000):∃(x:oC.ty) (ok:Bool),Ie s=ae (x,ok)/\(ok=ar->Ck x=ar):=by obtain⟨l,ok,e,hn⟩:=uF s hs;rw[V2,e];cases ok with|false=>exact⟨_,_,rfl,λh=>by cases h⟩|true=>simp only[af,aY,ao,aH];split;(·exact⟨_,_,rfl,λh=>by cases h⟩);rename_i h4;obtain⟨a,b,c,d,rfl⟩:=four (l:=l) (by simpa using h4);rw[Qe];simp only[af,aY,ao,aH,bh,cy,bg,ct,yl];cases hr:Ck (a,b,c,d,());(·exact⟨_,_,rfl,λh=>by cases h⟩);·exact⟨_,_,rfl,λ_=>hr⟩
def afk(id:List UInt8)(l:List Int)(hid:id.length<=1000000)(hl:nf l):∃t,Lb id l=ae t/\t.length<=1002000:=by have h1:=GJ l hl.1 hl.2;have h2:=aiJ l hl.1 hl.2;rw[adQ,aJ (by simp[bj];omega),h1,af,aJ (by simp[bj];omega)];exact⟨_,rfl,by simp;omega⟩
def TC(d:Int):∃t,nU d=ae t/\t.length<=20:=by
 by_cases h:iF d 0 36524=ar;·obtain⟨t,h1,-,-,-,h2⟩:=Ry.anO d (cS.1 h);exact⟨t,h1,h2⟩
 ·rw[Jt,Yz d (by simpa using h)];exact⟨[],rfl,by simp⟩
def aeB(x:aM.ty)(hx:x.1.length<=1000000):∃t,ED x=ae t/\(t≠ []->mU x=ar):=by
 rw[T4,CR x (by omega)];cases h:mU x;·exact⟨[],rfl,λh=>absurd rfl h⟩
 ·have h9:=h;simp only[mU,aj,cS]at h9
  obtain⟨t,e,ht⟩:=afk x.1 [x.2.1,x.2.2.1] hx ⟨by simp,λy hy=>by
   simp only[bl,gx,Cm]at hy
   rcases hy with rfl|rfl<;>omega⟩
  obtain⟨u,e2,hu⟩:=TC x.2.2.2.1;simp only[af,aY,ao,aH,e,e2];rw[aJ (by simp[bj];omega),aJ (by simp[bj];omega)];exact⟨_,rfl,λ_=>trivial⟩
def aeb(x:aK.ty)(hx:x.1.length<=1000000)(hy:x.2.1.length<=1000000):∃t,Es x=ae t/\(t≠ []->iV x=ar):=by
 rw[TU,vd x (by omega) (by omega)];cases h:iV x;·exact⟨[],rfl,λh=>absurd rfl h⟩
 ·have h9:=h;simp only[iV,aj,cS,ax]at h9
  have key:∀a b c:Int,1500<=a->a<=b->b<=2100->1<=c/\c<=1000->nf [a,b,c]:=λa b c q1 q2 q3 q4=>⟨by simp,λy hy=>by
   simp only[bl,gx,Cm]at hy
   rcases hy with rfl|rfl|rfl<;>omega⟩
  obtain⟨t,e,ht⟩:=afk x.2.1 [x.2.2.1,x.2.2.2.1,x.2.2.2.2.1] hy (key _ _ _ h9.2.2.1 h9.2.2.2.1 h9.2.2.2.2.1 h9.2.2.2.2.2);simp only[af,aY,ao,aH,e];rw[aJ (by simp[bj];omega),aJ (by simp[bj];omega)];exact⟨_,rfl,λ_=>trivial⟩
def asM(a b c:Int):∃d e,xU a b c=ae (d,e):=by
 rw[xV];simp only[bx,af];split;·exact⟨_,_,rfl⟩
 split;·exact⟨_,_,rfl⟩
 rename_i h1 h2;have h1:2000<=a/\a<=2099:=by simpa[iF]using h1
 have h2:1<=b/\b<=12:=by simpa[iF]using h2
 obtain⟨y,rfl⟩:∃y:Nat,a=((2000+y:Nat):Int):=⟨(a-2000).toNat,by omega⟩;obtain⟨m,rfl⟩:∃m:Nat,b=(m:Int)+1:=⟨(b-1).toNat,by omega⟩;rw[kD (2000+y) m (by omega) (by omega),af];split;·exact⟨_,_,rfl⟩
 rename_i h3;have h3:1<=c/\c<=iX (2000+y) m:=by simpa[iF]using h3
 have hd:af4 (CG y+Aq (2000+y) m+(c-1)) y m (c-1):=⟨by omega,by omega,by omega,by omega,rfl⟩;have:=GB hd;rw[xV]at this;simp only[bx,af,kD (2000+y) m (by omega) (by omega)]at this;rw[show c-1+1=c by omega]at this;rw[aO,aO,aO]at this;·exact⟨_,_,this⟩
 ·simp[iF];omega
 ·simp[iF];omega
 ·simp[iF];omega
def U3(s:List UInt8)(hs:s.length<=900000):∃d ok,qO s=ae (d,ok):=by
 rw[JE,BL s 45 (by omega),af];split;·exact⟨_,_,rfl⟩
 rename_i h3;have h3:(dN 45 s).length=3:=by simp at h3;omega
 generalize dN 45 s=ws at h3;match ws,h3 with| [a,b,c],_=>(have e1:ag.wrap 1=1:=by decide);(have e2:ag.wrap 2=2:=by decide);(have e3:ag.wrap 3=3:=by decide);(have s0:∀x y z:Int,du s 3 0 [a,b,c] x y z=du s 3 1 [a,b,c] (adJ a).1 y z:=λx y z=>by rw[gf];simp[lX,e1]);(have s1:∀x y z:Int,du s 3 1 [a,b,c] x y z=du s 3 2 [a,b,c] x (adJ b).1 z:=λx y z=>by rw[gf];simp[lX,e2]);(have s2:∀x y z:Int,du s 3 2 [a,b,c] x y z=du s 3 3 [a,b,c] x y (adJ c).1:=λx y z=>by rw[gf];simp[lX,e3]);show∃d ok,du s 3 0 [a,b,c] 0 0 0=ae (d,ok);rw[s0,s1,s2,gf,aO (by decide)];obtain⟨d,e,hd⟩:=asM (adJ a).1 (adJ b).1 (adJ c).1;obtain⟨t,ht,-⟩:=TC d;simp only[hd,ht,af];split;(·exact⟨_,_,rfl⟩);·split<;>exact⟨_,_,rfl⟩
def aee(s:List UInt8)(hs:s.length<=500000):∃(x:aM.ty) (ok:Bool),EA s=ae (x,ok)/\(ok=ar->mU x=ar):=by
 obtain⟨ws,e,h2⟩:=O4 s hs;rw[T2,e,af];split;·exact⟨_,_,rfl,λh=>by cases h⟩
 rename_i h3;have h3:ws.length=3:=by simp at h3;omega
 clear e;match ws,h3 with| [a,b,c],_=>have ha:=h2 a (by simp);have hs0:s≠ []:=λe=>ha.2 (zA.1 (by have:=ha.1;rw[e]at this;simpa using this));obtain⟨l,k1,q1,hn⟩:=uF b (by have:=(h2 b (by simp)).1;omega);obtain⟨d,k2,q2⟩:=U3 c (by have:=(h2 c (by simp)).1;omega);(have c1:(1:Int)<((([a,b,c]:List (List UInt8)).length:Nat):Int):=by simp);(have c2:(2:Int)<((([a,b,c]:List (List UInt8)).length:Nat):Int):=by simp);simp only[c1,c2,aB,aC,bg,ct,af,q1,q2];split;(·exact⟨_,_,rfl,λh=>by cases h⟩);split;(·exact⟨_,_,rfl,λh=>by cases h⟩);split;(·exact⟨_,_,rfl,λh=>by cases h⟩);rename_i h5;(have h5:l.length=2:=by simp at h5;omega);match l,h5 with| [m,t],_=>obtain⟨u,hu,hv⟩:=aeB (a,m,t,d,()) (show a.length<=1000000 by omega);rw[NQ];(have c3:(0:Int)<((([a,b,c]:List (List UInt8)).length:Nat):Int):=by simp);(have c4:(0:Int)<((([m,t]:List Int).length:Nat):Int):=by simp);(have c5:(1:Int)<((([m,t]:List Int).length:Nat):Int):=by simp);simp only[c3,c4,c5,aB,aC,bg,ct,af,hu];split;(·exact⟨_,_,rfl,λh=>by cases h⟩);·rename_i h6;(have h6:u=s:=by simpa using h6);exact⟨_,_,rfl,λ_=>hv (h6▸hs0)⟩
def aec(s:List UInt8)(hs:s.length<=500000):∃(x:aK.ty) (ok:Bool),Eu s=ae (x,ok)/\(ok=ar->iV x=ar):=by
 obtain⟨ws,e,h2⟩:=O4 s hs;rw[T0,e,af];split;·exact⟨_,_,rfl,λh=>by cases h⟩
 rename_i h3;have h3:ws.length=3:=by simp at h3;omega
 clear e;match ws,h3 with| [a,b,c],_=>have ha:=h2 a (by simp);have hb:=h2 b (by simp);have hs0:s≠ []:=λe=>ha.2 (zA.1 (by have:=ha.1;rw[e]at this;simpa using this));obtain⟨l,k1,q1,hn⟩:=uF c (by have:=(h2 c (by simp)).1;omega);(have c2:(2:Int)<((([a,b,c]:List (List UInt8)).length:Nat):Int):=by simp);simp only[c2,aB,aC,bg,ct,af,q1];split;(·exact⟨_,_,rfl,λh=>by cases h⟩);split;(·exact⟨_,_,rfl,λh=>by cases h⟩);rename_i h5;(have h5:(l.length:Int)=3:=by simpa using h5);obtain⟨m,t,q,rfl⟩:=three h5;obtain⟨u,hu,hv⟩:=aeb (a,b,m,t,q,()) (show a.length<=1000000 by omega) (show b.length<=1000000 by omega);rw[NP];(have c3:(0:Int)<((([a,b,c]:List (List UInt8)).length:Nat):Int):=by simp);(have c6:(1:Int)<((([a,b,c]:List (List UInt8)).length:Nat):Int):=by simp);(have c4:(0:Int)<((([m,t,q]:List Int).length:Nat):Int):=by simp);(have c5:(1:Int)<((([m,t,q]:List Int).length:Nat):Int):=by simp);(have c7:(2:Int)<((([m,t,q]:List Int).length:Nat):Int):=by simp);simp only[c3,c4,c5,c6,c7,aB,aC,bg,ct,af,hu];split;(·exact⟨_,_,rfl,λh=>by cases h⟩);·rename_i h6;(have h6:u=s:=by simpa using h6);exact⟨_,_,rfl,λ_=>hv (h6▸hs0)⟩
def ach:∀(k:Nat) (v:List (List UInt8)) (i:Nat) (r:List (List Int)),i+k=v.length->v.length<=1000000->(∀w,w∈v->w.length<=900000)->r.length<=10->(∀x,x∈r->x.length<=64)->∃p ok,rN v v.length i r=ae (p,ok)/\(ok=ar->fD p=ar)
 |0,v,i,r,hk,hl,hv,hr,hx=>by
  rw[Bm,aO (by simp;omega),aA,fN r (by omega) λx h=>by have:=hx x h;omega]
  cases h:fD r
  ·exact⟨_,_,rfl,λh=>by cases h⟩
  ·exact⟨_,_,rfl,λ_=>h⟩
 |k+1,v,i,r,hk,hl,hv,hr,hx=>by
  have hi:i<v.length:=by omega
  have hlt:(i:Int)<(v.length:Int):=by omega
  obtain⟨l,ok,q1,hn⟩:=uF v[i] (hv _ (bc hi))
  rw[Bm]
  simp only[hlt,aB,aC,aI,aE,ay hi,af,q1,aA,fY (show i<4611686018427387904 by omega)]
  split
  ·exact⟨_,_,rfl,λh=>by cases h⟩
  split
  ·exact⟨_,_,rfl,λh=>by cases h⟩
  rename_i h3
  have h64:r.length≠10:=λe=>h3 (by rw[e];rfl)
  rw[aJ (bL (show r.length+1<lim by rw[lM];omega))]
  refine ach k v (i+1) _ (by omega) hl hv (by simp;omega) λx h=> ?_
  rcases aU.1 h with h|h
  ·exact hx x h
  ·rw[aX.1 h];exact hn.1
def aed(s:List UInt8)(hs:s.length<=500000):∃p ok,Ew s=ae (p,ok)/\(ok=ar->fD p=ar):=by have hb:=DU (c:=47) s;rw[T1,BL s 47 (by omega)];exact ach (dN 47 s).length (dN 47 s) 0 [] (by omega) (by omega) (λw hw=>by have:=hb.2.2 w hw;omega) (by simp) λ_ h=>by cases h
open Pa (Pw)
def avz{α:Type}{ok:α->Bool}{id:α->List UInt8}{xs:List α}{x:α}(h:eZ ok id ai xs=ar)(hx:ok x=ar)(i:Nat)(h1:∀b,b∈xs.take i->id b<id x)(h2:∀b,b∈xs.drop i->id x<id b):eZ ok id ai (xs.take i++ [x]++xs.drop i)=ar:=by
 obtain⟨q1,q2,-⟩:=Pw.1 h;refine Pw.2 ⟨λy hy=> ?_,?_,λ_ h=>by cases h⟩
 ·rcases aU.1 hy with hy|hy
  ·(rcases aU.1 hy with hy|hy);(·exact q1 y (fo hy));·rw[aX.1 hy];exact hx
  ·exact q1 y (cA hy)
 ·rw[dJ,ib];refine⟨q2.sublist (apD _ _),?_,λa ha b hb=> ?_⟩;·rw[jO,ic];exact⟨h2,q2.sublist (XU _ _)⟩
  ·rw[jO]at hb;(rcases bl.1 hb with rfl|hb);(·exact h1 a ha);·exact KA (h1 a ha) (h2 b hb)
def PH{α:Type}{ok:α->Bool}{id:α->List UInt8}{xs:List α}{x:α}{m:Int}(hl:xs.length<=1000)(h:eZ ok id ai xs=ar)(hx:ok x=ar)(P0 P1 P2 P3:Int->Option (List α×Int×Unit)) (e0:∀v,P0 v=if ah (v<(xs.length:Int))then if ah (0<=v)&&ah (v<(xs.length:Int))then(xs[v.toNat]?).bind λy=>if cN (id y) (id x)then P0 (ag.wrap (v+1))else P1 v else ai else P1 v) (e1:∀v,P1 v=if ah (v<(xs.length:Int))then if ah (0<=v)&&ah (v<(xs.length:Int))then(xs[v.toNat]?).bind λy=>if(id y==id x)then ae (xs.take xs.length,4,())else P2 v else ai else P2 v) (e2:∀v,P2 v=if ah ((xs.length:Int)>=m)then ae (xs.take xs.length,5,())else P3 v) (e3:∀i:Nat,i<=xs.length->P3 i=ae (xs.take i++ [x]++xs.drop i,0,())): ∃ys c,P0 0=ae (ys,c,())/\(c=0->eZ ok id ai ys=ar/\(ys.length:Int)<=m):=by
 have q2:=(Pw.1 h).2.1;have p2:∀i:Nat,i<=xs.length->(∀b,b∈xs.take i->id b<id x)->(∀b,b∈xs.drop i->id x<id b)->∃ys c,P2 i=ae (ys,c,())/\(c=0->eZ ok id ai ys=ar/\(ys.length:Int)<=m):=λi hi a1 a2=>by rw[e2];by_cases c:(xs.length:Int)>=m;(·rw[aJ (bL c)];exact⟨_,5,rfl,λh=>by cases h⟩);·rw[aO (by simpa using c),e3 i hi];exact⟨_,0,rfl,λ_=>⟨avz h hx i a1 a2,by simp;omega⟩⟩
 have p1:∀i:Nat,i<=xs.length->(∀b,b∈xs.take i->id b<id x)->(∀hi:i<xs.length,¬id xs[i]<id x)->∃ys c,P1 i=ae (ys,c,())/\(c=0->eZ ok id ai ys=ar/\(ys.length:Int)<=m):=λi hi a1 a2=>by rw[e1];by_cases c:i<xs.length;(·(have hlt:(i:Int)<(xs.length:Int):=by omega);simp only[hlt,aB,aC,bM,aI,aE,ay c,af];by_cases c2:(id xs[i]==id x)=ar;(·rw[aJ c2];exact⟨_,4,rfl,λh=>by cases h⟩);·rw[aO c2];(have hlt2:id x<id xs[i]:=by(rcases amb.1 (List.not_lt.1 (a2 c))with q|q);(·exact q);·exact absurd (b9.2 q.symm) c2);refine p2 i hi a1 λb hb=> ?_;have hd:=q2.sublist (XU i xs);rw[bf c]at hb hd;(rcases bl.1 hb with rfl|hb);(·exact hlt2);·exact KA hlt2 ((ic.1 hd).1 b hb));·(have hlt:¬(i:Int)<(xs.length:Int):=by omega);simp only[hlt,aW,ao,aH];exact p2 i hi a1 λb hb=>by rw[bb (by omega)]at hb;cases hb
 have p0:∀(n i:Nat),i+n=xs.length->(∀b,b∈xs.take i->id b<id x)->∃ys c,P0 i=ae (ys,c,())/\(c=0->eZ ok id ai ys=ar/\(ys.length:Int)<=m):=by intro n;induction n with|zero=>intro i hn a1;rw[e0,aO (by simp;omega)];exact p1 i (by omega) a1 λhc=>by omega|succ n ih=>intro i hn a1;(have hi:i<xs.length:=by omega);(have hlt:(i:Int)<(xs.length:Int):=by omega);rw[e0];simp only[hlt,aB,aC,bM,aI,aE,ay hi,af,C8,ax,fY (show i<4611686018427387904 by omega)];by_cases c:id xs[i]<id x;(·rw[aJ c];refine ih (i+1) (by omega) λb hb=> ?_;rw[Jg,ay hi]at hb;(rcases aU.1 hb with hb|hb);(·exact a1 b hb);·simp at hb;rw[hb];exact c);·rw[aO c];exact p1 i (by omega) a1 λ_=>c
 exact p0 xs.length 0 (by omega) λb hb=>by simp at hb
def ajc{xs:List aM.ty}(h:nN xs=ar){x:aM.ty}(hx:mU x=ar):∃ys c,gB xs (x.1,x.2.1,x.2.2.1,x.2.2.2.1,()) 12 ()=ae (ys,c,())/\(c=0->nN ys=ar):=by
 rw[nN,aj,ax]at h;have hl:xs.length<=1000:=by omega
 obtain⟨ys,c,q1,q2⟩:=PH (id:=λy:aM.ty=>y.1) (m:=12) hl h.1 hx (λv=>ec xs.length 12 v xs x.1 x.2.1 x.2.2.1 x.2.2.2.1) (λv=>ef xs.length 12 v xs x.1 x.2.1 x.2.2.1 x.2.2.2.1) (λv=>eh xs.length 12 v xs x.1 x.2.1 x.2.2.1 x.2.2.2.1) (λv=>fO xs.length v xs x.1 x.2.1 x.2.2.1 x.2.2.2.1)
  (λv=>by rw[oc];simp only[Hf,af]) (λv=>by rw[od];simp only[Hf,af]) (λv=>oe _ _ _ _ _ _ _ _) (λi hi=>by
    have hle:(i:Int)<=(xs.length:Int):=by omega
    have hlim:xs.length+1<1099511627776:=by omega
    have e1:([(x.1,x.2.1,x.2.2.1,x.2.2.2.1,())]:List aM.ty)=[x]:=rfl
    rw[og,aJ (by simp),e1,qH]
    simp only[fB,aI,hle,hlim,aB,bM,aC,aE,af,aA])
 refine⟨ys,c,by rw[p8];exact q1,λhc=> ?_⟩;rw[nN,aj,ax];exact q2 hc
def aog{xs:List aN.ty}(h:qe xs=ar){x:aN.ty}(hx:HH x=ar):∃ys c,hJ xs (x.1,x.2.1,x.2.2.1,()) 8 ()=ae (ys,c,())/\(c=0->qe ys=ar):=by
 rw[qe,aj,ax]at h;have hl:xs.length<=1000:=by omega
 obtain⟨ys,c,q1,q2⟩:=PH (id:=λy:aN.ty=>y.1) (m:=8) hl h.1 hx (λv=>eT xs.length 8 v xs x.1 x.2.1 x.2.2.1) (λv=>eU xs.length 8 v xs x.1 x.2.1 x.2.2.1) (λv=>eV xs.length 8 v xs x.1 x.2.1 x.2.2.1) (λv=>gp xs.length v xs x.1 x.2.1 x.2.2.1)
  (λv=>by rw[pt];simp only[Hg,af]) (λv=>by rw[pw];simp only[Hg,af]) (λv=>px _ _ _ _ _ _ _) (λi hi=>by
    have hle:(i:Int)<=(xs.length:Int):=by omega
    have hlim:xs.length+1<1099511627776:=by omega
    have e1:([(x.1,x.2.1,x.2.2.1,())]:List aN.ty)=[x]:=rfl
    rw[py,aJ (by simp),e1,uI]
    simp only[fB,aI,hle,hlim,aB,bM,aC,aE,af,aA])
 refine⟨ys,c,by rw[q7];exact q1,λhc=> ?_⟩;rw[qe,aj,ax];exact q2 hc
def aoe{xs:List aM.ty}(h:w9 xs=ar){x:aM.ty}(hx:MO x=ar):∃ys c,gY xs (x.1,x.2.1,x.2.2.1,x.2.2.2.1,()) 8 ()=ae (ys,c,())/\(c=0->w9 ys=ar):=by
 rw[w9,aj,ax]at h;have hl:xs.length<=1000:=by omega
 obtain⟨ys,c,q1,q2⟩:=PH (id:=λy:aM.ty=>y.1) (m:=8) hl h.1 hx (λv=>eL xs.length 8 v xs x.1 x.2.1 x.2.2.1 x.2.2.2.1) (λv=>eM xs.length 8 v xs x.1 x.2.1 x.2.2.1 x.2.2.2.1) (λv=>eN xs.length 8 v xs x.1 x.2.1 x.2.2.1 x.2.2.2.1) (λv=>gm xs.length v xs x.1 x.2.1 x.2.2.1 x.2.2.2.1)
  (λv=>by rw[pf];simp only[Hh,af]) (λv=>by rw[pg];simp only[Hh,af]) (λv=>ph _ _ _ _ _ _ _ _) (λi hi=>by
    have hle:(i:Int)<=(xs.length:Int):=by omega
    have hlim:xs.length+1<1099511627776:=by omega
    have e1:([(x.1,x.2.1,x.2.2.1,x.2.2.2.1,())]:List aM.ty)=[x]:=rfl
    rw[pj,aJ (by simp),e1,uG]
    simp only[fB,aI,hle,hlim,aB,bM,aC,aE,af,aA])
 refine⟨ys,c,by rw[qY];exact q1,λhc=> ?_⟩;rw[w9,aj,ax];exact q2 hc
def aof{xs:List bO.ty}(h:nX xs=ar){x:bO.ty}(hx:Aw x=ar):∃ys c,gZ xs (x.1,x.2.1,x.2.2.1,x.2.2.2.1,x.2.2.2.2.1,()) 8 ()=ae (ys,c,())/\(c=0->nX ys=ar):=by
 rw[nX,aj,ax]at h;have hl:xs.length<=1000:=by omega
 obtain⟨ys,c,q1,q2⟩:=PH (id:=λy:bO.ty=>y.1) (m:=8) hl h.1 hx (λv=>eO xs.length 8 v xs x.1 x.2.1 x.2.2.1 x.2.2.2.1 x.2.2.2.2.1) (λv=>eP xs.length 8 v xs x.1 x.2.1 x.2.2.1 x.2.2.2.1 x.2.2.2.2.1) (λv=>eQ xs.length 8 v xs x.1 x.2.1 x.2.2.1 x.2.2.2.1 x.2.2.2.2.1) (λv=>gn xs.length v xs x.1 x.2.1 x.2.2.1 x.2.2.2.1 x.2.2.2.2.1)
  (λv=>by rw[pk];simp only[Hi,af]) (λv=>by rw[pn];simp only[Hi,af]) (λv=>po _ _ _ _ _ _ _ _ _) (λi hi=>by
    have hle:(i:Int)<=(xs.length:Int):=by omega
    have hlim:xs.length+1<1099511627776:=by omega
    have e1:([(x.1,x.2.1,x.2.2.1,x.2.2.2.1,x.2.2.2.2.1,())]:List bO.ty)=[x]:=rfl
    rw[pr,aJ (by simp),e1,uH]
    simp only[fB,aI,hle,hlim,aB,bM,aC,aE,af,aA])
 refine⟨ys,c,by rw[qZ];exact q1,λhc=> ?_⟩;rw[nX,aj,ax];exact q2 hc
def ali{xs:List aN.ty}(h:jz xs=ar){x:aN.ty}(hx:wZ x=ar):∃ys c,gF xs (x.1,x.2.1,x.2.2.1,()) 10 ()=ae (ys,c,())/\(c=0->jz ys=ar):=by
 rw[jz,aj,ax]at h;have hl:xs.length<=1000:=by omega
 obtain⟨ys,c,q1,q2⟩:=PH (id:=λy:aN.ty=>y.1) (m:=10) hl h.1 hx (λv=>eB xs.length 10 v xs x.1 x.2.1 x.2.2.1) (λv=>eD xs.length 10 v xs x.1 x.2.1 x.2.2.1) (λv=>eE xs.length 10 v xs x.1 x.2.1 x.2.2.1) (λv=>fW xs.length v xs x.1 x.2.1 x.2.2.1)
  (λv=>by rw[oT];simp only[Hj,af]) (λv=>by rw[oU];simp only[Hj,af]) (λv=>oV _ _ _ _ _ _ _) (λi hi=>by
    have hle:(i:Int)<=(xs.length:Int):=by omega
    have hlim:xs.length+1<1099511627776:=by omega
    have e1:([(x.1,x.2.1,x.2.2.1,())]:List aN.ty)=[x]:=rfl
    rw[oW,aJ (by simp),e1,sb]
    simp only[fB,aI,hle,hlim,aB,bM,aC,aE,af,aA])
 refine⟨ys,c,by rw[qx];exact q1,λhc=> ?_⟩;rw[jz,aj,ax];exact q2 hc
def alj{xs:List aM.ty}(h:nO xs=ar){x:aM.ty}(hx:vz x=ar):∃ys c,gG xs (x.1,x.2.1,x.2.2.1,x.2.2.2.1,()) 8 ()=ae (ys,c,())/\(c=0->nO ys=ar):=by
 rw[nO,aj,ax]at h;have hl:xs.length<=1000:=by omega
 obtain⟨ys,c,q1,q2⟩:=PH (id:=λy:aM.ty=>y.1) (m:=8) hl h.1 hx (λv=>eF xs.length 8 v xs x.1 x.2.1 x.2.2.1 x.2.2.2.1) (λv=>eG xs.length 8 v xs x.1 x.2.1 x.2.2.1 x.2.2.2.1) (λv=>eH xs.length 8 v xs x.1 x.2.1 x.2.2.1 x.2.2.2.1) (λv=>fX xs.length v xs x.1 x.2.1 x.2.2.1 x.2.2.2.1)
  (λv=>by rw[oX];simp only[Hk,af]) (λv=>by rw[oY];simp only[Hk,af]) (λv=>oZ _ _ _ _ _ _ _ _) (λi hi=>by
    have hle:(i:Int)<=(xs.length:Int):=by omega
    have hlim:xs.length+1<1099511627776:=by omega
    have e1:([(x.1,x.2.1,x.2.2.1,x.2.2.2.1,())]:List aM.ty)=[x]:=rfl
    rw[o3,aJ (by simp),e1,se]
    simp only[fB,aI,hle,hlim,aB,bM,aC,aE,af,aA])
 refine⟨ys,c,by rw[qy];exact q1,λhc=> ?_⟩;rw[nO,aj,ax];exact q2 hc
def cO{x:cD.ty}:kW x=ar↔nN x.1=ar/\qe x.2.1=ar/\fD x.2.2.1=ar/\Ck (x.2.2.2.1,x.2.2.2.2.1,x.2.2.2.2.2.1,x.2.2.2.2.2.2.1,())=ar/\w9 x.2.2.2.2.2.2.2.1=ar/\nX x.2.2.2.2.2.2.2.2.1=ar/\jz x.2.2.2.2.2.2.2.2.2.1=ar/\nO x.2.2.2.2.2.2.2.2.2.2.1=ar/\lr x.2.2.2.2.2.2.2.2.2.2.2.1=ar:=by simp only[kW,aj]
def vR{s:List UInt8}(h:eK s=ar):s.length<=10:=(akK h).2
def Ki{x:cD.ty}(h:kW x=ar):Jo x:=by
 obtain⟨h1,h2,h3,-,h5,h6,h7,h8,h9⟩:=cO.1 h;have g1:=Vk h1;have g2:=SA h2;have g5:=ala h5;have g6:=LL h6;have g7:=Ho h7;have g8:=Pq h8;have g9:=US h9;simp only[nN,qe,w9,nX,jz,nO,lr,aj,ax]at h1 h2 h5 h6 h7 h8 h9;simp only[mU,HH,MO,wZ,vz,iV,aj]at g1 g2 g5 g7 g8 g9;have hp:=(Pl.nL h3);obtain⟨p1,c,p2,p3⟩:=hp;have nm:∀{s:List UInt8},eK s=ar->s.length<=1048576:=λh=>by have:=vR h;omega
 refine⟨⟨by omega,λy hy=>nm (g1 y hy).1⟩,⟨by omega,λy hy=>nm (g2 y hy).1⟩,⟨by omega,λy hy=>by have:=(p3 y hy).1;omega⟩,⟨by omega,λy hy=>nm (g5 y hy).1⟩,⟨by omega,λy hy=>nm ?_⟩,⟨by omega,λy hy=>nm (g7 y hy).1⟩,⟨by omega,λy hy=>nm (g8 y hy).1⟩,by omega,λy hy=>⟨nm (g9 y hy).1,nm (g9 y hy).2.1⟩⟩;have:=g6 y hy;simp only[Aw,HF,aj]at this;exact this.1
def D3(f:cD.ty->List UInt8->Option (Bool×Int×cD.ty)):Prop:=∀d s,kW d=ar->s.length<=400->∃ok c d',f d s=ae (ok,c,d')/\(c=0->kW d'=ar)
def alA:D3 Li:=λd s h hs=>by obtain⟨x,ok,e,hx⟩:=aee s (by omega);obtain⟨h1,h2,h3,h4,h5,h6,h7,h8,h9⟩:=cO.1 h;rw[YN,e,af];cases ok with|false=>simp only[ao,aH,aA];exact⟨_,_,_,rfl,λ_=>h⟩|true=>obtain⟨ys,c,q1,q2⟩:=ajc h1 (hx rfl);have q1:=q1;simp only[aC,aB,q1,af,aA];exact⟨_,_,_,rfl,λhc=>cO.2 ⟨q2 hc,h2,h3,h4,h5,h6,h7,h8,h9⟩⟩
def arq:D3 Lj:=λd s h hs=>by obtain⟨x,ok,e,hx⟩:=ajh s (by omega);obtain⟨h1,h2,h3,h4,h5,h6,h7,h8,h9⟩:=cO.1 h;rw[YO,e,af];cases ok with|false=>simp only[ao,aH,aA];exact⟨_,_,_,rfl,λ_=>h⟩|true=>obtain⟨ys,c,q1,q2⟩:=aog h2 (hx rfl);have q1:=q1;simp only[aC,aB,q1,af,aA];exact⟨_,_,_,rfl,λhc=>cO.2 ⟨h1,q2 hc,h3,h4,h5,h6,h7,h8,h9⟩⟩
def aro:D3 Lm:=λd s h hs=>by obtain⟨x,ok,e,hx⟩:=ajf s (by omega);obtain⟨h1,h2,h3,h4,h5,h6,h7,h8,h9⟩:=cO.1 h;rw[YR,e,af];cases ok with|false=>simp only[ao,aH,aA];exact⟨_,_,_,rfl,λ_=>h⟩|true=>obtain⟨ys,c,q1,q2⟩:=aoe h5 (hx rfl);have q1:=q1;simp only[aC,aB,q1,af,aA];exact⟨_,_,_,rfl,λhc=>cO.2 ⟨h1,h2,h3,h4,q2 hc,h6,h7,h8,h9⟩⟩
def arp:D3 Ln:=λd s h hs=>by obtain⟨x,ok,e,hx⟩:=ajg s (by omega);obtain⟨h1,h2,h3,h4,h5,h6,h7,h8,h9⟩:=cO.1 h;rw[YS,e,af];cases ok with|false=>simp only[ao,aH,aA];exact⟨_,_,_,rfl,λ_=>h⟩|true=>obtain⟨ys,c,q1,q2⟩:=aof h6 (hx rfl);have q1:=q1;simp only[aC,aB,q1,af,aA];exact⟨_,_,_,rfl,λhc=>cO.2 ⟨h1,h2,h3,h4,h5,q2 hc,h7,h8,h9⟩⟩
def aoH:D3 Lp:=λd s h hs=>by obtain⟨x,ok,e,hx⟩:=ag2 s (by omega);obtain⟨h1,h2,h3,h4,h5,h6,h7,h8,h9⟩:=cO.1 h;rw[YT,e,af];cases ok with|false=>simp only[ao,aH,aA];exact⟨_,_,_,rfl,λ_=>h⟩|true=>obtain⟨ys,c,q1,q2⟩:=ali h7 (hx rfl);have q1:=q1;simp only[aC,aB,q1,af,aA];exact⟨_,_,_,rfl,λhc=>cO.2 ⟨h1,h2,h3,h4,h5,h6,q2 hc,h8,h9⟩⟩
def aoI:D3 Lq:=λd s h hs=>by obtain⟨x,ok,e,hx⟩:=ag4 s (by omega);obtain⟨h1,h2,h3,h4,h5,h6,h7,h8,h9⟩:=cO.1 h;rw[YU,e,af];cases ok with|false=>simp only[ao,aH,aA];exact⟨_,_,_,rfl,λ_=>h⟩|true=>obtain⟨ys,c,q1,q2⟩:=alj h8 (hx rfl);have q1:=q1;simp only[aC,aB,q1,af,aA];exact⟨_,_,_,rfl,λhc=>cO.2 ⟨h1,h2,h3,h4,h5,h6,h7,q2 hc,h9⟩⟩
def alC:D3 Lk:=λd s h hs=>by obtain⟨x,ok,e,hx⟩:=aed s (by omega);obtain⟨h1,h2,h3,h4,h5,h6,h7,h8,h9⟩:=cO.1 h;rw[YP,e,af];cases ok with|false=>simp only[ao,aH,aA];exact⟨_,_,_,rfl,λ_=>h⟩|true=>simp only[aC,aA];exact⟨_,_,_,rfl,λhc=>cO.2 ⟨h1,h2,hx rfl,h4,h5,h6,h7,h8,h9⟩⟩
def aoJ:D3 Ll:=λd s h hs=>by obtain⟨x,ok,e,hx⟩:=ag3 s (by omega);obtain⟨h1,h2,h3,h4,h5,h6,h7,h8,h9⟩:=cO.1 h;rw[YQ,e,af];cases ok with|false=>simp only[ao,aH,aA];exact⟨_,_,_,rfl,λ_=>h⟩|true=>simp only[aC,aA];exact⟨_,_,_,rfl,λhc=>cO.2 ⟨h1,h2,h3,hx rfl,h5,h6,h7,h8,h9⟩⟩
def UT{xs:List aK.ty}(h:lr xs=ar):xs.length<=20/\Pa.aay xs:=by have hp:=Pa.w8.1 h;refine⟨by have:=hp.few;omega,λx hx=> ?_⟩;have g:=Pa.amz (hp.ok x hx);exact⟨by have:=vR g.i;omega,by have:=vR g.k;omega⟩
def alB:D3 Lr:=λd s h hs=>by obtain⟨x,ok,e,hx⟩:=aec s (by omega);obtain⟨h1,h2,h3,h4,h5,h6,h7,h8,h9⟩:=cO.1 h;rw[YV,e,af];cases ok with|false=>simp only[fF,aC,aA];exact⟨_,_,_,rfl,λ_=>h⟩|true=>have g:=Pa.amz (hx rfl);obtain⟨k1,k2⟩:=UT h9;obtain⟨l,c,q1,q2⟩:=Pa.avh k1 k2 (x:=x) ⟨by have:=vR g.i;omega,by have:=vR g.k;omega⟩;have q1:AO d.2.2.2.2.2.2.2.2.2.2.2.1 (x.1,x.2.1,x.2.2.1,x.2.2.2.1,x.2.2.2.2.1,())=ae (l,c):=q1;simp only[aY,ao,aH,q1,af,aA];by_cases c0:c=0;(·subst c0;rw[aJ (by rfl)];refine⟨_,_,_,rfl,λ_=>cO.2 ⟨h1,h2,h3,h4,h5,h6,h7,h8,?_⟩⟩;(rcases q2 with q|q);(·exact absurd rfl q.1);·exact Pa.w8.2 q.2.2.1);·rw[aO (by simpa using c0)];exact⟨_,_,_,rfl,λhc=>absurd hc c0⟩
def rE(ls:List (List UInt8)):Prop:=ls.length<=1000/\∀l,l∈ls->l.length<=1000000
def akm(ls:List (List UInt8)):Prop:=∀l r,ls=l::r->l.take 6≠ [101,114,114,111,114,32]
def Gq(n:Nat)(a:b6.ty):Prop:=cP (α:=Int) a.1=n/\nf a.2.1
def xx(n:Nat)(f:cD.ty->b6.ty->Option (List (List UInt8)×Int×cD.ty)):Prop:=
 ∀d a,kW d=ar->Gq n a->∃ls c d',f d a=ae (ls,c,d')/\(c=0->kW d'=ar/\rE ls/\(d'=d\/akm ls))
def xJ{n:Nat}{f:cD.ty->b6.ty->Option (List (List UInt8)×Int)}(h:∀d a,kW d=ar->Gq n a->∃ls c,f d a=ae (ls,c)/\(c=0->rE ls)):xx n (vJ f):=λd a hd ha=>by
 obtain⟨ls,c,e,q⟩:=h d a hd ha;have e2:vJ f d a=ae (ls,c,d):=by rw[vJ,e];rfl
 exact⟨ls,c,d,e2,λhc=>⟨hd,q hc,.inl rfl⟩⟩
def xm{l:List Int}(h:nf l)(c:Int):lR l c=ae ([akU l],c):=by rw[Wj,GJ l h.1 h.2,af,xj];simp
def Ke{l:List Int}(h:nf l):rE [akU l]:=⟨by simp,λx hx=>by rw[aX.1 hx];have:=aiJ l h.1 h.2;omega⟩
def qU{n:Int}(h: -1000000000000<=n/\n<=1000000000000)(c:Int):nl n c=ae ([bG n],c):=by rw[RY,gQ n (by omega),af,xj];simp
def aag{n:Int}(h: -1000000000000<=n/\n<=1000000000000):rE [bG n]:=⟨by simp,λx hx=>by rw[aX.1 hx];have:=tm n h;omega⟩
def Few.nums{l:List Int}(h:Few l):nf l:=⟨by have:=h.1;omega,λx hx=>by have:=h.2 x hx;omega⟩
def LH{a:b6.ty}(h:Gq 1 a):∃x:Int,a.1=[x]:=by obtain⟨h1,-⟩:=h;match a,h1 with|([x],_),_=>exact⟨x,rfl⟩
def Vp{a:b6.ty}(h:Gq 2 a):∃x y:Int,a.1=[x,y]:=by obtain⟨h1,-⟩:=h;match a,h1 with|([x,y],_),_=>exact⟨x,y,rfl⟩
def alE{a:b6.ty}(h:Gq 3 a):∃x y z:Int,a.1=[x,y,z]:=by obtain⟨h1,-⟩:=h;match a,h1 with|([x,y,z],_),_=>exact⟨x,y,z,rfl⟩
def asD:xx 1 (vJ H9):=xJ λd a hd ha=>by obtain⟨x,hx⟩:=LH ha;obtain⟨-,-,-,-,h5,-⟩:=cO.1 hd;have hs:=(Ki hd).2.2.2.1;have h8:=h5;simp only[w9,aj,ax]at h8;obtain⟨r,c,q1,-,q3⟩:=avu h5 (by omega) hs.2 a.2.1 x;rw[VW,hx];simp only[bg,af,q3,xm q1.nums,aA];exact⟨_,_,rfl,λ_=>Ke q1.nums⟩
def apR:xx 2 (vJ Eh):=xJ λd a hd ha=>by
 obtain⟨x,y,hx⟩:=Vp ha;obtain⟨-,-,h3,-⟩:=cO.1 hd;rw[TN,hx];simp only[bg,ct,af];by_cases hc:iF x 1 10000=ar/\iF y 1 2000=ar
 ·have b1:=cS.1 hc.1;have b2:=cS.1 hc.2;rw[Pl.TX _ h3 x y b1 b2];have hf:=Pl.Sx h3;have hs:=Pl.PK d.2.2.1.flatten hf.2;have hb:=Pl.amI (s:=Pl.QL d.2.2.1.flatten) (c:=x) (d:=y) (by omega) b1 b2;have hr:=U1 (a:=Pl.QL d.2.2.1.flatten*x*y) (b:=10000) (m:=900000000000) (by omega) (by omega);have hn: -1000000000000<=Pl.afi d.2.2.1 x y/\Pl.afi d.2.2.1 x y<=1000000000000:=by unfold Pl.afi;omega
  simp only[af,qU hn,aA];exact⟨_,_,rfl,λ_=>aag hn⟩
 ·have e:yc d.2.2.1 x y=ae (0,2):=by rw[GM,fN _ (Pl.Kf h3).1 (Pl.Kf h3).2,h3,Pl.NZ];(have:(iF x 1 10000&&iF y 1 2000)=aw:=by cases h1:iF x 1 10000<;>cases h2:iF y 1 2000<;>simp_all);rw[af,af,this];rfl
  simp only[e,af,qU (n:=0) (by omega),aA];exact⟨_,_,rfl,λh=>by cases h⟩
def agO{k:Nat}(h:k<=60):∃t,Ia (k:Int)=ae t/\t.length<=1000000:=by
 have hm:(k:Int).tmod 12=((k%12:Nat):Int):=by rw[mH (by omega)];omega
 have hd:(k:Int).tdiv 12=((k/12:Nat):Int):=by rw[zj (by omega)];omega
 have hl:k%12<(([[99],[99,35],[100],[100,35],[101],[102],[102,35],[103],[103,35],[97],[97,35],[98]]:List (List UInt8))).length:=by show k%12<12;omega
 have hi:=akM (k/12) (by omega);have hn:=agP (k%12) (by omega);rw[VX,bx,show iF (k:Int) 0 60=ar from cS.2 (by omega),hm,hd,fR (n:=((k/12:Nat):Int)) (by omega) (by omega),gQ _ (by omega),agy _ _ hl];rw[ay hl,eJ]at hn;generalize (([[99],[99,35],[100],[100,35],[101],[102],[102,35],[103],[103,35],[97],[97,35],[98]]:List (List UInt8)))[k%12]=a at hn⊢;generalize bG ((k/12:Nat):Int)=b at hi⊢;have hs:a.length+b.length<=bj:=by rw[DV];omega
 simp only[af,aY,ao,aH,hs,aB,aC];exact⟨_,rfl,by simp;omega⟩
def apS:xx 1 (vJ Ei):=xJ λd a hd ha=>by
 obtain⟨x,hx⟩:=LH ha;rw[TO,hx];simp only[bg,af];have key:∃k:Nat,∃e v:Int,k<=60/\Bk x=ae ((k:Int),v,e):=by by_cases hr:iF x 1000 100000=ar;(·obtain⟨c,hc,-,q⟩:=aa7 x (cS.1 hr);exact⟨c,_,_,hc,q⟩);·exact⟨0,2,0,by omega,YC x (by simpa using hr)⟩
 obtain⟨k,e,v,hk,q⟩:=key;obtain⟨t,ht,hl⟩:=agO hk;simp only[q,af,ht,xj,aA];exact⟨_,_,rfl,λ_=>⟨by simp,λl hm=>by rw[aX.1 hm];exact hl⟩⟩
def asX(P:Nat->Bool)(n:Nat)(h:n<=12):Few (idx P n):=⟨by have:=aab P n;omega,λx hx=>by have:=aqv P n x hx;omega⟩
def asC:xx 2 (vJ H8):=xJ λd a hd ha=>by
 obtain⟨x,y,hx⟩:=Vp ha;obtain⟨h1,-⟩:=cO.1 hd;have hs:=(Ki hd).1;have h12:=h1;simp only[nN,aj,ax]at h12;have key:∃l c,Few l/\Af d.1 x a.2.2.1 y=ae (l,c):=by rw[Qf,CS _ (by omega) hs.2,h1,EL,AU,EL];simp only[bx,af,aY,ao,aH];split;(·exact⟨_,_,Few.nil,rfl⟩);rename_i q1;split;(·exact⟨_,_,Few.nil,rfl⟩);rename_i q2;split;(·exact⟨_,_,Few.nil,rfl⟩);rw[KS];exact⟨_,0,asX _ _ (by omega),Ry.acq x a.2.2.1 y d.1 (by omega) (λj h=>Vk h1 _ (bc h)) (cS.1 (by simpa using q1)) (cS.1 (by simpa using q2)) d.1.length 0 (by omega)⟩
 obtain⟨l,c,q1,q2⟩:=key;rw[VV,hx];simp only[bg,ct,af,q2,xm q1.nums,aA];exact⟨_,_,rfl,λ_=>Ke q1.nums⟩
def apU:xx 2 (vJ El):=xJ λd a hd ha=>by
 obtain⟨x,y,hx⟩:=Vp ha;obtain⟨-,-,-,h4,-⟩:=cO.1 hd;have hn:=abD.1 h4;have key:∃n c:Int,(0<=n/\n<=200)/\KU (d.2.2.2.1,d.2.2.2.2.1,d.2.2.2.2.2.1,d.2.2.2.2.2.2.1,()) x y=ae (n,c):=by rw[YH,yl,h4,Wi];simp only[bx,af,aY,ao,aH];split;(·exact⟨0,2,by omega,rfl⟩);split;(·exact⟨0,2,by omega,rfl⟩);rename_i q2;rw[RI];obtain⟨n,e,q,r⟩:=Sh.afG x y d.2.2.2.1 d.2.2.2.2.1 d.2.2.2.2.2.1 d.2.2.2.2.2.2.1 hn.2.1 hn.2.2.1 hn.2.2.2 (cS.1 (by simpa using q2)) 201 0 d.2.2.2.2.2.2.1 (by omega) (by omega) (.inl rfl);exact⟨n,e,by omega,q⟩
 obtain⟨n,c,q1,q2⟩:=key;rw[TQ,hx];simp only[bg,ct,af,q2,qU (n:=n) (by omega),aA];exact⟨_,_,rfl,λ_=>aag (by omega)⟩
def apX:xx 1 (vJ En):=xJ λd a hd ha=>by
 obtain⟨x,hx⟩:=LH ha;obtain⟨-,-,-,-,-,-,h7,-⟩:=cO.1 hd;have h10:=h7;simp only[jz,aj,ax]at h10;have g:=Ho h7;simp only[wZ,aj]at g;obtain⟨ks,e,q1,q2,q3⟩:=Wo.at5 d.2.2.2.2.2.2.2.2.2.1 x ⟨by omega,λy hy=>by have:=vR (g y hy).1;unfold Wo.akn;omega⟩;have hk:nf ks:=by by_cases he:e=0;(·rw[(q2 he).2];exact⟨by have:=aab (Wo.aiM d.2.2.2.2.2.2.2.2.2.1 x) 61;omega,λy hy=>by have:=aqv _ _ y hy;omega⟩);·rw[q3 he];exact⟨by simp,λ_ h=>by cases h⟩
 rw[TS,hx];simp only[bg,af,q1,xm hk,aA];exact⟨_,_,rfl,λ_=>Ke hk⟩
def ahW:xx 1 (vJ xX):=xJ λd a hd ha=>by
 obtain⟨x,hx⟩:=LH ha;obtain⟨-,-,-,-,-,-,-,h8,-⟩:=cO.1 hd;have h10:=h8;simp only[nO,aj,ax]at h10;have g:=Pq h8;simp only[vz,aj]at g;obtain⟨f,e,q1,q2,q3⟩:=Be.aqo d.2.2.2.2.2.2.2.2.2.2.1 x ⟨by omega,λy hy=>by have:=vR (g y hy).1;unfold Be.aw6;omega⟩ 6 0 (by omega) (.inl rfl);have hf: -1000000000000<=f/\f<=1000000000000:=by by_cases he:e=0;(·have:=q2 he;omega);·have:=q3 he;omega
 have q1:wR d.2.2.2.2.2.2.2.2.2.2.1 x=ae (f,e):=by rw[MX];exact q1
 rw[NK,hx];simp only[bg,af,q1,qU hf,aA];exact⟨_,_,rfl,λ_=>aag hf⟩
def apQ:xx 0 (vJ Eg):=xJ λd a hd ha=>by rw[TM,NG];simp only[af,aA];exact⟨_,_,rfl,λ_=>by unfold rE;decide⟩
def afv(ps:List bO.ty)(hp:nX ps=ar)(hl:ps.length<=8)(x:Int)(v:List Int)(z:Int)(nm:List UInt8):∀(k i:Nat),i+k=ps.length->∃ls c,rJ ps ps.length i [x] v z nm=ae (ls,c)/\(c=0->rE ls)
 |0,i,hk=>⟨[],3,by rw[Bi,aO (by simp;omega)],λh=>by cases h⟩
 |k+1,i,hk=>by
  have hi:i<ps.length:=by omega
  have hlt:(i:Int)<(ps.length:Int):=by omega
  have hq:=LL hp _ (bc hi)
  rw[Bi]
  simp only[hlt,aB,aC,aI,aE,ay hi,af,bg,fY (show i<4611686018427387904 by omega)]
  split
  ·have hid:ps[i].1.length<=10:=by
    have:=hq
    simp only[Aw,HF,aj]at this
    exact vR this.1
   have e:tX ps[i] x=_:=Qb ps[i].1 ps[i].2.1 ps[i].2.2.1 ps[i].2.2.2.1 ps[i].2.2.2.2.1 x (by omega)
   have hq':HF ps[i].1 ps[i].2.1 ps[i].2.2.1 ps[i].2.2.2.1 ps[i].2.2.2.2.1=ar:=hq
   rw[e,aJ hq']
   by_cases hr:iF x 0 40=ar
   ·have hb:=PF.1 hq'
    have hn: -1000000000000<=LK ps[i].2.1 ps[i].2.2.1 ps[i].2.2.2.1 x/\LK ps[i].2.1 ps[i].2.2.1 ps[i].2.2.2.1 x<=1000000000000:=by have:=aci (dry:=ps[i].2.1) (water:=ps[i].2.2.1) (heat:=ps[i].2.2.2.1) (room:=x) (by omega) (by omega) (by omega) (cS.1 hr);omega
    simp only[hr,aC,af,qU hn,aA]
    exact⟨_,_,rfl,λ_=>aag hn⟩
   ·simp only[hr,ao,aH,af,qU (n:=0) (by omega),aA]
    exact⟨_,_,rfl,λh=>by cases h⟩
  ·exact afv ps hp hl x v z nm k (i+1) (by omega)
def apT:xx 1 (vJ Ej):=xJ λd a hd ha=>by obtain⟨x,hx⟩:=LH ha;obtain⟨-,-,-,-,-,h6,-⟩:=cO.1 hd;have h8:=h6;simp only[nX,aj,ax]at h8;rw[TP,hx];exact afv _ h6 (by omega) x _ _ _ _ 0 (c8 _)
def ak9{ls:List (List UInt8)}(h:vU ls=ar):rE ls:=by simp only[vU,aj,ax,aG]at h;refine⟨by omega,λl hl=> ?_⟩;have:=h.1 l hl;simp only[R8,aj,ax]at this;omega
def akq:xx 0 (vJ zY):=xJ λd a hd ha=>by obtain⟨-,-,-,-,-,-,-,-,h9⟩:=cO.1 hd;have hs:=(Ki hd).2.2.2.2.2.2.2;obtain⟨r,c,q1,q2⟩:=Re.agY d.2.2.2.2.2.2.2.2.2.2.2.1 hs.1 hs.2;rw[P7,q1];simp only[af,aA];exact⟨_,_,rfl,λhc=>ak9 (q2 hc).1⟩
def Ba(w:List UInt8)(n:Nat)(hw:w.length<=100)(hn:n<=1048576):∃t,fC w n=ae t/\t.length<=1000:=by have h:=tm (n:Int) (by omega);rw[NJ,aJ (by simp[bj];omega),gQ n (by omega),af,aJ (by simp[bj];omega)];exact⟨_,rfl,by simp;omega⟩
def apV:xx 0 (vJ Em):=xJ λd a hd ha=>by
 have s:=Ki hd;have hv:=GR d s;obtain⟨-,-,-,h4,-⟩:=cO.1 hd;have hn:=(abD.1 h4).1;obtain⟨t1,e1,k1⟩:=Ba [115,116,97,99,107,115] d.1.length (by decide) s.1.1;obtain⟨t2,e2,k2⟩:=Ba [114,105,98,115] d.2.1.length (by decide) s.2.1.1;obtain⟨t3,e3,k3⟩:=Ba [114,111,119,115] d.2.2.1.length (by decide) s.2.2.1.1;obtain⟨t4,e4,k4⟩:=Ba [112,101,103,115] d.2.2.2.2.2.2.2.1.length (by decide) s.2.2.2.1.1;obtain⟨t5,e5,k5⟩:=Ba [112,111,116,115] d.2.2.2.2.2.2.2.2.1.length (by decide) s.2.2.2.2.1.1;obtain⟨t6,e6,k6⟩:=Ba [109,111,100,101,115] d.2.2.2.2.2.2.2.2.2.1.length (by decide) s.2.2.2.2.2.1.1;obtain⟨t7,e7,k7⟩:=Ba [119,111,114,107,115] d.2.2.2.2.2.2.2.2.2.2.1.length (by decide) s.2.2.2.2.2.2.1.1;obtain⟨t8,e8,k8⟩:=Ba [112,97,112,101,114,115] d.2.2.2.2.2.2.2.2.2.2.2.1.length (by decide) s.2.2.2.2.2.2.2.1;have hi:=tm (d.2.2.2.1:Int) (by omega);have key:∃r,BY d=ae (r,0)/\rE r:=by rw[Rv,hv,hd];simp only[af,aY,ao,aH,e1,e2,e3,e4,e5,e6,e7,e8,gQ d.2.2.2.1 (by omega)];rw[aJ (by simp[bj];omega)];refine⟨_,rfl,by simp,λl hl=> ?_⟩;simp only[bl,gx,Cm]at hl;rcases hl with rfl|rfl|rfl|rfl|rfl|rfl|rfl|rfl|rfl<;>first|omega|(simp;omega)
 obtain⟨r,q1,q2⟩:=key;rw[TR,q1];simp only[af,aA];exact⟨_,_,rfl,λ_=>q2⟩
def anx:xx 0 BZ:=λd a hd ha=>by obtain⟨h1,h2,h3,h4,h5,h6,h7,h8,h9⟩:=cO.1 hd;obtain⟨ys,q1,q2⟩:=Pa.asO (Pa.w8.1 h9);rw[Rw,q1];simp only[af,xj,aA];refine⟨_,_,_,rfl,λ_=>⟨cO.2 ⟨h1,h2,h3,h4,h5,h6,h7,h8,Pa.w8.2 q2⟩,by unfold rE;decide,.inr λl r e=> ?_⟩⟩;cases e;decide
def ale{xs:List (List Int)}(h:fD xs=ar):sE xs=ae (Pl.Sw xs)/\(Pl.Sw xs).length<=1000000/\(101:UInt8)∉Pl.Sw xs:=by
 obtain⟨h1,c,hc,h2⟩:=Pl.nL h;refine⟨Pl.TY xs h,?_,?_⟩
 ·have:=abv (m:=1024) (c:=47) (xs.map BE) λx hx=>by obtain⟨r,hr,rfl⟩:=dK.1 hx;exact PB r (by have:=(h2 r hr).1;omega) λy hy=>by have:=(h2 r hr).2 y hy;omega
  rw[aT]at this;unfold Pl.Sw;omega
 ·unfold Pl.Sw;match xs,h1,h2 with|x::r,_,h2=>rw[aP];refine agB (by decide) _ _ λy hy=> ?_;rw[<-aP]at hy;obtain⟨q,hq,rfl⟩:=dK.1 hy;exact aqH (λe=>by have:=(h2 q hq).1;rw[e]at this;simp at this;omega) (by decide) (by decide) (by decide)
def apW:xx 2 xY:=λd a hd ha=>by
 obtain⟨x,y,hx⟩:=Vp ha;obtain⟨h1,h2,h3,h4,h5,h6,h7,h8,h9⟩:=cO.1 hd;have bad:∀e:Int,e≠0->Db d.2.2.1 x y=ae ([],e)->∃ls c d',xY d a=ae (ls,c,d')/\(c=0->kW d'=ar/\rE ls/\(d'=d\/akm ls)):=λe he q=>by(have e2:sE []=ae []:=by rw[GN,fN [] (by simp) (λ_ h=>by cases h)];rfl);rw[GF,hx];simp only[bg,ct,af,q];rw[aO (by simpa using he),Bj,e2];simp only[af,xj,aA];exact⟨_,_,_,rfl,λh=>absurd h he⟩
 have sz:=Pl.Kf h3;by_cases b1:iF x 0 200=ar;rotate_left;·refine bad 2 (by decide) ?_;rw[Cg,fN _ sz.1 sz.2,h3,Pl.KY,show iF x 0 200=aw by simpa using b1];rfl
 by_cases b2:iF y 1 200=ar;rotate_left;·refine bad 2 (by decide) ?_;rw[Cg,fN _ sz.1 sz.2,h3,Pl.KY,Pl.MH,b1,show iF y 1 200=aw by simpa using b2];rfl
 have q:=Pl.YI d.2.2.1 h3 x y (cS.1 b1) (cS.1 b2);have hp:=Pl.arv (cS.1 b1) (cS.1 b2) h3;obtain⟨t1,t2,t3⟩:=ale hp;rw[GF,hx];simp only[bg,ct,af,q];rw[aJ (by rfl),Bj,t1];simp only[af,xj,aA];refine⟨_,_,_,rfl,λ_=>⟨cO.2 ⟨h1,h2,hp,h4,h5,h6,h7,h8,h9⟩,⟨by simp,λl hl=>by rw[aX.1 hl];exact t2⟩,.inr λl r e he=> ?_⟩⟩;cases e;exact t3 (fo (i:=6) (by rw[he];simp))
def apP:xx 1 (vJ Ef):=xJ λd a hd ha=>by
 obtain⟨x,hx⟩:=LH ha;obtain⟨-,-,-,-,-,h6,-⟩:=cO.1 hd;have h8:=h6;simp only[nX,aj,ax]at h8;have hl:=ha.2.1
 obtain⟨g,s,e,q1,q2,q3⟩:=Gl.asT d.2.2.2.2.2.2.2.2.1 a.2.1 x ⟨by omega,λy hy=>by
  have:=LL h6 y hy
  simp only[Aw,HF,aj]at this
  have:=vR this.1
  unfold Gl.apE;omega⟩ (by omega)
 have hk:nf g:=by by_cases he:e=0;(·have hf:=(q2 he).2.2.1;exact⟨by have:=hf.1;omega,λy hy=>by have:=hf.2.1 y hy;omega⟩);·rw[(q3 he).1];exact⟨by simp,λ_ h=>by cases h⟩
 rw[TL,hx];simp only[bg,af,q1,xm hk,aA];exact⟨_,_,rfl,λ_=>Ke hk⟩
def anz:xx 1 (vJ B0):=xJ λd a hd ha=>by
 obtain⟨x,hx⟩:=LH ha;obtain⟨-,-,-,-,-,-,-,-,h9⟩:=cO.1 hd;obtain⟨k1,k2⟩:=UT h9;obtain⟨l,t,e,q1,q2⟩:=Pa.atd k1 k2 x;have hk:nf l:=by(rcases q2 with ⟨-,rfl,-⟩|⟨-,-,B,hB,rfl,-⟩);(·exact⟨by simp,λ_ h=>by cases h⟩);·refine⟨by rw[Pa.Lu];have:=hB.len;omega,λy hy=> ?_⟩;obtain⟨b,hb,rfl⟩:=dK.1 hy;have:=hB.lt b hb;omega
 rw[Rx,hx];simp only[bg,af,q1,xm hk,aA];exact⟨_,_,rfl,λ_=>Ke hk⟩
def atj{S w:Int}{free f:List Int}{k:Nat}(h:Cu.W4 S w free k=ae f):k<=free.length/\f.length<=free.length+1:=by
 unfold Cu.W4 at h;split at h
 ·split at h;·cases h;simp;omega
  ·cases h
 ·split at h;·cases h;simp;omega
  ·cases h
def am0{S:Int}:∀{ps ws free f:List Int},Cu.Fi S free ws ps=ae f->∀k,k∈ps->0<=k/\k<=((free.length+ps.length:Nat):Int)
 | [],ws,free,f,h,k,hk=>by cases hk
 |p::ps,[],free,f,h,k,hk=>by simp[Cu.Fi]at h
 |p::ps,w::ws,free,f,h,k,hk=>by
  rw[Cu.Fi]at h
  split at h
  ·cases h
  ·rename_i hp
   obtain⟨g,e1,e2⟩:=ak.1 h
   have hu:=atj e1
   rcases bl.1 hk with rfl|hk
   ·simp;omega
   ·have:=am0 e2 k hk
    simp;omega
def asB:xx 3 (vJ H7):=xJ λd a hd ha=>by
 obtain⟨x,y,z,hx⟩:=alE ha;obtain⟨-,h2,-⟩:=cO.1 hd;have h8:=h2;simp only[qe,aj,ax]at h8
 obtain⟨p,m,e,q1,q2,q3⟩:=Cu.akC d.2.1 x y z ⟨by omega,λw hw=>by
  have:=SA h2 w hw
  simp only[HH,aj]at this
  have:=vR this.1
  unfold Cu.apH;omega⟩
 have hk:nf p:=by by_cases he:e=0;(·obtain⟨-,-,-,f,l1,l2,-⟩:=q2 he;exact⟨by omega,λw hw=>by have:=am0 l2 w hw;simp at this;omega⟩);·rw[(q3 he).1];exact⟨by simp,λ_ h=>by cases h⟩
 rw[VU,hx];simp only[bg,ct,af,q1,xm hk,aA];exact⟨_,_,rfl,λ_=>Ke hk⟩
def anK(ks:List UInt8):Nat:=(ks.filter (· ==78)).length
def amU:∀(ks:List UInt8) (ws:List (List UInt8)) (a:xH.ty) (n:Nat),ws.length=ks.length->(∀w,w∈ws->w.length<=400)->Gq n a->n+ks.length<=1000->
 ∃r,rdL ot ks ws a=ae r/\∀b,r=ae b->Gq (n+anK ks) b
 | [],[],a,n,_,_,ha,_=>⟨ae a,rfl,λb e=>by cases e;exact ha⟩
 |k::ks,w::ws,a,n,hl,hw,ha,hks=>by
  have hw0:=hw w (by simp)
  have ih:=λa' n' h1 h2=>amU ks ws a' n' (by simpa using hl) (λw hm=>hw w (aL _ hm)) h1 h2
  rw[bh]at hks
  have h1:=ha.1
  have key:∃ok a',ot a (k.toNat:Int) w=ae (ok,a')/\Gq (n+if(k==78)=ar then 1 else 0) a':=by rw[KX];by_cases c1:k=78;(·subst c1;rw[aJ (by decide),CO,af,aJ (bL (show cP (α:=Int) a.1+1<lim by rw[lM];omega))];simp only[aA];exact⟨_,_,rfl,by simp;exact h1,ha.2⟩);·(have c2:((k.toNat:Int)==78)=aw:=by rw[fj];intro e;exact c1 (aaz.1 (by show k.toNat=78;omega)));(have c3:(k==78)=aw:=by simpa using c1);rw[c2,c3];simp only[ao,aH,aA,anr];split;(·obtain⟨l,ok,e,hl⟩:=uF w (by omega);rw[e];exact⟨_,_,rfl,h1,hl⟩);split;(·obtain⟨t,ok,e⟩:=U3 w (by omega);rw[e];exact⟨_,_,rfl,h1,ha.2⟩);·exact⟨_,_,rfl,h1,ha.2⟩
  obtain⟨ok,a',e,ha'⟩:=key
  rw[rdL,e,af]
  cases ok with
  |false=>exact⟨ai,rfl,λb h=>by cases h⟩
  |true=>
   obtain⟨r,q1,q2⟩:=ih a' _ ha' (by split<;>omega)
   refine⟨r,q1,λb hb=> ?_⟩
   have:=q2 b hb
   have e3:n+(if(k==78)=ar then 1 else 0)+anK ks=n+anK (k::ks):=by unfold anK;rw[List.filter_cons];split<;>simp<;>omega
   rwa[e3]at this
 | [],_::_,_,_,h,_,_,_=>by simp at h
 |_::_,[],_,_,h,_,_,_=>by simp at h
def akS{α:Type}{R:α->Prop}{s:List UInt8}{v:α}:∀{l:List (List UInt8×α)},(∀p,p∈l->R p.2)->lk l s=ae v->R v
 | [],_,h=>by cases h
 |p::l,hl,h=>by
  rw[lk]at h
  split at h
  ·cases h;exact hl p (by simp)
  ·exact akS (λq hq=>hl q (aL _ hq)) h
def aoK:∀p,p∈dt.tt->D3 p.2:=λp hp=>by
 simp only[dt,bl,gx,Cm]at hp;rcases hp with rfl|rfl|rfl|rfl|rfl|rfl|rfl|rfl|rfl
 ·exact alA
 ·exact arq
 ·exact alC
 ·exact aoJ
 ·exact aro
 ·exact arp
 ·exact aoH
 ·exact aoI
 ·exact alB
def apY:∀p,p∈dt.ta->xx (anK p.2.1) p.2.2/\p.2.1.length<=100:=λp hp=>by
 simp only[dt,bl,gx,Cm]at hp;rcases hp with rfl|rfl|rfl|rfl|rfl|rfl|rfl|rfl|rfl|rfl|rfl|rfl|rfl|rfl|rfl|rfl
 ·exact⟨asC,by decide⟩
 ·exact⟨asB,by decide⟩
 ·exact⟨apW,by decide⟩
 ·exact⟨apR,by decide⟩
 ·exact⟨apU,by decide⟩
 ·exact⟨asD,by decide⟩
 ·exact⟨apT,by decide⟩
 ·exact⟨apP,by decide⟩
 ·exact⟨apS,by decide⟩
 ·exact⟨apX,by decide⟩
 ·exact⟨ahW,by decide⟩
 ·exact⟨anz,by decide⟩
 ·exact⟨anx,by decide⟩
 ·exact⟨akq,by decide⟩
 ·exact⟨apV,by decide⟩
 ·exact⟨apQ,by decide⟩
def avt{d:cD.ty}{line:List UInt8}(hd:kW d=ar)(hl:line.length<=400):∃ls c is d',exF dt d line=ae (ls,c,is,d')/\(is=ar->c=0->kW d'=ar/\rE ls/\(d'=d\/akm ls)):=by
 have hc:=amm line 32;have e1:dt.cut line [32]=ae (A7 line [32]):=by show strings_Cut line [32]=_;rw[Pb,aJ (by simp;omega)]
 have e2:dt.split line [32]=ae (dN 32 line):=BL line 32 (by omega);have hb:=DU (c:=32) line;have no:∃ls c is d',(ae ([],0,aw,d):Option (List (List UInt8)×Int×Bool×dS.ty))=ae (ls,c,is,d')/\(is=ar->c=0->kW d'=ar/\rE ls/\(d'=d\/akm ls)):=⟨_,_,_,_,rfl,λh=>by cases h⟩;rw[exF,e1,af,aO (by omega)];cases ht:lk dt.tt (A7 line [32]).1 with|some f=>have hf:=akS (R:=D3) aoK ht;simp only;split;(·obtain⟨ok,c,d',q1,q2⟩:=hf d (A7 line [32]).2.1 hd (by omega);have q1:f d (A7 line [32]).2.1=ae (ok,c,d'):=q1;rw[q1];exact⟨_,_,_,_,rfl,λ_ h=>⟨q2 h,by unfold rE;decide,.inr λl r e=>by cases e;decide⟩⟩);·exact no|none=>simp only[e2,af];cases ha:lk dt.ta (A7 line [32]).1 with|none=>exact no|some p=>obtain⟨ks,f⟩:=p;have hf:=akS (R:=λp=>xx (anK p.1) p.2/\p.1.length<=100) apY ha;simp only;split;(·rename_i hln;obtain⟨r,q1,q2⟩:=amU ks (dN 32 line).tail ([],[],0,[],()) 0 (by rw[List.length_tail];omega) (λw hw=>by have:=hb.2.2 w (List.mem_of_mem_tail hw);omega) ⟨rfl,by simp,λ_ h=>by cases h⟩ (by have:=hf.2;omega);have q1:rdL dt.rd ks (dN 32 line).tail ([],[],0,[],())=ae r:=q1;rw[q1,af];cases r with|none=>exact no|some a=>have ha2:=q2 a rfl;rw[c8]at ha2;obtain⟨ls,c,d',z1,z2⟩:=hf.1 d a hd ha2;have z1:f d a=ae (ls,c,d'):=z1;simp only[z1,af];exact⟨_,_,_,_,rfl,λ_ h=>z2 h⟩);·exact no
def acD:∀(k:Nat) (v:List (List UInt8)) (i:Nat) (r:List (List UInt8)),i+k=v.length->rE v->r.length=i->(∀l,l∈r->l.length<=1000000)->(∀(j:Nat) (h:j<r.length),∃h':j<v.length,r[j]=v[j]\/r[j]=[110,111,110,101])->
 ∃s,qR v v.length i r=ae s/\s.length=v.length/\rE s/\∀(j:Nat) (h:j<s.length),∃h':j<v.length,s[j]=v[j]\/s[j]=[110,111,110,101]
 |0,v,i,r,hk,hv,hr,hb,hj=>⟨r,by rw[JQ,aO (by simp;omega),aA],by omega,⟨by have:=hv.1;omega,hb⟩,hj⟩
 |k+1,v,i,r,hk,hv,hr,hb,hj=>by
  have hi:i<v.length:=by omega
  have hlt:(i:Int)<(v.length:Int):=by omega
  have h1:=hv.1
  have hlim:r.length+1<lim:=by rw[lM];omega
  rw[JQ]
  simp only[hlt,aB,aC,aI,aE,ay hi,af,hlim,aA,fY (show i<4611686018427387904 by omega)]
  have go:∀x:List UInt8,x.length<=1000000->(x=v[i]\/x=[110,111,110,101])->∃s,qR v v.length ((i+1:Nat):Int) (r++ [x])=ae s/\s.length=v.length/\rE s/\∀(j:Nat) (h:j<s.length),∃h':j<v.length,s[j]=v[j]\/s[j]=[110,111,110,101]:=λx hx hc=>by refine acD k v (i+1) (r++ [x]) (by omega) hv (by simp;omega) (λl hl=> ?_) λj h=> ?_;(·(rcases aU.1 hl with hl|hl);(·exact hb l hl);·rw[aX.1 hl];exact hx);·by_cases q:j<r.length;(·rw[List.getElem_append_left q];exact hj j q);·(have:j=i:=by simp at h;omega);subst this;refine⟨hi,?_⟩;rw[af5 (by omega)];simpa using hc
  split
  ·exact go _ (by decide) (.inr rfl)
  ·exact go _ (hv.2 _ (bc hi)) (.inl rfl)
def arf{v:List (List UInt8)}(hv:rE v):∃s,RZ v=ae s/\rE s/\s≠ []/\(akm v->akm s):=by
 rw[adR];by_cases h0:v=[];·subst h0;exact⟨_,rfl,by unfold rE;decide,by simp,λ_ l r e=>by cases e;decide⟩
 ·have hp:=Z7.2 h0;rw[aO (by simp;omega)];obtain⟨s,e,q1,q2,q3⟩:=acD v.length v 0 [] (by omega) hv rfl (λ_ h=>by cases h) (λj h=>by simp at h);refine⟨s,e,q2,λe=>by rw[e]at q1;simp at q1;omega,λhm l r es=> ?_⟩;subst es;obtain⟨h',hc⟩:=q3 0 (by simp);cases v with|nil=>exact absurd rfl h0|cons x y=>simp only[akb]at hc;(rcases hc with rfl|rfl);(·exact hm _ _ rfl);·decide
def asI(c:Int):∃t,AP c=ae t/\t.length<=100:=by
 have key:∀l:List (List UInt8),(∀x,x∈l->x.length<=100)->l.length<=100->∃t,DQ c l=ae t/\t.length<=100:=λl hl h100=>by by_cases h:0<=c/\c<(l.length:Int);(·(have h1:c.toNat<l.length:=by omega);(have e:aac c (l.length:Int)=ae ar:=by rw[RU,aJ (bL (show c>=0 from h.1)),bL h.2]);rw[Lc,e];simp only[af,aY,ao,aH,bL h.1,aC,ay h1];exact⟨_,rfl,hl _ (bc h1)⟩);·(have e:aac c (l.length:Int)=ae aw:=by rw[RU];split;(·rename_i h2;(have h2:c>=0:=by simpa using h2);rw[CJ (by omega)]);·rfl);rw[Lc,e];exact⟨[],rfl,by simp⟩
 have:∃l:List (List UInt8),AP c=(DQ c l).bind (λx=>ae x)/\(∀x,x∈l->x.length<=100)/\l.length<=100:=by refine⟨_,VS c,?_,?_⟩<;>decide
 obtain⟨l,e0,h1,h2⟩:=this;obtain⟨t,e,ht⟩:=key l h1 h2;exact⟨t,by rw[e0,e];rfl,ht⟩
def BH{α:Type}(xs:List α)(P0:Int->Option Bool)(t:α->α->Bool)(hl:xs.length<=1048576) (e:∀v,P0 v=if ah (v<(xs.length:Int))then if ah (0<=v)then(xs[v.toNat]?).bind λx1=>if ah (0<=v)then(xs[v.toNat]?).bind λx2=>if(!(t x1 x2))then ae aw else P0 (ag.wrap (v+1))else ai else ai else ae ar) (ht:∀x,t x x=ar):P0 0=ae ar:=by
 have:∀(k i:Nat),i+k=xs.length->P0 i=ae ar:=by intro k;induction k with|zero=>intro i hi;rw[e,aO (by simp;omega)]|succ k ih=>intro i hi;(have h:i<xs.length:=by omega);(have hlt:(i:Int)<(xs.length:Int):=by omega);rw[e];simp only[hlt,aB,aC,aI,aE,ay h,af,ht,aY,ao,aH,fY (show i<4611686018427387904 by omega)];exact ih (i+1) (by omega)
 exact this xs.length 0 (by omega)
def aoy(xs:List aM.ty)(h:xs.length<=1048576):q9 xs xs=ae ar:=by rw[Iy,aO (by simp)];exact BH xs (λv=>jV xs xs xs.length v) _ h (λv=>Di xs xs _ v) λx=>by simp
def atB(xs:List aN.ty)(h:xs.length<=1048576):vj xs xs=ae ar:=by rw[Lg,aO (by simp)];exact BH xs (λv=>lJ xs xs xs.length v) _ h (λv=>Gm xs xs _ v) λx=>by simp
def atz(xs:List aM.ty)(h:xs.length<=1048576):vf xs xs=ae ar:=by rw[Ld,aO (by simp)];exact BH xs (λv=>lH xs xs xs.length v) _ h (λv=>Gj xs xs _ v) λx=>by simp
def atA(xs:List bO.ty)(h:xs.length<=1048576):vg xs xs=ae ar:=by rw[Lf,aO (by simp)];exact BH xs (λv=>lI xs xs xs.length v) _ h (λv=>Gk xs xs _ v) λx=>by simp
def ard(xs:List aN.ty)(h:xs.length<=1048576):sZ xs xs=ae ar:=by rw[JO,aO (by simp)];exact BH xs (λv=>kF xs xs xs.length v) _ h (λv=>EO xs xs _ v) λx=>by simp
def are(xs:List aM.ty)(h:xs.length<=1048576):s9 xs xs=ae ar:=by rw[JP,aO (by simp)];exact BH xs (λv=>kJ xs xs xs.length v) _ h (λv=>EP xs xs _ v) λx=>by simp
def aow(xs:List aK.ty)(h:xs.length<=1048576):q8 xs xs=ae ar:=by rw[Ix,aO (by simp)];exact BH xs (λv=>jU xs xs xs.length v) _ h (λv=>Dh xs xs _ v) λx=>by simp
def XZ:∀(k:Nat) (v:List (List Int)) (i:Nat),i+k=v.length->v.length<=1048576->(∀x,x∈v->x.length<=1048576)->oQ v v.length i (v.take i)=ae v
 |0,v,i,hk,hl,hx=>by
  have:i=v.length:=by omega
  subst this
  rw[CW,aO (by simp)]
  simp
 |k+1,v,i,hk,hl,hx=>by
  have h:i<v.length:=by omega
  have hlt:(i:Int)<(v.length:Int):=by omega
  have hc:=Bt v[i] (by have:=hx _ (bc h);omega)
  have hlim:(v.take i).length+1<lim:=by rw[lM,cQ];omega
  rw[CW]
  simp only[hlt,aB,aC,aI,aE,ay h,af,hc,hlim,aA,fY (show i<4611686018427387904 by omega)]
  have e:v.take i++ [v[i]]=v.take (i+1):=by rw[Jg,ay h];rfl
  rw[e]
  exact XZ k v (i+1) (by omega) hl hx
def ah9(d:cD.ty)(s:Jo d):AT d=ae d:=by
 obtain⟨s1,s2,s3,s4,s5,s6,s7,s8⟩:=s;have c:=XZ d.2.2.1.length d.2.2.1 0 (by omega) s3.1 s3.2;have k:∀n:Nat,n<=1048576->(ah ((0:Int)<=(n:Int))&&ah ((n:Int).toNat<lim))=ar/\ah (0+n<lim)=ar:=λn hn=>by rw[lM];simp;omega
 rw[Wb,Gf,JJ,Wc,JH,JI,Ij,Ik,Ak];have c:oQ d.2.2.1 (cP (α:=List Int) d.2.2.1) 0 []=ae d.2.2.1:=c;simp only[(k _ s1.1).1,(k _ s1.1).2,(k _ s2.1).1,(k _ s2.1).2,(k _ s4.1).1,(k _ s4.1).2,(k _ s5.1).1,(k _ s5.1).2,(k _ s6.1).1,(k _ s6.1).2,(k _ s7.1).1,(k _ s7.1).2,(k _ s8.1).1,(k _ s8.1).2,aC,af,dU,aA,c]
def aty(xs:List Int)(h:xs.length<=1048576):Am xs xs=ae ar:=by rw[Qq,aO (by simp)];exact BH xs (λv=>ow xs xs xs.length v) (λa b=>a==b) h (λv=>Lh xs xs _ v) λx=>by simp
def aox(xs:List (List Int))(hl:xs.length<=1048576)(hx:∀x,x∈xs->x.length<=1048576):cU xs xs ()=ae ar:=by
 rw[gU,aO (by simp)];have:∀(k i:Nat),i+k=xs.length->bY xs xs xs.length i=ae ar:=by intro k;induction k with|zero=>intro i hi;rw[dD,aO (by simp;omega)]|succ k ih=>intro i hi;(have h:i<xs.length:=by omega);(have hlt:(i:Int)<(xs.length:Int):=by omega);rw[dD];simp only[hlt,aB,aC,aI,aE,ay h,af,aty _ (hx _ (bc h)),aY,ao,aH,fY (show i<4611686018427387904 by omega)];exact ih (i+1) (by omega)
 exact this xs.length 0 (by omega)
def ajs(d:cD.ty)(s:Jo d):AR d d=ae ar:=by obtain⟨s1,s2,s3,s4,s5,s6,s7,s8⟩:=s;rw[V4,aoy _ s1.1,atB _ s2.1,aox _ s3.1 s3.2,atz _ s4.1,atA _ s5.1,ard _ s6.1,are _ s7.1,aow _ s8.1];simp
def amp{d:cD.ty}(hd:kW d=ar)(line:List UInt8)(hl:line.length<=1000000000000):∃d' ls c,gW d line=ae (d',ls,c)/\(c=8\/c=0/\kW d'=ar/\rE ls/\ls≠ []/\(d'=d\/akm ls)):=by
 have s:=Ki hd;have hc:=ah9 d s;rw[P6,GR d s,hd,fG];simp only[af,aY,ao,aH];by_cases h4:line.length<=400;rotate_left;·rw[aJ (by simp;omega)];exact⟨_,_,_,rfl,.inl rfl⟩
 rw[aO (by simp;omega),hc];obtain⟨ls,c,is,d',q1,q2⟩:=avt hd h4;have q1:rI d line=ae (ls,c,is,d'):=by rw[NL];exact q1
 have q1:rI (d.1,d.2.1,d.2.2.1,d.2.2.2.1,d.2.2.2.2.1,d.2.2.2.2.2.1,d.2.2.2.2.2.2.1,d.2.2.2.2.2.2.2.1,d.2.2.2.2.2.2.2.2.1,d.2.2.2.2.2.2.2.2.2.1,d.2.2.2.2.2.2.2.2.2.2.1,d.2.2.2.2.2.2.2.2.2.2.2.1,()) line=ae (ls,c,is,d'):=q1;simp only[af,aA,q1];cases is with|false=>exact⟨_,_,_,rfl,.inl rfl⟩|true=>simp only[aY,ao,aH];by_cases c0:c=0;(·obtain⟨z1,z2,z3⟩:=q2 rfl c0;rw[aO (by simp[c0])];obtain⟨t,e,t1,t2,t3⟩:=arf z2;rw[e,af];exact⟨_,_,_,rfl,.inr ⟨rfl,z1,t1,t2,z3.imp id t3⟩⟩);·rw[aJ (by simpa using c0)];obtain⟨t,e,ht⟩:=asI c;simp only[e,af];rw[aJ (by simp[bj];omega)];exact⟨_,_,_,rfl,.inr ⟨rfl,hd,⟨by simp,λl hl=>by rw[aX.1 hl];simp;omega⟩,by simp,.inl rfl⟩⟩
def PZ(ls:List (List UInt8)):List UInt8:=ls.flatMap λl=>l++ [10]
def aih:∀{ls:List (List UInt8)},(∀l,l∈ls->l.length<=1000000)->(PZ ls).length<=1000001*ls.length
 | [],_=>by simp[PZ]
 |l::ls,h=>by
  have h1:=h l (by simp)
  have h2:=aih (ls:=ls) λx hx=>h x (aL _ hx)
  simp only[PZ,cg,aQ,bh,cy]at h2⊢
  omega
def aaZ(v:List (List UInt8))(hv:rE v):∀(k i:Nat) (a:List UInt8),i+k=v.length->a.length<=1000001*i->pZ a v v.length i=ae (a++PZ (v.drop i))
 |0,i,a,hk,ha=>by
  rw[zN,aO (by simp;omega),bb (by omega)]
  simp[PZ]
 |k+1,i,a,hk,ha=>by
  have hi:i<v.length:=by omega
  have hlt:(i:Int)<(v.length:Int):=by omega
  have h1:=hv.1
  have h2:=hv.2 _ (bc hi)
  rw[zN]
  simp only[hlt,aB,aC,aI,aE,ay hi,af,fY (show i<4611686018427387904 by omega)]
  rw[aJ (by simp[bj];omega),aJ (by simp[bj];omega),aaZ v hv k (i+1) _ (by omega) (by simp;omega),bf hi]
  simp only[PZ,cg,dJ]
def aii{v:List (List UInt8)}(hv:rE v):Ci v=ae (PZ v)/\(PZ v).length<=1000001000:=by refine⟨?_,by have:=aih hv.2;have:=hv.1;omega⟩;rw[RX];exact aaZ v hv v.length 0 [] (by omega) (by simp)
noncomputable def Gw:List (List UInt8)->cD.ty->List UInt8->List UInt8
 | [],_,acc=>acc
 |l::ls,d,acc=>match gW d l with
  |some (d',out,c)=>if c=8 then Gw ls d (acc++ [63,10])else Gw ls d' (acc++PZ out)
  |none=>acc
def acA(L:List (List UInt8))(n:Nat)(hn:n<=L.length)(h60:n<=60)(hL:∀l,l∈L->l.length<=1000000000000):∀(k i:Nat) (d:cD.ty) (acc:List UInt8),i+k=n->kW d=ar->acc.length<=2000000000*i->
 qo acc n n i L d.1 d.2.1 d.2.2.1 d.2.2.2.1 d.2.2.2.2.1 d.2.2.2.2.2.1 d.2.2.2.2.2.2.1 d.2.2.2.2.2.2.2.1 d.2.2.2.2.2.2.2.2.1 d.2.2.2.2.2.2.2.2.2.1 d.2.2.2.2.2.2.2.2.2.2.1 d.2.2.2.2.2.2.2.2.2.2.2.1=ae (Gw ((L.take n).drop i) d acc,0)
 |0,i,d,acc,hk,hd,ha=>by
  rw[EB,aO (by simp;omega),bb (by rw[cQ];omega)]
  rfl
 |k+1,i,d,acc,hk,hd,ha=>by
  have hi:i<L.length:=by omega
  have hin:i<n:=by omega
  have hlt:(i:Int)<(n:Int):=by omega
  have hi2:i<(L.take n).length:=by rw[cQ];omega
  obtain⟨d',out,c,q1,q2⟩:=amp hd L[i] (hL _ (bc hi))
  have q1':gW (d.1,d.2.1,d.2.2.1,d.2.2.2.1,d.2.2.2.2.1,d.2.2.2.2.2.1,d.2.2.2.2.2.2.1,d.2.2.2.2.2.2.2.1,d.2.2.2.2.2.2.2.2.1,d.2.2.2.2.2.2.2.2.2.1,d.2.2.2.2.2.2.2.2.2.2.1,d.2.2.2.2.2.2.2.2.2.2.2.1,()) L[i]=ae (d',out,c):=q1
  rw[EB]
  simp only[hlt,aB,bM,aC,aI,aE,ay hi,af,q1',fY (show i<4611686018427387904 by omega)]
  rw[bf hi2,apC,Gw,q1]
  rcases q2 with rfl|⟨rfl,z1,z2,z3,z4⟩
  ·rw[aJ (by decide),aJ (by simp[bj];omega)]
   exact acA L n hn h60 hL k (i+1) d _ (by omega) hd (by simp;omega)
  ·obtain⟨e1,e2⟩:=aii z2
   have h5:acc.length+(PZ out).length<=bj:=by simp only[bj];omega
   have n8:¬(0:Int)=8:=by decide
   have nb:((0:Int) !=0)=aw:=rfl
   simp only[nb,n8,ao,aH,aA,e1,af,bL h5,aC]
   exact acA L n hn h60 hL k (i+1) d' _ (by omega) z1 (by simp;omega)
noncomputable def akY:cD.ty:=([],[],[[30,32],[31,33]],1300,1950,60,110,[],[],[],[],[],())
def amK:kW akY=ar:=by unfold akY;decide
def ai6(t:List UInt8):Nat:=if(dN 10 t).getLast? =ae []then(dN 10 t).length-1 else(dN 10 t).length
def abz(t:List UInt8):List (List UInt8):=(dN 10 t).take (ai6 t)
def alp(t:List UInt8)(ht:t.length<=1000000000):KT t=ae (if ai6 t<=60 then(Gw (abz t) akY [],0)else([],5)):=by
 obtain⟨h1,h2,h3⟩:=DU (c:=10) t;have go:∀n:Nat,n<=(dN 10 t).length->wu n (dN 10 t)=ae (if n<=60 then(Gw ((dN 10 t).take n) akY [],0)else([],5)):=λn hn=>by rw[RH,fG,af];by_cases c:n<=60;(·(have c':(n:Int)<=60:=by omega);rw[aJ c];simp only[bL c',aY,ao,aH,MC,af];have:=acA (dN 10 t) n hn c (λl hl=>by have:=h3 l hl;omega) n 0 akY [] (by omega) amK (by simp);rw[dV]at this;exact this);·(have c':¬(n:Int)<=60:=by omega);rw[aO c];simp only[CJ c',fF,aC]
 have hw:ag.wrap (((dN 10 t).length:Int)-1)=(((dN 10 t).length-1:Nat):Int):=by rw[fR (by omega) (by omega)];omega
 have hlt:(dN 10 t).length-1<(dN 10 t).length:=by omega
 have hlt2:(((dN 10 t).length-1:Nat):Int)<((dN 10 t).length:Int):=by omega
 have hle2:(((dN 10 t).length-1:Nat):Int)<=((dN 10 t).length:Int):=by omega
 rw[YG,BL t 10 (by omega)];simp only[af,hw,aI,hlt2,hle2,aB,bM,aC,aE,ay hlt];have hl:(dN 10 t).getLast? =ae (dN 10 t)[(dN 10 t).length-1]:=by rw[List.getLast?_eq_getElem?,ay hlt]
 unfold abz ai6;rw[hl];by_cases c:(dN 10 t)[(dN 10 t).length-1]=[];·rw[aJ (by simpa using c),go _ (by omega)];simp only[c,aC]
 ·have e:¬ae (dN 10 t)[(dN 10 t).length-1]=ae []:=λh=>c (cq h);rw[aO (by simpa using c),go _ (bm _)];simp only[e,aH]
noncomputable def BB(t got acc:List UInt8)(f i:Int)(d:cD.ty):Option Bool:=iu t got acc f i d.1 d.2.1 d.2.2.1 d.2.2.2.1 d.2.2.2.2.1 d.2.2.2.2.2.1 d.2.2.2.2.2.2.1 d.2.2.2.2.2.2.2.1 d.2.2.2.2.2.2.2.2.1 d.2.2.2.2.2.2.2.2.2.1 d.2.2.2.2.2.2.2.2.2.2.1 d.2.2.2.2.2.2.2.2.2.2.2.1
noncomputable def X8(t got acc:List UInt8)(f i:Int)(d:cD.ty):Option Bool:=kK t got acc f i d.1 d.2.1 d.2.2.1 d.2.2.2.1 d.2.2.2.2.1 d.2.2.2.2.2.1 d.2.2.2.2.2.2.1 d.2.2.2.2.2.2.2.1 d.2.2.2.2.2.2.2.2.1 d.2.2.2.2.2.2.2.2.2.1 d.2.2.2.2.2.2.2.2.2.2.1 d.2.2.2.2.2.2.2.2.2.2.2.1
def aby(t got acc:List UInt8)(f:Nat)(d:cD.ty)(ht:t.length<=1000000000):∀(k i:Nat),i+k<=t.length->(∀(j:Nat) (h:j<t.length),i<=j->j<i+k->t[j]≠10)->BB t got acc f i d=BB t got acc f ((i+k:Nat):Int) d
 |0,i,hk,h=>rfl
 |k+1,i,hk,h=>by
  have hi:i<t.length:=by omega
  have hlt:(i:Int)<(t.length:Int):=by omega
  have hle:(i:Int)<=(t.length:Int):=by omega
  have hne:(((t[i]).toNat:Int) !=10)=ar:=by have:=h i hi (by omega) (by omega);rw[ja];intro e;exact this (aaz.1 (by show(t[i]).toNat=10;omega))
  have ih:=aby t got acc f d ht k (i+1) (by omega) λj hj h1 h2=>h j hj (by omega) (by omega)
  rw[show i+1+k=i+(k+1)by omega]at ih
  rw[<-ih,BB,ka]
  simp only[hlt,hle,aB,aC,aI,aE,ay hi,af,hne,fY (show i<4611686018427387904 by omega)]
  rfl
def aqB(t got:List UInt8)(f i:Int)(d e:cD.ty)(out:List (List UInt8))(ho:rE out):∀(k j:Nat) (acc:List UInt8),j+k=out.length->acc.length<=3000000000000000000+1000001*j->
 rV t got acc f i j d.1 d.2.1 d.2.2.1 d.2.2.2.1 d.2.2.2.2.1 d.2.2.2.2.2.1 d.2.2.2.2.2.2.1 d.2.2.2.2.2.2.2.1 d.2.2.2.2.2.2.2.2.1 d.2.2.2.2.2.2.2.2.2.1 d.2.2.2.2.2.2.2.2.2.2.1 d.2.2.2.2.2.2.2.2.2.2.2.1 e.1 e.2.1 e.2.2.1 e.2.2.2.1 e.2.2.2.2.1 e.2.2.2.2.2.1 e.2.2.2.2.2.2.1 e.2.2.2.2.2.2.2.1 e.2.2.2.2.2.2.2.2.1 e.2.2.2.2.2.2.2.2.2.1 e.2.2.2.2.2.2.2.2.2.2.1 e.2.2.2.2.2.2.2.2.2.2.2.1 out=BB t got (acc++PZ (out.drop j)) f (ag.wrap (i+1)) e
 |0,j,acc,hk,ha=>by
  rw[BD,aO (by simp;omega),bb (by omega)]
  simp only[PZ,List.flatMap_nil,bS]
  rfl
 |k+1,j,acc,hk,ha=>by
  have hj:j<out.length:=by omega
  have hlt:(j:Int)<(out.length:Int):=by omega
  have h1:=ho.1
  have h2:=ho.2 _ (bc hj)
  have b1:out[j].length+ [(10:UInt8)].length<=bj:=by simp only[bj,bh,cy];omega
  have b2:acc.length+(out[j]++ [(10:UInt8)]).length<=bj:=by simp only[bj,aQ,bh,cy];omega
  have ih:=aqB t got f i d e out ho k (j+1) (acc++(out[j]++ [10])) (by omega) (by simp only[aQ,bh,cy];omega)
  rw[BD,bf hj]
  simp only[hlt,aB,aC,bM,aI,aE,ay hj,af,bL b1,bL b2,fY (show j<4611686018427387904 by omega),ih]
  rw[aJ (by simp[bj];omega)]
  simp only[PZ,cg,dJ]
def aiB(t got acc:List UInt8)(f i:Nat)(d:cD.ty)(hd:kW d=ar)(hfi:f<=i)(hi:i<=t.length)(ht:t.length<=1000000000)(ha:acc.length<=2500000000000000000): ∃d' out c,gW d ((t.take i).drop f)=ae (d',out,c)/\(c=8/\X8 t got acc f i d=BB t got (acc++ [63,10]) ((i+1:Nat):Int) ((i+1:Nat):Int) d\/ c=0/\kW d'=ar/\rE out/\X8 t got acc f i d=BB t got (acc++PZ out) ((i+1:Nat):Int) ((i+1:Nat):Int) d'):=by
 obtain⟨d',out,c,q1,q2⟩:=amp hd ((t.take i).drop f) (by rw[dm,cQ];omega);refine⟨d',out,c,q1,?_⟩;have q1':gW (d.1,d.2.1,d.2.2.1,d.2.2.2.1,d.2.2.2.2.1,d.2.2.2.2.2.1,d.2.2.2.2.2.2.1,d.2.2.2.2.2.2.2.1,d.2.2.2.2.2.2.2.2.1,d.2.2.2.2.2.2.2.2.2.1,d.2.2.2.2.2.2.2.2.2.2.1,d.2.2.2.2.2.2.2.2.2.2.2.1,()) ((t.take i).drop f)=ae (d',out,c):=q1;have c1:(f:Int)<=(i:Int):=by omega
 have c2:(i:Int)<=(t.length:Int):=by omega
 have hw:=fY (show i<4611686018427387904 by omega);rcases q2 with rfl|⟨rfl,z1,z2,z3,z4⟩
 ·refine .inl ⟨rfl,?_⟩;rw[X8,BC];simp only[c1,c2,aI,aB,bM,aC,aE,q1',af,hw];rw[aJ (by decide),aJ (by simp[bj];omega)];rfl
 ·refine .inr ⟨rfl,z1,z2,?_⟩;have s':=Ki z1;have hv:yU (d'.1,d'.2.1,d'.2.2.1,d'.2.2.2.1,d'.2.2.2.2.1,d'.2.2.2.2.2.1,d'.2.2.2.2.2.2.1,d'.2.2.2.2.2.2.2.1,d'.2.2.2.2.2.2.2.2.1,d'.2.2.2.2.2.2.2.2.2.1,d'.2.2.2.2.2.2.2.2.2.2.1,d'.2.2.2.2.2.2.2.2.2.2.2.1,())=ae ar:=by rw[<-z1];exact Va d' s'
  have n8:((0:Int)==8)=aw:=rfl;have n0:((0:Int) !=0)=aw:=rfl;have hp:=Z7.2 z3;have hl0:((out.length:Int)==0)=aw:=by rw[fj];omega
  rw[X8,BC];simp only[c1,c2,aI,aB,bM,aC,aE,q1',af,hw,n8,n0,ao,aH,hv,aY,hl0];have e0:(out[0]?)=ae out[0]:=ay hp;have hp':(0:Int)<(out.length:Int):=by omega
  have e3:nI t got acc ((i+1:Nat):Int) i d.1 d.2.1 d.2.2.1 d.2.2.2.1 d.2.2.2.2.1 d.2.2.2.2.2.1 d.2.2.2.2.2.2.1 d.2.2.2.2.2.2.2.1 d.2.2.2.2.2.2.2.2.1 d.2.2.2.2.2.2.2.2.2.1 d.2.2.2.2.2.2.2.2.2.2.1 d.2.2.2.2.2.2.2.2.2.2.2.1 d'.1 d'.2.1 d'.2.2.1 d'.2.2.2.1 d'.2.2.2.2.1 d'.2.2.2.2.2.1 d'.2.2.2.2.2.2.1 d'.2.2.2.2.2.2.2.1 d'.2.2.2.2.2.2.2.2.1 d'.2.2.2.2.2.2.2.2.2.1 d'.2.2.2.2.2.2.2.2.2.2.1 d'.2.2.2.2.2.2.2.2.2.2.2.1 out=BB t got (acc++PZ out) ((i+1:Nat):Int) ((i+1:Nat):Int) d':=by have h4:=aqB t got ((i+1:Nat):Int) i d d' out z2 out.length 0 acc (by omega) (by omega);rw[dV,hw]at h4;rw[Ov];exact h4
  rw[Ou];simp only[hp',aB,aC,e0,af,e3];by_cases c5:(out[0].length:Int)>5;·(have c6:(6:Int)<=(out[0].length:Int):=by omega);simp only[c5,c6,aB,aC];by_cases c7:(out[0].take 6==[101,114,114,111,114,32])=ar;(·rw[aJ c7];(rcases z4 with rfl|hm);(·have hs:AR (d'.1,d'.2.1,d'.2.2.1,d'.2.2.2.1,d'.2.2.2.2.1,d'.2.2.2.2.2.1,d'.2.2.2.2.2.2.1,d'.2.2.2.2.2.2.2.1,d'.2.2.2.2.2.2.2.2.1,d'.2.2.2.2.2.2.2.2.2.1,d'.2.2.2.2.2.2.2.2.2.2.1,d'.2.2.2.2.2.2.2.2.2.2.2.1,()) (d'.1,d'.2.1,d'.2.2.1,d'.2.2.2.1,d'.2.2.2.2.1,d'.2.2.2.2.2.1,d'.2.2.2.2.2.2.1,d'.2.2.2.2.2.2.2.1,d'.2.2.2.2.2.2.2.2.1,d'.2.2.2.2.2.2.2.2.2.1,d'.2.2.2.2.2.2.2.2.2.2.1,d'.2.2.2.2.2.2.2.2.2.2.2.1,())=ae ar:=ajs d' s';simp only[hs,af,aY,ao,aH]);·match out,hp,hm,c7 with|x::r,_,hm,c7=>exact absurd (b9.1 c7) (hm x r rfl));·rw[aO c7]
  ·simp only[c5,aW,ao,aH]
noncomputable def adI(ws:List (List UInt8)):List (List UInt8):=if ws.getLast? =ae []then ws.dropLast else ws
def abx(t got acc:List UInt8)(f:Int)(d:cD.ty):BB t got acc f ((t.length+1:Nat):Int) d=ae (got==acc):=by rw[BB,ka,aO (by simp;omega)]
def aio{d d':cD.ty}{l acc:List UInt8}{ls out:List (List UInt8)}{c:Int}(h:gW d l=ae (d',out,c)):Gw (l::ls) d acc=if c=8 then Gw ls d (acc++ [63,10])else Gw ls d' (acc++PZ out):=by rw[Gw,h]
def as5(t got:List UInt8)(ht:t.length<=1000000000):∀(n:Nat) (rest:List UInt8),rest.length<=n->∀(pre:List UInt8) (d:cD.ty) (acc:List UInt8),t=pre++rest->kW d=ar->acc.length<=2000000000*pre.length-> BB t got acc (pre.length:Int) (pre.length:Int) d=ae (got==Gw (adI (dN 10 rest)) d acc):=by
 intro n rest hn;refine ac4 (c:=10) (M:=λrest ws=>∀(pre:List UInt8) (d:cD.ty) (acc:List UInt8),t=pre++rest->kW d=ar->acc.length<=2000000000*pre.length-> BB t got acc (pre.length:Int) (pre.length:Int) d=ae (got==Gw (adI ws) d acc)) (λa ha pre d acc e hd hb=> ?_) (λa r ha ih pre d acc e hd hb=> ?_) n rest hn
 ·have hl:t.length=pre.length+a.length:=by rw[e,aQ]
  have hs:=aby t got acc pre.length d ht a.length pre.length (by omega) λj hj h1 h2=>by intro h10;apply ha;subst e;rw[af5 h1]at h10;rw[<-h10];exact bc _
  rw[hs,<-hl];have hle:(t.length:Int)<=(t.length:Int):=dH _;have hlt:¬(t.length:Int)<(t.length:Int):=Int.lt_irrefl _;by_cases c:a=[];·(have hp:pre.length=t.length:=by rw[hl,c];simp);have hx:=abx t got acc pre.length d;rw[BB]at hx;rw[BB,ka];rw[hp]at hx⊢;simp only[hle,hlt,aB,aW,aC,ao,aH,lU,fY (show t.length<4611686018427387904 by omega),hx];rw[c];rfl
  ·have hp:0<a.length:=Z7.2 c;(have hne:((pre.length:Int)==(t.length:Int))=aw:=by rw[fj];omega);(have hline:(t.take t.length).drop pre.length=a:=by rw[aA,e,aup]);obtain⟨d',out,c0,q1,q2⟩:=aiB t got acc pre.length t.length d hd (by omega) (bm _) ht (by omega);rw[hline]at q1;(have hcut:adI [a]=[a]:=by unfold adI;rw[aO (by simpa using c)]);rw[BB,ka,hcut,aio q1];simp only[hle,hlt,aB,aW,aC,ao,aH,lU,hne];(rcases q2 with ⟨rfl,q⟩|⟨rfl,-,-,q⟩);(·rw[X8]at q;rw[q,abx,aJ rfl];rfl);·rw[X8]at q;rw[q,abx,aO (by decide)];rfl
 ·have hl:t.length=pre.length+a.length+1+r.length:=by rw[e,aQ,aQ,bh];omega
  have Yx:t[pre.length+a.length]? =ae 10:=by rw[e,<-dJ,<-aQ,dC (bm _),ahT];rfl
  have hs:=aby t got acc pre.length d ht a.length pre.length (by omega) λj hj h1 h2=>by intro h10;apply ha;(have:t[j]? =a[j-pre.length]? :=by rw[e,dC h1,eA (by omega)]);rw[ay hj,h10,ay (show j-pre.length<a.length by omega)]at this;rw[cq this];exact bc _
  rw[hs];have hlt:((pre.length+a.length:Nat):Int)<(t.length:Int):=by omega
  have hle:((pre.length+a.length:Nat):Int)<=(t.length:Int):=by omega
  have hnl:(((pre.length+a.length:Nat):Int)==(t.length:Int))=aw:=by rw[fj];omega
  have h10:((((10:UInt8).toNat:Nat):Int) !=10)=aw:=rfl;have hline:(t.take (pre.length+a.length)).drop pre.length=a:=by rw[e,<-dJ,<-aQ,List.take_left,aup]
  obtain⟨d',out,c0,q1,q2⟩:=aiB t got acc pre.length (pre.length+a.length) d hd (by omega) (by omega) ht (by omega);rw[hline]at q1;have hne:dN 10 r≠ []:=λh=>by have:=(DU (c:=10) r).1;rw[h]at this;simp at this
  have hcut:adI (a::dN 10 r)=a::adI (dN 10 r):=by unfold adI;cases hw:dN 10 r with|nil=>exact absurd hw hne|cons x y=>rw[List.getLast?_cons_cons];split<;>rfl
  have hpre:(pre++a++ [10]).length=pre.length+a.length+1:=by simp;omega
  have go:∀(d2:cD.ty) (acc2:List UInt8),kW d2=ar->acc2.length<=acc.length+2000000000->BB t got acc2 ((pre.length+a.length+1:Nat):Int) ((pre.length+a.length+1:Nat):Int) d2=ae (got==Gw (adI (dN 10 r)) d2 acc2):=λd2 acc2 h2 hb2=>by have:=ih (pre++a++ [10]) d2 acc2 (by rw[e];simp) h2 (by rw[hpre];omega);rwa[hpre]at this
  rw[hcut,aio q1,BB,ka];simp only[hle,hlt,aB,aC,aI,aE,Yx,af,h10,hnl,ao,aH];rcases q2 with ⟨rfl,q⟩|⟨rfl,z1,z2,q⟩
  ·rw[X8]at q;rw[q,go d _ hd (by simp),aJ rfl]
  ·rw[X8]at q;rw[q,go d' _ z1 (by have:=(aii z2).2;simp;omega),aO (by decide)]
def aff(t:List UInt8):abz t=adI (dN 10 t):=by
 unfold abz ai6 adI;split;·rw[List.dropLast_eq_take]
 ·rw[aA]
def akB{code:List Int}{t:List UInt8}(h:uJ code=ae t)(ht:t.length<=1000000000):EX code=ae ar:=by
 rw[Hl,MJ];simp only[af];split;·rfl
 rw[h,af,alp t ht,af];by_cases c:ai6 t<=60;·rw[aJ c,MC];have q:=as5 t (Gw (abz t) akY []) ht t.length t (bm _) [] akY [] rfl amK (by simp);rw[aff,lU,BB]at q;rw[aO (show¬((0:Int) !=0)=ar by decide),aff];exact q
 ·rw[aO c];rfl
def aq9(m:Nat)(hm:m<=100):∀(k i:Nat) (a:List UInt8),i+k=m->a.length<=10*i->∃t,oy a m i=ae t/\t.length<=1000
 |0,i,a,hk,ha=>⟨a,by rw[yT,aO (by simp;omega)],by omega⟩
 |k+1,i,a,hk,ha=>by
  have hlt:(i:Int)<(m:Int):=by omega
  rw[yT]
  simp only[hlt,aB,aC,fY (show i<4611686018427387904 by omega)]
  rw[aJ (by simp[bj];omega)]
  exact aq9 m hm k (i+1) _ (by omega) (by simp;omega)
def ahS:Prop:=∀(s:ba.ty) (c:Int),jP s c->c<=1000000->∃(l:List UInt8) (s':ba.ty),o8 s=ae (l,s')/\jP s' (c+10000)/\l.length<=100000
def ahe(H:ahS):∀(k:Nat) (s:ba.ty) (c:Int) (a:List UInt8),k<=14->jP s c->c+20000*(k:Int)<=1000000->a.length+200000*k<=2800000->∃t,jn a k s.1 s.2.1 s.2.2.1=ae t/\t.length<=1000000000
 |0,s,c,a,hk,hs,hc,ha=>by
  obtain⟨u,s',e,k1⟩:=aqO hs (by omega) 20 (by omega)
  have e:nq (s.1,s.2.1,s.2.2.1,()) 20=ae (u,s'):=e
  rw[yS,aO (by decide),e,af]
  cases u with
  |false=>exact⟨a,rfl,by omega⟩
  |true=>
   obtain⟨m,s2,e2,k2,hm⟩:=ap3 k1 (by omega) [60,61] (by decide) (by decide)
   have e2:rW (s'.1,s'.2.1,s'.2.2.1,()) [60,61]=ae (m,s2):=e2
   simp only[bl,gx,Cm]at hm
   simp only[aC,e2,af]
   obtain⟨n,rfl⟩:∃n:Nat,m=n:=⟨m.toNat,by omega⟩
   obtain⟨t,q1,q2⟩:=aq9 n (by omega) n 0 [] (by omega) (by simp)
   exact⟨t,q1,by omega⟩
 |k+1,s,c,a,hk,hs,hc,ha=>by
  obtain⟨l,s',e,k1,hl⟩:=H s c hs (by omega)
  have e:o8 (s.1,s.2.1,s.2.2.1,())=ae (l,s'):=e
  have hp:((k+1:Nat):Int)>0:=by omega
  have hw:ag.wrap (((k+1:Nat):Int)-1)=(k:Int):=by rw[fR (by omega) (by omega)];omega
  have b1:a.length+l.length<=bj:=by simp only[bj];omega
  rw[yS]
  simp only[bL hp,aC,e,af,bL b1,hw]
  split
  ·rw[aJ (by simp[bj];omega)]
   exact ahe H k s' (c+10000) _ (by omega) k1 (by omega) (by simp;omega)
  ·obtain⟨u,s2,e2,k2⟩:=aqO k1 (by omega) 5 (by omega)
   have e2:nq (s'.1,s'.2.1,s'.2.2.1,()) 5=ae (u,s2):=e2
   rw[e2,af]
   cases u with
   |false=>
    simp only[fF,aC]
    rw[aJ (by simp[bj];omega)]
    exact ahe H k s2 (c+10000+2) _ (by omega) k2 (by omega) (by simp;omega)
   |true=>
    simp only[aY,ao,aH]
    exact ahe H k s2 (c+10000+2) _ (by omega) k2 (by omega) (by simp;omega)
def acB(l:List Int)(hl:nf l):∀(k i:Nat) (a:List UInt8),i+k=l.length->a.length<=20*i->∃t,wJ l a i=ae t/\t.length<=1280
 |0,i,a,hk,ha=>⟨a,by rw[Fq,aO (by simp;omega)],by have:=hl.1;omega⟩
 |k+1,i,a,hk,ha=>by
  have hi:i<l.length:=by omega
  have h64:=hl.1
  have hlt:(i:Int)<(l.length:Int):=by omega
  have hx:=hl.2 _ (bc hi)
  have hd:=Kj l[i] (by omega)
  have hn:=tm l[i] hx
  have go:∀b:List UInt8,b.length<=a.length+1->∃t,wK l b i=ae t/\t.length<=1280:=λb hb=>by(have h5:b.length+(bG l[i]).length<=bj:=by simp only[bj];omega);rw[SE];simp only[aI,aB,aC,aE,ay hi,af,hd,bL h5,fY (show i<4611686018427387904 by omega)];exact acB l hl k (i+1) _ (by omega) (by simp;omega)
  rw[Fq]
  simp only[hlt,aB,aC]
  split
  ·rw[aJ (by simp[bj];omega)]
   exact go _ (by simp)
  ·exact go _ (by omega)
def OW{l:List Int}(hl:nf l):∃t,iJ l=ae t/\t.length<=1280:=by
 rw[ZK];split;·exact⟨_,rfl,by decide⟩
 ·exact acB l hl l.length 0 [] (by omega) (by simp)
def Oy{id:List UInt8}{l:List Int}(hid:id.length<=1000)(hl:nf l):∃t,(if ah (id.length+([32]:List UInt8).length<=bj)then(iJ l).bind λx1=>if ah ((id++ [32]).length+x1.length<=bj)then ae ((id++ [32])++x1)else ai else ai)=ae t/\t.length<=3000:=by
 obtain⟨t,e,ht⟩:=OW hl;have h1:id.length+([32]:List UInt8).length<=bj:=by simp only[bj,bh,cy];omega
 have h2:(id++ [32]).length+t.length<=bj:=by simp only[bj,aQ,bh,cy];omega
 simp only[bL h1,bL h2,aC,e,af];exact⟨_,rfl,by simp;omega⟩
def axA{x:aN.ty}(hid:x.1.length<=1000)(hl:nf [x.2.1,x.2.2.1]):∃t,Dt x=ae t/\t.length<=3000:=by rw[ZQ];exact Oy hid hl
def avZ{x:aM.ty}(hid:x.1.length<=1000)(hl:nf [x.2.1,x.2.2.1,x.2.2.2.1]):∃t,Dw x=ae t/\t.length<=3000:=by rw[ZV];exact Oy hid hl
def av0{x:bO.ty}(hid:x.1.length<=1000)(hl:nf [x.2.1,x.2.2.1,x.2.2.2.1,x.2.2.2.2.1]):∃t,Dy x=ae t/\t.length<=3000:=by rw[ZX];exact Oy hid hl
def av1{x:aN.ty}(hid:x.1.length<=1000)(hl:nf [x.2.1,x.2.2.1]):∃t,DA x=ae t/\t.length<=3000:=by rw[ZY];exact Oy hid hl
def av2{x:aM.ty}(hid:x.1.length<=1000)(hl:nf [x.2.1,x.2.2.1,x.2.2.2.1]):∃t,DC x=ae t/\t.length<=3000:=by rw[Z1];exact Oy hid hl
def ayq(y m:Int)(h1:1<=m)(h2:m<=12):∃n,yZ y m=ae n/\28<=n/\n<=31:=by
 rw[Vd,fR (n:=m-1) (by omega) (by omega)];by_cases hm:m=2
 ·subst hm;rw[aJ (show((2:Int)==2)=ar from rfl)];split;·exact⟨29,rfl,by decide,by decide⟩
  ·exact⟨28,rfl,by decide,by decide⟩
 rw[aO (by simpa using hm)];have h:m=1\/m=3\/m=4\/m=5\/m=6\/m=7\/m=8\/m=9\/m=10\/m=11\/m=12:=by omega
 rcases h with rfl|rfl|rfl|rfl|rfl|rfl|rfl|rfl|rfl|rfl|rfl<;>exact⟨_,rfl,by decide,by decide⟩
def aqh:∀(k:Nat) (d y m:Int),d<=(k:Int)-> -1000000<=d->0<=y->y+(k:Int)<=1000000->1<=m->m<=12->∃a b c,qJ d y m=ae (a,b,c)/\nf [a,b,c]
 |k,d,y,m,hk,h0,hy,hb,h1,h2=>by
  obtain⟨n,e,b1,b2⟩:=ayq y m h1 h2
  rw[SG]
  simp only[e,af]
  split
  ·rename_i hd
   have hd:d>=n:=cd hd
   cases k with
   |zero=>omega
   |succ k=>
    rw[fR (n:=d-n) (by omega) (by omega),fR (n:=m+1) (by omega) (by omega),fR (n:=y+1) (by omega) (by omega)]
    split
    ·exact aqh k (d-n) (y+1) 1 (by omega) (by omega) (by omega) (by omega) (by omega) (by omega)
    ·rename_i hm
     have hm:¬m+1>12:=λq=>hm (bL q)
     exact aqh k (d-n) y (m+1) (by omega) (by omega) (by omega) (by omega) (by omega) (by omega)
  ·rename_i hd
   have hd:¬d>=n:=λq=>hd (bL q)
   refine⟨y,m,_,rfl,by simp,λx hx=> ?_⟩
   rw[fR (n:=d+1) (by omega) (by omega)]at hx
   simp only[bl,gx,Cm]at hx
   rcases hx with rfl|rfl|rfl<;>omega
def axb{a:Int}(h: -1000000000000<=a/\a<=1000000000000):∃t,tw a=ae t/\t.length<=20:=⟨_,Kj a (by omega),by have:=tm a h;omega⟩
def axD{a:Int}(h: -1000000000000<=a/\a<=1000000000000):∃t,HL a=ae t/\t.length<=30:=by
 obtain⟨t,e,ht⟩:=axb h;rw[acL];simp only[e,af];split;·rw[aJ (by simp[bj];omega)];exact⟨_,rfl,by simp;omega⟩
 ·exact⟨_,rfl,by omega⟩
def axy(d:Int)(h0:0<=d)(h1:d<=100000):∃t,LW d=ae t/\t.length<=100:=by obtain⟨a,b,c,e,hn⟩:=aqh d.toNat d 2000 1 (by omega) (by omega) (by omega) (by omega) (by omega) (by omega);obtain⟨t1,e1,g1⟩:=axb (hn.2 a (by simp));obtain⟨t2,e2,g2⟩:=axD (hn.2 b (by simp));obtain⟨t3,e3,g3⟩:=axD (hn.2 c (by simp));rw[ZN,ZM];simp only[e,e1,e2,e3,af];rw[aJ (by simp[bj];omega),aJ (by simp[bj];omega),aJ (by simp[bj];omega),aJ (by simp[bj];omega)];exact⟨_,rfl,by simp;omega⟩
def axz{x:aM.ty}(hid:x.1.length<=1000)(hl:nf [x.2.1,x.2.2.1])(h0:(0:Int)<=x.2.2.2.1)(h1:(x.2.2.2.1:Int)<=100000):∃t,Dr x=ae t/\t.length<=4000:=by obtain⟨t,e,ht⟩:=OW hl;obtain⟨u,e2,hu⟩:=axy _ h0 h1;rw[ZO];simp only[e,e2,af];rw[aJ (by simp[bj];omega),aJ (by simp[bj];omega),aJ (by simp[bj];omega),aJ (by simp[bj];omega)];exact⟨_,rfl,by simp;omega⟩
def av3{x:aK.ty}(hid:x.1.length<=1000)(hm:x.2.1.length<=1000)(hl:nf [x.2.2.1,x.2.2.2.1,x.2.2.2.2.1]):∃t,DE x=ae t/\t.length<=5000:=by obtain⟨t,e,ht⟩:=OW hl;rw[Z2];simp only[e,af];rw[aJ (by simp[bj];omega),aJ (by simp[bj];omega),aJ (by simp[bj];omega),aJ (by simp[bj];omega)];exact⟨_,rfl,by simp;omega⟩
def ajM(v:List (List Int))(hv:v.length<=10)(h:∀l,l∈v->nf l):∀(k i:Nat) (a:List UInt8),i+k=v.length->a.length<=2000*i->∃t,qK v a i=ae t/\t.length<=20000
 |0,i,a,hk,ha=>⟨a,by rw[Fz,aO (by simp;omega)],by omega⟩
 |k+1,i,a,hk,ha=>by
  have hi:i<v.length:=by omega
  have hlt:(i:Int)<(v.length:Int):=by omega
  obtain⟨t,e,ht⟩:=OW (h _ (bc hi))
  have go:∀b:List UInt8,b.length<=a.length+1->∃t,wL v b i=ae t/\t.length<=20000:=λb hb=>by(have h5:b.length+t.length<=bj:=by simp only[bj];omega);rw[SM];simp only[aI,aB,aC,aE,ay hi,af,e,bL h5,fY (show i<4611686018427387904 by omega)];exact ajM v hv h k (i+1) _ (by omega) (by simp;omega)
  rw[Fz]
  simp only[hlt,aB,aC]
  split
  ·rw[aJ (by simp[bj];omega)]
   exact go _ (by simp)
  ·exact go _ (by omega)
def avY{x:oC.ty}(hl:nf [x.1,x.2.1,x.2.2.1,x.2.2.2.1]):∃t,Du x=ae t/\t.length<=3000:=by obtain⟨t,e,ht⟩:=OW hl;rw[ZT,e];exact⟨t,rfl,by omega⟩
def DL(c:Int)(p:Option (List UInt8×ba.ty)):Prop:=∃l s',p=ae (l,s')/\jP s' c/\l.length<=100000
def ax1{c:Int}{p q:Option (List UInt8×ba.ty)}{P:Prop}[Decidable P](h1:DL c p)(h2:DL c q):DL c (if P then p else q):=by split;exact h1;exact h2
def asL{c d:Int}{T t:List UInt8}{s:ba.ty}(hT:T.length<=1000)(ht:t.length<=20000)(hs:jP s c)(hc:c<=d):DL d (if ah (T.length+t.length<=bj)then ae (T++t,s)else ai):=by
 have h:T.length+t.length<=bj:=by simp only[bj];omega
 rw[aJ (bL h)];exact⟨_,_,rfl,hs.up hc,by rw[aQ];omega⟩
def Mkd{X:Type}(draw:ba.ty->List UInt8->Option (X×ba.ty))(text:X->Option (List UInt8)):Prop:=∀s c id,jP s c->c<=100000000->id.length<=1000->∃x s' t,draw s id=ae (x,s')/\jP s' (c+100)/\text x=ae t/\t.length<=20000
def aaV{X:Type}{draw:ba.ty->List UInt8->Option (X×ba.ty)}{text:X->Option (List UInt8)}(H:Mkd draw text){s:ba.ty}{c:Int}(hs:jP s c)(hc:c<=2000000){L:List (List UInt8)}(hL:0<L.length/\L.length<=100/\∀x∈L,x.length<=1000){T:List UInt8}(hT:T.length<=1000):DL (c+9990) ((cB s L).bind λx=>(draw x.2 x.1).bind λy=>(text y.1).bind λz=>if ah (T.length+z.length<=bj)then ae (T++z,y.2)else ai):=by obtain⟨u,s1,e1,k1,hu⟩:=aan hs (by omega) L hL.1 (by omega);obtain⟨x,s2,t,e2,k2,e3,ht⟩:=H s1 (c+2) u k1 (by omega) (hL.2.2 u hu);simp only[e1,e2,e3,af];exact asL hT ht k2 (by omega)
def axa{s:ba.ty}{c:Int}(hs:jP s c)(hc:c<=2000000){L:List (List UInt8)}(hL:0<L.length/\L.length<=100/\∀x∈L,x.length<=1000){T:List UInt8}(hT:T.length<=1000):DL (c+9990) ((cB s L).bind λx=>if ah (T.length+x.1.length<=bj)then ae (T++x.1,x.2)else ai):=by obtain⟨u,s1,e1,k1,hu⟩:=aan hs (by omega) L hL.1 (by omega);have:=hL.2.2 u hu;simp only[e1,af];exact asL hT (by omega) k1 (by omega)
def aw8{s:ba.ty}{c:Int}(hs:jP s c)(hc:c<=2000000){L:List (List UInt8)}(hL:0<L.length/\L.length<=100/\∀x∈L,x.length<=1000):DL (c+9990) ((cB s L).bind λx=>ae (x.1,x.2)):=by obtain⟨u,s1,e1,k1,hu⟩:=aan hs (by omega) L hL.1 (by omega);have:=hL.2.2 u hu;simp only[e1,af];exact⟨_,_,rfl,k1.up (by omega),by omega⟩
def aqL{a b:Int}(h:0<=a/\a<=1000000000/\0<=b/\b<=1000000000):nf [a,b]:=⟨by simp,λx hx=>by
 simp only[bl,gx,Cm]at hx;omega⟩
def aqM{a b c:Int}(h:0<=a/\a<=1000000000/\0<=b/\b<=1000000000)(h3:0<=c/\c<=1000000000):nf [a,b,c]:=⟨by simp,λx hx=>by
 simp only[bl,gx,Cm]at hx;omega⟩
def auF{a b c d:Int}(h:0<=a/\a<=1000000000/\0<=b/\b<=1000000000)(h3:0<=c/\c<=1000000000/\0<=d/\d<=1000000000):nf [a,b,c,d]:=⟨by simp,λx hx=>by
 simp only[bl,gx,Cm]at hx;omega⟩
def mk4:Mkd Cp Dr:=λs c id hs hc hid=>by obtain⟨u1,s1,e1,k1,a1,b1⟩:=fv hs (by omega) 120 (by omega);obtain⟨u2,s2,e2,k2,a2,b2⟩:=fv k1 (by omega) 50 (by omega);obtain⟨u3,s3,e3,k3,a3,b3⟩:=fv k2 (by omega) 900 (by omega);rw[SH];simp only[e1,e2,e3,af,rY];rw[fR (n:=5*u1) (by omega) (by omega),fR (n:=10*u2) (by omega) (by omega),fR (n:=10+10*u2) (by omega) (by omega),fR (n:=8000+u3) (by omega) (by omega)];obtain⟨t,et,ht⟩:=axz (x:=(id,5*u1,10+10*u2,8000+u3,())) hid (show nf [5*u1,10+10*u2]from aqL (by omega)) (show(0:Int)<=8000+u3 by omega) (show 8000+u3<=100000 by omega);exact⟨_,_,t,rfl,k3.up (by omega),et,by omega⟩
def mk6:Mkd Cs Dt:=λs c id hs hc hid=>by obtain⟨u1,s1,e1,k1,a1,b1⟩:=fv hs (by omega) 160 (by omega);obtain⟨u2,s2,e2,k2,a2,b2⟩:=fv k1 (by omega) 20 (by omega);rw[SJ];simp only[e1,e2,af,rY];rw[fR (n:=10*u1) (by omega) (by omega),fR (n:=500+10*u1) (by omega) (by omega),fR (n:=5*u2) (by omega) (by omega),fR (n:=250+5*u2) (by omega) (by omega)];obtain⟨t,et,ht⟩:=axA (x:=(id,500+10*u1,250+5*u2,())) hid (show nf [500+10*u1,250+5*u2]from aqL (by omega));exact⟨_,_,t,rfl,k2.up (by omega),et,by omega⟩
def ays:Mkd Cv Dw:=λs c id hs hc hid=>by obtain⟨u1,s1,e1,k1,a1,b1⟩:=fv hs (by omega) 20 (by omega);obtain⟨u2,s2,e2,k2,a2,b2⟩:=fv k1 (by omega) 40 (by omega);obtain⟨u3,s3,e3,k3,a3,b3⟩:=fv k2 (by omega) 5 (by omega);rw[SO];simp only[e1,e2,e3,af,rY];rw[fR (n:=50+u1) (by omega) (by omega),fR (n:=10*u2) (by omega) (by omega),fR (n:=300+10*u2) (by omega) (by omega),fR (n:=5*u3) (by omega) (by omega),fR (n:=20+5*u3) (by omega) (by omega)];obtain⟨t,et,ht⟩:=avZ (x:=(id,50+u1,300+10*u2,20+5*u3,())) hid (show nf [50+u1,300+10*u2,20+5*u3]from aqM (by omega) (by omega));exact⟨_,_,t,rfl,k3.up (by omega),et,by omega⟩
def ayv:Mkd Cz DC:=λs c id hs hc hid=>by obtain⟨u1,s1,e1,k1,a1,b1⟩:=fv hs (by omega) 8 (by omega);obtain⟨u2,s2,e2,k2,a2,b2⟩:=fv k1 (by omega) 20 (by omega);obtain⟨u3,s3,e3,k3,a3,b3⟩:=fv k2 (by omega) 8 (by omega);rw[SV];simp only[e1,e2,e3,af,rY];rw[fR (n:=1+u1) (by omega) (by omega),fR (n:=u2+(1+u1)) (by omega) (by omega),fR (n:=u2+(1+u1)-1) (by omega) (by omega),fR (n:=u2+(1+u1)-1+u3) (by omega) (by omega),acI,af];obtain⟨t,et,ht⟩:=av2 (x:=(id,1+u1,u2,(if u2+(1+u1)-1+u3<39 then u2+(1+u1)-1+u3 else 39),())) hid (show nf [1+u1,u2,if u2+(1+u1)-1+u3<39 then u2+(1+u1)-1+u3 else 39]from aqM (by omega) (by split<;>omega));exact⟨_,_,t,rfl,k3.up (by omega),et,by omega⟩
def ayw:Mkd CA DE:=λs c id hs hc hid=>by obtain⟨m,s0,e0,k0,hm⟩:=aan hs (by omega) [[97,109,97,116,105],[103,117,97,100,97,103,110,105,110,105],[114,111,99,99,97],[97,109,97,116,105]] (by decide) (by decide);obtain⟨u1,s1,e1,k1,a1,b1⟩:=fv k0 (by omega) 60 (by omega);obtain⟨u2,s2,e2,k2,a2,b2⟩:=fv k1 (by omega) 30 (by omega);obtain⟨u3,s3,e3,k3,a3,b3⟩:=fv k2 (by omega) 20 (by omega);have hm:m.length<=1000:=(show∀x∈([[97,109,97,116,105],[103,117,97,100,97,103,110,105,110,105],[114,111,99,99,97],[97,109,97,116,105]]:List (List UInt8)),x.length<=1000 by decide) m hm;rw[SX];simp only[e0,e1,e2,e3,af,rY];rw[fR (n:=1680+u1) (by omega) (by omega),fR (n:=1680+u1+u2) (by omega) (by omega),fR (n:=1+u3) (by omega) (by omega),fR (n:=50*(1+u3)) (by omega) (by omega)];obtain⟨t,et,ht⟩:=av3 (x:=(id,m,1680+u1,1680+u1+u2,50*(1+u3),())) hid hm (show nf [1680+u1,1680+u1+u2,50*(1+u3)]from aqM (by omega) (by omega));exact⟨_,_,t,rfl,k3.up (by omega),et,by omega⟩
def ayt:Mkd Cw Dy:=λs c id hs hc hid=>by
 obtain⟨u1,s1,e1,k1,a1,b1⟩:=fv hs (by omega) 30 (by omega);obtain⟨u2,s2,e2,k2,a2,b2⟩:=fv k1 (by omega) 60 (by omega);obtain⟨u3,s3,e3,k3,a3,b3⟩:=fv k2 (by omega) 45 (by omega);obtain⟨u4,s4,e4,k4,a4,b4⟩:=fv k3 (by omega) 3 (by omega);obtain⟨u5,s5,e5,k5,a5,b5⟩:=fv k4 (by omega) 30 (by omega);have h:0<=u4*u5/\u4*u5<=1000:=by(have:u4=0\/u4=1\/u4=2:=by omega);rcases this with rfl|rfl|rfl<;>omega
 rw[SQ];simp only[e1,e2,e3,e4,e5,af,rY];rw[fR (n:=10*u1) (by omega) (by omega),fR (n:=20+10*u1) (by omega) (by omega),fR (n:=10*u2) (by omega) (by omega),fR (n:=20+10*u1+10*u2) (by omega) (by omega),fR (n:=40+u3) (by omega) (by omega),fR (n:=u4*u5) (by omega) (by omega)];obtain⟨t,et,ht⟩:=av0 (x:=(id,20+10*u1,20+10*u1+10*u2,40+u3,u4*u5,())) hid (show nf [20+10*u1,20+10*u1+10*u2,40+u3,u4*u5]from auF (by omega) (by omega));exact⟨_,_,t,rfl,k5.up (by omega),et,by omega⟩
def ayu:Mkd Cy DA:=λs c id hs hc hid=>by obtain⟨u1,s1,e1,k1,a1,b1⟩:=fv hs (by omega) 400 (by omega);obtain⟨u2,s2,e2,k2,a2,b2⟩:=fv k1 (by omega) 30 (by omega);rw[SS];simp only[e1,e2,af,rY];rw[fR (n:=10*u1) (by omega) (by omega),fR (n:=1000+10*u1) (by omega) (by omega),fR (n:=1+u2) (by omega) (by omega),fR (n:=5*(1+u2)) (by omega) (by omega)];obtain⟨t,et,ht⟩:=av1 (x:=(id,1000+10*u1,5*(1+u2),())) hid (show nf [1000+10*u1,5*(1+u2)]from aqL (by omega));exact⟨_,_,t,rfl,k2.up (by omega),et,by omega⟩
def aw9{s:ba.ty}{c:Int}(hs:jP s c)(hc:c<=2000000){T:List UInt8}(hT:T.length<=1000):DL (c+9990) ((FA s).bind λy=>(Du y.1).bind λz=>if ah (T.length+z.length<=bj)then ae (T++z,y.2)else ai):=by obtain⟨u1,s1,e1,k1,a1,b1⟩:=fv hs (by omega) 40 (by omega);obtain⟨u2,s2,e2,k2,a2,b2⟩:=fv k1 (by omega) 40 (by omega);obtain⟨u3,s3,e3,k3,a3,b3⟩:=fv k2 (by omega) 50 (by omega);obtain⟨u4,s4,e4,k4,a4,b4⟩:=fv k3 (by omega) 90 (by omega);rw[Vf];simp only[e1,e2,e3,e4,af,rY];rw[fR (n:=5*u1) (by omega) (by omega),fR (n:=1200+5*u1) (by omega) (by omega),fR (n:=5*u2) (by omega) (by omega),fR (n:=1850+5*u2) (by omega) (by omega),fR (n:=40+u3) (by omega) (by omega),fR (n:=60+u4) (by omega) (by omega)];obtain⟨t,et,ht⟩:=avY (x:=(1200+5*u1,1850+5*u2,40+u3,60+u4,())) (show nf [1200+5*u1,1850+5*u2,40+u3,60+u4]from auF (by omega) (by omega));rw[et,af];exact asL hT (by omega) k4 (by omega)
def ai8(a b i K:Nat)(v:List (List Int))(H:∀(s:ba.ty) (c:Int) (r:List Int),jP s c->c+12*K<=3000000->nf r->∃w s',kL a b ((i+1:Nat):Int) s.1 s.2.1 s.2.2.1 (v++ [r])=ae (w,s')/\jP s' (c+12*K)/\w.length<=10/\∀l,l∈w->nf l)(hb:b<=5)(hi:i<=5)(hv:v.length<=10):∀(k j:Nat) (s:ba.ty) (c:Int) (r:List Int),j+k=b->jP s c->c+12*K+2*k<=3000000->r.length=j->nf r->∃w s',rX a b i j s.1 s.2.1 s.2.2.1 v r=ae (w,s')/\jP s' (c+12*K+2*k)/\w.length<=10/\∀l,l∈w->nf l
 |0,j,s,c,r,hj,hs,hc,hr,hn=>by
  obtain⟨w,s',e,k1,k2⟩:=H s c r hs (by omega) hn
  have h0:100<lim:=by decide
  have h1:v.length+1<lim:=by omega
  rw[BJ,aO (by simp;omega),bL h1,aJ rfl,fY (show i<4611686018427387904 by omega),aA,aA]
  exact⟨w,s',e,k1.up (by omega),k2⟩
 |k+1,j,s,c,r,hj,hs,hc,hr,hn=>by
  obtain⟨u,s1,e1,k1,a1,b1⟩:=fv hs (by omega) 20 (by omega)
  have e1:br (s.1,s.2.1,s.2.2.1,()) 20=ae (u,s1):=e1
  have h0:100<lim:=by decide
  have h1:r.length+1<lim:=by omega
  rw[BJ,aJ (by simp;omega),e1,af,bL h1,aJ rfl,fY (show j<4611686018427387904 by omega),aA,fR (n:=20+u) (by omega) (by omega)]
  obtain⟨w,s',e,k2,k3⟩:=ai8 a b i K v H hb hi hv k (j+1) s1 (c+2) (r++ [20+u]) (by omega) k1 (by omega) (by simp;omega) ⟨by simp;omega,λx hx=>by
   rcases aU.1 hx with hx|hx
   ·exact hn.2 x hx
   ·obtain rfl:=aX.1 hx;omega⟩
  exact⟨w,s',e,k2.up (by omega),k3⟩
def ai7(a b:Nat)(ha:a<=5)(hb:b<=5):∀(K i:Nat) (s:ba.ty) (c:Int) (v:List (List Int)),i+K=a->v.length=i->jP s c->c+12*K<=3000000->(∀l,l∈v->nf l)->∃w s',kL a b i s.1 s.2.1 s.2.2.1 v=ae (w,s')/\jP s' (c+12*K)/\w.length<=10/\∀l,l∈w->nf l
 |0,i,s,c,v,hk,hv,hs,hc,hn=>⟨v,s,by rw[BI,aO (by simp;omega),aA],hs.up (by omega),by omega,hn⟩
 |K+1,i,s,c,v,hk,hv,hs,hc,hn=>by
  rw[BI,aJ (by simp;omega)]
  obtain⟨w,s',e,k1,k2⟩:=ai8 a b i K v (λs c r h1 h2 h3=>ai7 a b ha hb K (i+1) s c (v++ [r]) (by omega) (by simp;omega) h1 h2 λl hl=>by
   rcases aU.1 hl with hl|hl
   ·exact hn l hl
   ·obtain rfl:=aX.1 hl;exact h3) hb (by omega) (by omega) b 0 s c [] (by omega) hs (by omega) rfl ⟨by simp,by simp⟩
  exact⟨w,s',e,k1.up (by omega),k2⟩
def avp{s:ba.ty}{c:Int}(hs:jP s c)(hc:c<=2000000){T:List UInt8}(hT:T.length<=1000):DL (c+9990) ((Fy s).bind λy=>(LY y.1).bind λz=>if ah (T.length+z.length<=bj)then ae (T++z,y.2)else ai):=by obtain⟨u1,s1,e1,k1,a1,b1⟩:=fv hs (by omega) 5 (by omega);obtain⟨u2,s2,e2,k2,a2,b2⟩:=fv k1 (by omega) 5 (by omega);rw[Ve];simp only[e1,e2,af,rY];obtain⟨a,rfl⟩:∃a:Nat,u1=a:=⟨u1.toNat,by omega⟩;obtain⟨b,rfl⟩:∃b:Nat,u2=b:=⟨u2.toNat,by omega⟩;rw[fR (n:=1+(a:Int)) (by omega) (by omega),fR (n:=1+(b:Int)) (by omega) (by omega),show 1+(a:Int)=((1+a:Nat):Int)by omega,show 1+(b:Int)=((1+b:Nat):Int)by omega];obtain⟨w,s',e,k3,hw,hn⟩:=ai7 (1+a) (1+b) (by omega) (by omega) (1+a) 0 s2 _ [] (by omega) rfl k2 (by omega) (by simp);have e:kL ((1+a:Nat):Int) ((1+b:Nat):Int) 0 s2.1 s2.2.1 s2.2.2.1 []=ae (w,s'):=e;obtain⟨t,et,ht⟩:=ajM w hw hn w.length 0 [] (by omega) (by simp);have et:qK w [] 0=ae t:=et;rw[e,af,ZR,et,af];exact asL hT ht k3 (by omega)
set_option maxHeartbeats 4000000 in
def aqG:ahS:=λs c hs hc=>by
 obtain⟨u,s1,e1,k1,-⟩:=fv hs (by omega) 19 (by omega);suffices h:DL (c+2+9990) (o8 s)by obtain⟨l,s',h1,h2,h3⟩:=h;exact⟨l,s',h1,h2.up (by omega),h3⟩
 have c1:c+2<=2000000:=by omega
 rw[QK,e1,af];have b:∀L:List (List UInt8),(ah (0<L.length)&&ah (L.length<=100)&&L.all λx=>ah (x.length<=1000))=ar->0<L.length/\L.length<=100/\∀x∈L,x.length<=1000:=λL h=>by simpa[and_assoc]using h
 repeat' first
  |with_reducible refine ax1 ?_ ?_
  |with_reducible exact aaV mk4 k1 c1 (b _ (by decide)) (by decide)
  |with_reducible exact aaV mk6 k1 c1 (b _ (by decide)) (by decide)
  |with_reducible exact aaV ays k1 c1 (b _ (by decide)) (by decide)
  |with_reducible exact aaV ayt k1 c1 (b _ (by decide)) (by decide)
  |with_reducible exact aaV ayu k1 c1 (b _ (by decide)) (by decide)
  |with_reducible exact aaV ayv k1 c1 (b _ (by decide)) (by decide)
  |with_reducible exact aaV ayw k1 c1 (b _ (by decide)) (by decide)
  |with_reducible exact aw9 k1 c1 (by decide)
  |with_reducible exact avp k1 c1 (by decide)
  |with_reducible exact axa k1 c1 (b _ (by decide)) (by decide)
  |with_reducible exact aw8 k1 c1 (b _ (by decide))
  |rw[Ma]
  |rw[Mb]
def asN(code:List Int)(h1:∀x:Int,x∈code->0<=x/\x<=255)(h2:code.length<=1048576):∃t,uJ code=ae t/\t.length<=1000000000:=by obtain⟨s,e,k0⟩:=asS code h1 h2;obtain⟨u,s1,e1,k1,a1,b1⟩:=fv k0 (by omega) 14 (by omega);rw[QG,e,af,e1,af];obtain⟨k,rfl⟩:∃k:Nat,u=k:=⟨u.toNat,by omega⟩;exact ahe aqG k s1 _ [] (by omega) k1 (by omega) (by simp;omega)
theorem laws_FnConsole_true(a0:List Int)(hw:CT.wf (.sl (.one (.int .u8))) a0):EX a0=ae ar:=by
 have h0:=ap8 hw;by_cases h:a0.length<=1048576;·obtain⟨t,e,ht⟩:=asN a0 h0 h;exact akB e ht
 ·rw[Hl,MJ,af,aJ (by simp;omega)]
end Go.Ab.P
