/- The abstract interpreter and its soundness, first part. Conditions: none. -/
import Derived.Calls
import Derived.WalkKit
import Derived.Lib.ConvBytes
import Derived.Lib.LaidTab
import Derived.Lib.ItoaNum
set_option linter.unusedVariables false
set_option linter.unusedSimpArgs false
set_option linter.defProp false
def aF:=@decide_true
def aG:=@decide_eq_true_eq
def aJ:=@if_false
def aK:=@if_true
def aP:=@if_neg
def aQ:=@if_pos
def aX:=@decide_false
def cF:=@decide_eq_true
def cS:=@beq_iff_eq
def dY:=@of_decide_eq_true
def eB:=@beq_self_eq_true
def jK:=@decide_eq_false_iff_not
def lM:=@and_self
def nc:=@beq_eq_false_iff_ne
def pN:=@and_true
def ra:=@ite_self
def wh:=@decide_eq_false
def Ag:=@true_and
def FG:=@or_false
def RL:=@bne_iff_ne
def aCT:=@ne_eq
def aNh:=@dif_pos
open Array renaming ext'->aa7,getElem?_eq_none->qd,getElem?_push_size->DC,length_toList->ai4,range->aAo
open Bool renaming and_eq_true->az,false->aA,not_eq_true'->gj,or_eq_false_iff->so,or_eq_true->mZ,true->aB
open ByteArray renaming ext->YU,mk->pQ,size->aAp
open Decidable renaming decide->ao
open Go renaming Act->alk,Addr->afQ,BinOp->aoY,Calls->fF,IntKind->aLN,Oper->Zp,Operand->ej,Program->bV,TypeDesc->aGN,TypeId->bO,TypeInfo->WJ,Value->aL,World->aU,execOp->gS,run_program->WD,run_underlying->jN,undef->aMw
open Go.Act renaming eval->aa8,put->aCq
open Go.Addr renaming add_lit->Oj
open Go.Array renaming range_zero'->ai5
open Go.Builtin renaming len_->DD,max2->aGG,min2->aGH
open Go.Instr renaming build->aLL,buildSlice->AR,extract->aII,fieldAt->arO,fill->afR,index->alm,indexAt->Je,loadAt->awW,slice->aLM,sliceAt->wS,sliceBound->aC0,sliceBounds->aCr,sureAddr->acQ
open Go.IntKind renaming i64->ak
open Go.Lib renaming pow10Tab->aC2
open Go.Op renaming bytesLess->dB
open Go.Oper renaming upon_value->xw,wp->Jf
open Go.Program renaming cellsOf->aCs
open Go.Result renaming andThen_ok->cZ
open Go.Sem renaming run_bind->eP,run_ite->aGL,run_pure->mg
open Go.Value renaming agg->vt,cells->aoZ,int->fq
open Go.World renaming cell? ->b9,frozen? ->yT
open Int renaming mul_le_mul_of_nonneg_right->gT
open List renaming all_cons->eQ,all_eq_true->bz,all_map->JX,all_nil->Il,any_cons->oy,any_eq_false->LP,append_nil->cD,cons_append->Am,drop_append->On,drop_eq_getElem_cons->ba,drop_eq_nil_of_le->br,drop_zero->cL,eq_nil_of_length_eq_zero->fQ,eq_of_mem_replicate->V2,flatMap_cons->cr,flatten_append->aAw,flatten_cons->WK,foldl_cons->arU,getElem?_append_left->dM,getElem?_append_right->fR,getElem?_cons_zero->aD,getElem?_eq_none->bU,getElem?_eq_some_iff->mC,getElem?_map->cC,getElem?_take->sq,isEmpty_iff->aGo,length->ae,length_append->bg,length_cons->bl,length_take->cO,map->ky,map_append->dP,map_cons->aY,map_map->Ax,mem_append_left->dZ,mem_append_right->bN,mem_cons_of_mem->bm,mem_cons_self->cI,mem_iff_getElem? ->fO,mem_map->dF,mem_of_getElem? ->cq,mem_of_mem_drop->dk,mem_of_mem_take->jO,mem_or_eq_of_mem_set->WE,mem_singleton->aT,nil_append->cJ,nodup_append->dX,nodup_nil->ib,range->Ay,replicate->bK,set_cons_zero->aGT,size_toArray->aqk,take_append->aGp,take_length->bc,take_of_length_le->cH,take_succ_eq_append_getElem->jo,take_zero->LS
open Nat renaming add_assoc->jS,add_mul->V3,le_refl->bx,le_trans->dQ,lt_irrefl->xB,lt_of_lt_of_le->bX,lt_or_ge->bL,min_eq_left->acK,mul_le_mul_right->dh,sub_self->Qu,succ_mul->eK,zero_add->dL,zero_le->jJ
open Ne renaming symm->arY
open Option renaming bind->af,bind_eq_some_iff->aI,bind_some->ag,isSome_iff_exists->iM,map_eq_some_iff->aM,map_some->aS,none->au,some->ai
open Option.some renaming injEq->aC
open Prod.mk renaming injEq->bS
open Pure renaming pure->Rv
open UInt8 renaming ofNat->dW
open _root_ renaming Array->kZ,Bool->aW,ByteArray->nD,False->JW,Inhabited->LM,Int->aw,List->ah,Nat->ax,Option->aq,UInt8->ay,absurd->bG,congrArg->wE
namespace Go.Ab
inductive A where
 |any
 |undef
 |bool (b:aW)
 |int (k:aLN) (n:aw)
 |str (s:ah ay)
 |agg (cs:ah A)
 |sl (z:ax) (xs:ah A)
 |lz (z:ax)
 |cst (v:aL)
 |tok (k z:ax) (xs:ah A)
 |view (r off len:ax)
 |loc (r i c:ax)
 |ptr (cs:ah A) (c:ax)
 |fn (f:ax) (caps:ah A)
 |xv (xs:ah A)
 |own (z:ax) (xs:ah A)
 |iU (z:ax) (xs:ah A)
 |l7 (z:ax) (xs:ah A)
 deriving LM
def A.cells:A->ah A |.agg cs=>cs |a=>[a]
mutual
def A.plain:A->aW |.bool _|.int _ _|.str _=>aB |.agg cs=>A.yx cs |_=>aA
def A.yx:ah A->aW | []=>aB |a::r=>a.plain&&A.yx r
end
structure eO where
 b:aW
 z:ax
 xs:ah A
 deriving LM
structure St where
 t:ax->A
 r:ax->aq eO
def tab(l:ah (ax×A))(i:ax):A:=(l.lookup i).getD .any
def apR(l:ah (ax×eO))(i:ax):aq eO:=l.lookup i
inductive dI where
 |t (i:ax)
 |c (a:A)
 deriving LM
inductive Conv where
 |int (k:aLN)
 |RN
 deriving LM
inductive O where
 |mv (x:dI)
 |asg (x:dI)
 |pick (c a b:dI)
 |alloc (z:ax) (zero:A)
 |box (z:ax) (x:dI)
 |build (zero:ah A) (parts:ah (ax×ax×dI))
 |bsl (z:ax) (zero:A) (n:ax) (parts:ah (ax×dI))
 |ld (n:aq ax) (a:dI)
 |sto (n:ax) (a v:dI)
 |aed (x:dI)
 |bin (op:aoY) (x y:dI)
 |eqb (neq:aW) (x y:dI)
 |un (op:UnOp) (x:dI)
 |conv (k:Conv) (x:dI)
 |fa (off:ax) (x:dI)
 |ia (z:ax) (x i:dI)
 |iaa (len z:ax) (x i:dI)
 |ix (x i:dI)
 |ixa (len z:ax) (n:aq ax) (x i:dI)
 |slc (z:ax) (x:dI) (lo hi:aq dI)
 |atc (x:dI) (lo hi:aq dI)
 |len (x:dI)
 |lens (x:dI)
 |app (z bytes:ax) (s x:dI)
 |max (xs:ah dI)
 |min (xs:ah dI)
 |mks (z bytes:ax) (zero:A) (l c:dI)
 |mkf (f:ax) (caps:ah dI)
 |call (f:dI) (args:ah dI)
 |ext (x:dI) (i:ax)
 deriving LM
structure Op where
 d:aq ax
 w:aW
 o:O
 g:aq (ax×aW)
 av:ah ax
 deriving LM
def Op.W(d:ax)(o:O):Op:=⟨ai d,aB,o,au,[]⟩
def Op.G(d:ax)(o:O)(j:ax)(b:aW):Op:=⟨ai d,aA,o,ai (j,b),[]⟩
inductive C where
 |skip
 |reg (aDL:aW) (ops:ah Op) (fI j5:ah ax)
 |seq (a b:C)
 |cond (c:dI) (a b:C)
 |block (id:ax) (b:C)
 |loop (b:C)
 |exit (id:ax)
 |ret
 |norm (fI j5:ah ax) (b:C)
 |opn (n:ax) (b:C)
 |stop
 deriving LM
inductive Rs where
 |t (i:ax)
 |cell (i:ax) (n:aq ax)
 deriving LM
structure Fn where
 np:ax
 io:ah aW
 res:ah Rs
 own:ah aW
 body:C
 gone:ah ax:=[]
 deriving LM
def dI.v(st:St):dI->A |.t i=>st.t i |.c a=>a
def St.put(st:St)(d:aq ax)(v:A):St:=match d with
 |some d=>{st with t:=λi=>if i=d then v else st.t i}
 |none=>st
def nM(r:ax):A->aW |.view q _ _|.loc q _ _=>q==r |_=>aA
def refs(r:ax):A->aW |.fn _ caps=>caps.any (nM r) |.xv xs=>xs.any (nM r) |.agg xs=>xs.any (nM r) |a=>nM r a
def axQ(k:ax):A->aW |.tok j _ _=>j==k |_=>aA
def St.map(f:A->A)(st:St):St:={st with t:=λi=>f (st.t i)}
def gn(f:A->A):A->A |.xv xs=>.xv (xs.map f) |.agg xs=>.agg (xs.map f) |.fn g xs=>.fn g (xs.map f) |a=>f a
def MS(r:ax)(a:A):A:=if nM r a then .any else a
def Er(k:ax)(a:A):A:=if axQ k a then .any else a
def St.kill(st:St)(r:ax):St:=st.map (gn (MS r))
def St.eW(st:St)(k:ax):St:=st.map (gn (Er k))
def St.bj(st:St)(r:ax)(R:aq eO):St:={st with r:=λi=>if i=r then R else st.r i}
def aE0:aL->aW |.pointer au|.map au|.nilFunc|.nilIface|.slice au 0 0=>aB |_=>aA
def ek:A->aW |.bool _|.int .. |.str _|.sl .. |.lz _|.ptr ..=>aB |.cst v=>aE0 v |.fn _ caps=>caps.isEmpty |_=>aA
def pure:A->aW |.agg cs=>cs.all ek |a=>ek a
def vM:A->A |.lz z=>.sl z [] |a=>a
def aq1:A->A |.agg cs=>.agg (cs.map vM) |a=>vM a
def dat(a:A):aq A:=if pure a then ai (aq1 a)else au
def wU(r:ax->aq eO):A->aq A |.view q off n=>(r q).map λR=>.sl R.z ((R.xs.drop off).take n) |.tok _ z xs=>ai (.sl z xs) |a=>if ek a then ai (vM a)else au
def AW(r:ax->aq eO):ah A->aq (ah A) | []=>ai [] |a::l=>af (wU r a) λx=>(AW r l).map λxs=>x::xs
def nr(r:ax->aq eO):A->aq A |.loc q i c=>af (r q) λR=>af (R.xs[i]?) λx=>(AW r x.cells).map λcs=>.ptr cs c |.agg cs=>(AW r cs).map .agg |a=>wU r a
def Cs(r:ax->aq eO):ah A->aq (ah A) | []=>ai [] |a::l=>af (nr r a) λx=>(Cs r l).map λxs=>x::xs
def uu:A->aW |.tok ..=>aB |_=>aA
def Hu(r:ax->aq eO):A->aq A |.fn f caps=>if caps.any uu then au else(Cs r caps).map (.fn f) |a=>nr r a
def UZ(k:ax):A->A |.tok j z xs=>if j=k then .sl z xs else .tok j z xs |a=>a
def arz(k:ax):A->A:=gn (UZ k)
def Ii(r:ax)(R:eO):A->A |.view q off n=>if q=r then .sl R.z ((R.xs.drop off).take n)else .view q off n |.loc q i c=>if q=r then .any else .loc q i c |a=>a
def YK(r:ax)(R:eO):A->A:=gn (Ii r R)
def gs:ax:=1000000
def comp(a:A)(j:ax):A:=(a.cells[j]?).getD .any
def St.KY(st:St)(i j:ax):aq St:=match comp (st.t i) j with
 |.tok k _ _=>ai (st.map (arz k))
 |.view q _ _=>af (st.r q) λR=>if R.b then au else ai ((st.map (YK q R)).bj q au)
 |_=>ai st
def St.IS(st:St)(i:ax):ax->aq St |0=>ai st |n+1=>af (st.IS i n) λst1=>st1.KY i n
def St.iW(st:St)(i:ax)(v:A):St:={st with t:=λj=>if j=i then v else st.t j}
def St.pin(st:St)(x:A):aq (A×St):=af ((st.iW gs x).IS gs (ae x.cells)) λst1=>(dat (st1.t gs)).map λv=>(v,st1.iW gs .any)
def aEy(op:aoY)(k:aLN)(a b:aw):aq A:=match op with
 |.add=>ai (.int k (k.wrap (a+b)))
 |.sub=>ai (.int k (k.wrap (a-b)))
 |.mul=>ai (.int k (k.wrap (a*b)))
 |.quo=>if b=0 then au else ai (.int k (k.wrap (a.tdiv b)))
 |.rem=>if b=0 then au else ai (.int k (a.tmod b))
 |.eql=>ai (.bool (a==b))
 |.neq=>ai (.bool (a !=b))
 |.lss=>ai (.bool (ao (a<b)))
 |.leq=>ai (.bool (ao (a<=b)))
 |.gtr=>ai (.bool (ao (a>b)))
 |.geq=>ai (.bool (ao (a>=b)))
 |_=>au
def an1(op:aoY)(k:aLN)(a b:aw):aq A:=
 if b<0 then au else
 match op with
 |.shl=>ai (.int k (k.wrap (a*2^(min b.toNat k.bits))))
 |_=>au
def cQ:ax:=9223372036854775807
def aFs(op:aoY)(a b:ah ay):aq A:=match op with
 |.add=>if ae a+ae b<=cQ then ai (.str (a++b))else au
 |.eql=>ai (.bool (a==b))
 |.neq=>ai (.bool (!(a==b)))
 |.lss=>ai (.bool (dB a b))
 |.leq=>ai (.bool (dB a b||a==b))
 |.gtr=>ai (.bool (!(dB a b||a==b)))
 |.geq=>ai (.bool (!dB a b))
 |_=>au
def Y6:aoY->aW |.shl|.shr=>aB |_=>aA
def ar6(op:aoY)(x y:A):aq A:=match x,y with
 |.int k a,.int k' b=>if Y6 op then an1 op k a b else if k=k' then aEy op k a b else au
 |.str a,.str b=>aFs op a b
 |_,_=>au
def unA(op:UnOp)(x:A):aq A:=match op,x with
 |.neg,.int k n=>ai (.int k (k.wrap (0-n)))
 |.not,.bool b=>ai (.bool !b)
 |_,_=>au
def avk:A->A->aq A |.int k x,.int k' y=>if k=k' then ai (.int k (if y>x then y else x))else au |_,_=>au
def avl:A->A->aq A |.int k x,.int k' y=>if k=k' then ai (.int k (if y<x then y else x))else au |_,_=>au
def adp(f:A->A->aq A):A->ah A->aq A |a,[]=>ai a |a,b::l=>af (f a b) λc=>adp f c l
def bytesOf:ah A->aq (ah ay) | []=>ai [] |.int .u8 n::l=>(bytesOf l).map (dW n.toNat:: ·) |_=>au
def elems(r:ax->aq eO):A->aq (ax×ah A) |.sl z xs=>ai (z,xs) |.tok _ z xs=>ai (z,xs) |.lz z=>ai (z,[]) |.view q off n=>(r q).map λR=>(R.z,(R.xs.drop off).take n) |_=>au
def axT(r:ax->aq eO):A->aq ax |.sl _ xs=>ai (ae xs) |.tok _ _ xs=>ai (ae xs) |.lz _=>ai 0 |.view q _ n=>(r q).map λ_=>n |_=>au
def lB(cs:ah A)(c:ax):aq ax->aq A |none=>cs[c]? |some n=>if c+n<=ae cs then ai (.agg (((cs.drop c).take n).map vM))else au
def setCells(cs:ah A)(c:ax)(vs:ah A):aq (ah A):=if c+ae vs<=ae cs then ai (cs.take c++vs++cs.drop (c+ae vs))else au
def gh(old:A)(cs:ah A):A:=match old with
 |.agg _=>.agg cs
 |_=>cs.headD .any
def nS(r:ax->aq eO):A->aW |.tok ..=>aB |.view q _ _|.loc q _ _=>(r q).isSome |a=>ek a
def JY(st:St):ah A->ah (ax×ax×dI)->aq (ah A) |cs,[]=>ai cs |cs,(off,z,x)::l=>if(x.v st).cells.length=z/\(x.v st).cells.all (nS st.r)=aB then af (setCells cs off (x.v st).cells) λVc=>JY st Vc l else au
def RX(st:St)(z:ax):ah A->ah (ax×dI)->aq (ah A) |xs,[]=>ai xs |xs,(i,x)::l=>af (dat (x.v st)) λv=>if ae v.cells=z/\i<ae xs then RX st z (xs.set i v) l else au
def avp:A->aW |.agg _=>aA |_=>aB
def Vf(y:A):aW:=y.cells.all avp
def lim:ax:=1099511627776
abbrev CF:=ax->ah A->aq (ah A×ah A)
def agB:A->aW |.own ..=>aB |_=>aA
def rN(d:ax):ax->ah A->ah A |_,[]=>[] |j,.tok _ z xs::l=>.tok (8*d+j) z xs::rN d (j+1) l |j,.agg cs::l=>(if cs.any agB then .any else .agg cs)::rN d (j+1) l |j,a::l=>a::rN d (j+1) l
def wO(d:ax):ax->ah A->ah A |_,[]=>[] |j,.own z xs::l=>.tok (8*d+j) z xs::wO d (j+1) l |j,a::l=>a::wO d (j+1) l
def Ge(d:ax)(l:ah A):A:=
 match l with
 | [.agg cs]=>.agg (wO d 0 cs)
 |l=>
 match rN d 0 l with
 | [a]=>a
 |l=>.xv l
def aaD:A->aW |.iU ..=>aB |_=>aA
def ad9(r:ax->aq eO):A->aq A |.view q off n=>(r q).map λR=>.own R.z ((R.xs.drop off).take n) |a=>if ek a then ai a else au
def SK(r:ax->aq eO):ah A->aq (ah A) | []=>ai [] |a::l=>af (ad9 r a) λx=>(SK r l).map λxs=>x::xs
def sub(q c:ax):ax:=1000*(q+1)+c
def YG(q c:ax)(st:St):A->aq (A×St) |.own z xs=>if c<1000 then ai (.view (sub q c) 0 (ae xs),(st.kill (sub q c)).bj (sub q c) (ai ⟨aA,z,xs⟩))else au |a=>if ek a then ai (a,st)else au
def Ob(q:ax):ax->St->ah A->aq (ah A×St) |_,st,[]=>ai ([],st) |c,st,a::l=>af (YG q c st a) λ(x,st1)=>(Ob q (c+1) st1 l).map λ(xs,st2)=>(x::xs,st2)
def vm(st:St)(q:ax)(z:ax)(x:A):aq St:=if q<1000/\ae x.cells<=1000 then(Ob q 0 ((st.kill q).bj q au) x.cells).map λ(cs,st1)=>(st1.kill q).bj q (ai ⟨aB,z,[gh x cs]⟩)else au
def St.ur(st:St)(q c j:ax):aq (A×St):=match comp (st.t gs) j with
 |.tok k z xs=>if c+j<1000 then ai (.view (sub q (c+j)) 0 (ae xs),((st.eW k).kill (sub q (c+j))).bj (sub q (c+j)) (ai ⟨aA,z,xs⟩))else au
 |.view s off n=>if s=sub q (c+j)/\c+j<1000/\(st.r s).isSome=aB then ai (.view s off n,st) else af (st.KY gs j) λst1=>if ek (comp (st1.t gs) j)then ai (vM (comp (st1.t gs) j),st1)else au
 |.lz z=>ai (.lz z,st)
 |a=>if ek a then ai (vM a,st)else au
def St.jU(st:St)(q c:ax):(j n:ax)->aq (ah A×St) |_,0=>ai ([],st) |j,n+1=>af (st.ur q c j) λ(x,st1)=>(st1.jU q c (j+1) n).map λ(xs,st2)=>(x::xs,st2)
def blank(e:A)(c n:ax):A:=gh e (e.cells.take c++bK n .any++e.cells.drop (c+n))
def Xz(st:St)(d:aq ax)(rs:ah A):aq St:=match rs,d with
 | [.iU z [x]],ai d=>(vm st d z x).map λst1=>st1.put (ai d) (.loc d 0 0)
 |rs,d=>if rs.any aaD then au else ai (st.put d (Ge (d.getD 0) rs))
def LX(st:St):ah dI->aq (ah A) | []=>ai [] |x::l=>af (Hu st.r (x.v st)) λa=>(LX st l).map λr=>a::r
def aeZ:A->aW |.tok _ _ xs=>xs.all A.plain |a=>a.plain
def M3:A->aW |.view .. |.tok .. |.loc ..=>aB |_=>aA
def owned:A->aW |.fn _ caps=>caps.any M3 |.agg cs=>cs.any M3 |a=>M3 a
def ef(cf:CF)(io:ax->ah aW)(d:aq ax)(st:St):O->aq A
 |.mv x=>ai (x.v st)
 |.asg x=>(match x.v st with|.tok .. |.lz _=>au|a=>ai a)
 |.pick c a b=>(match c.v st with|.bool t=>ai (if t then a.v st else b.v st)|_=>au)
 |.build zero parts=>(JY st zero parts).map .agg
 |.bsl z zero n parts=>(match d with|some d=>if n*z<=16777216/\ae zero.cells=z then(RX st z (bK n zero) parts).map λxs=>.tok (8*d) z xs else au|none=>au)
 |.ld n a=>(match a.v st with|.loc q i c=>af (st.r q) λR=>af (R.xs[i]?) λx=>lB x.cells c n|.ptr cs c=>lB cs c n|_=>au)
 |.aed x=>(match x.v st with|.loc q i c=>(st.r q).map λ_=>.loc q i c|.ptr cs c=>ai (.ptr cs c)|.fn f caps=>ai (.fn f caps)|_=>au)
 |.bin op x y=>ar6 op (x.v st) (y.v st)
 |.eqb neq x y=>(match x.v st,y.v st with|.bool a,.bool b=>ai (.bool (if neq then !(a==b)else a==b))|_,_=>au)
 |.un op x=>unA op (x.v st)
 |.conv k x=>(match k,x.v st with|.int k,.int _ n=>ai (.int k (k.wrap n))|.RN,a=>af (elems st.r a) λ(z,xs)=>if z=1 then(bytesOf xs).map .str else au|_,_=>au)
 |.fa off x=>(match x.v st with|.loc q i c=>(st.r q).map λ_=>.loc q i (c+off)|.ptr cs c=>ai (.ptr cs (c+off))|_=>au)
 |.ia z x i=>(match i.v st,x.v st with|.int _ n,.view q off len=>af (st.r q) λR=>if 0<=n/\n<(len:aw)/\R.z=z then ai (.loc q (off+n.toNat) 0)else au|.int _ n,.sl z' xs=>if 0<=n/\z'=z then(xs[n.toNat]?).map λx=>.ptr x.cells 0 else au|_,_=>au)
 |.iaa len z x i=>(match i.v st,x.v st with|.int _ n,.loc q j c=>if 0<=n/\n<(len:aw)then(st.r q).map λ_=>.loc q j (c+n.toNat*z)else au|.int _ n,.ptr cs c=>if 0<=n/\n<(len:aw)then ai (.ptr cs (c+n.toNat*z))else au|_,_=>au)
 |.ix x i=>(match i.v st,x.v st with|.int _ n,.str s=>if 0<=n then(s[n.toNat]?).map λb=>.int .u8 b.toNat else au|_,_=>au)
 |.ixa len z n x i=>(match i.v st,x.v st with|.int _ j,.agg cs=>if 0<=j/\j<(len:aw)then lB cs (j.toNat*z) n else au|_,_=>au)
 |.atc x lo hi=>(match(lo.map (dI.v st)).getD (.int .i64 0),hi.map (dI.v st),x.v st with|.int _ l,ai (.int _ h),.str s=>if 0<=l/\l<=h/\h<=(ae s:aw)then ai (.str ((s.take h.toNat).drop l.toNat))else au|.int _ l,au,.str s=>if 0<=l/\l<=(ae s:aw)then ai (.str (s.drop l.toNat))else au|_,_,_=>au)
 |.slc z x lo hi=>(match(lo.map (dI.v st)).getD (.int .i64 0),hi.map (dI.v st),x.v st with|.int _ l,ai (.int _ h),.sl z' xs=>if 0<=l/\l<=h/\h<=(ae xs:aw)/\z'=z then ai (.sl z' ((xs.take h.toNat).drop l.toNat))else au|.int _ l,au,.sl z' xs=>if 0<=l/\l<=(ae xs:aw)/\z'=z then ai (.sl z' (xs.drop l.toNat))else au|.int _ l,ai (.int _ h),.view q off n=>af (st.r q) λR=>if 0<=l/\l<=h/\h<=(n:aw)/\R.z=z then ai (.view q (off+l.toNat) (h.toNat-l.toNat))else au|.int _ l,au,.view q off n=>af (st.r q) λR=>if 0<=l/\l<=(n:aw)/\R.z=z then ai (.view q (off+l.toNat) (n-l.toNat))else au|_,_,_=>au)
 |.len x=>(axT st.r (x.v st)).map λ(n:ax)=>.int .i64 (n:aw)
 |.lens x=>(match x.v st with|.str s=>ai (.int .i64 (ae s))|_=>au)
 |.max xs=>(match xs.map (dI.v st)with| []=>au|a::l=>adp avk a l)
 |.min xs=>(match xs.map (dI.v st)with| []=>au|a::l=>adp avl a l)
 |.mks z bytes zero l c=>(match d,l.v st,c.v st with|some d,.int .i64 n,.int .i64 m=>if 0<=n/\n<=m/\m<(lim:aw)/\bytes<=256/\ae zero.cells=z then ai (.tok (8*d) z (bK n.toNat zero))else au|_,_,_=>au)
 |.mkf f caps=>if(caps.map (dI.v st)).all λx=>nS st.r x&& !uu x then ai (.fn f (caps.map (dI.v st)))else au
 |.call f args=>(match f.v st with|.fn g caps=>if(io g).any id then au else af (LX st args) λab=>af (if caps.any uu then au else Cs st.r caps) λcs=>af (cf g (ab++cs)) λ(rs,_)=>if(rs.all aeZ|| !((args.map (dI.v st)).any owned||caps.any M3))&& !rs.any aaD then ai (Ge (d.getD 0) rs)else au|_=>au)
 |.ext x i=>(match x.v st with|.xv xs=>xs[i]? |_=>au)
 |_=>au
def QW(st:St):A->aq (ax×A)
 |.loc q 0 0=>af (st.r q) λR=>
  match R.b,R.xs with
  |true,[x]=>(SK st.r x.cells).map λcs=>(q,.iU R.z [gh x cs])
  |_,_=>au
 |.view q 0 n=>af (st.r q) λR=>if n=ae R.xs/\R.b=aA then ai (q,.l7 R.z R.xs)else au
 |_=>au
def fE:A->ah ax |.view q _ _|.loc q _ _=>[q] |_=>[]
def KX(r:ax->aq eO):A->ah ax
 |.view q _ _=>[q]
 |.loc q _ _=>q::(match r q with|some R=>R.xs.flatMap λx=>x.cells.flatMap fE|none=>[])
 |_=>[]
def names(r:ax->aq eO):A->ah ax |.fn _ cs|.agg cs|.xv cs=>cs.flatMap (KX r) |a=>KX r a
def only(r:ax->aq eO)(ns:ah ax):ax->aq eO:=λi=>if ns.contains i then r i else au
def less(r:ax->aq eO)(ns:ah ax):ax->aq eO:=λi=>if ns.contains i then au else r i
def xe(st:St):ah aW->ah A->aq (ah (aq A)×ah ax×ah ax) |_,[]=>ai ([],[],[]) |true::bs,a::l=>af (QW st a) λ(q,x)=>(xe st bs l).map λ(xs,qs,ns)=>(ai x::xs,q::qs,names st.r a++ns) |bs,a::l=>(xe st bs.tail l).map λ(xs,qs,ns)=>(au::xs,qs,ns)
def OR(st:St):ah (aq A)->ah A->aq (ah A) |some x::xs,_::l=>(OR st xs l).map λr=>x::r |none::xs,a::l=>if owned a then au else af (Hu st.r a) λx=>(OR st xs l).map λr=>x::r | [],[]=>ai [] |_,_=>au
def sr(st:St):ah ax->ah A->aq St
 | [],[]=>ai st
 |q::qs,.iU z [x]::l=>af (st.r q) λR=>(match R.b,R.xs with|true,[x0]=>sr {st with r:=λi=>if i=q then ai ⟨aB,z,[gh x (x.cells.map λ_=>.any)]⟩else if(x0.cells.flatMap fE).contains i then au else st.r i} qs l|_,_=>au)
 |q::qs,.l7 z xs::l=>sr (st.bj q (ai ⟨aA,z,xs⟩)) qs l
 |q::qs,.any::l=>sr (st.bj q au) qs l
 |_,_=>au
def lK(st:St):ah ax->ah A->aq St | [],[]=>ai st |q::qs,.iU z [x]::l=>if ae x.cells<=1000 then af (Ob q 0 st x.cells) λ(cs,st1)=>lK (st1.bj q (ai ⟨aB,z,[gh x cs]⟩)) qs l else au |_::qs,.l7 .. ::l=>lK st qs l |_::qs,.any::l=>lK st qs l |_,_=>au
def auK(st:St)(qs:ah ax)(os:ah A):aq St:=af (sr st qs os) λst1=>lK st1 qs os
def St.lay(st:St)(vs:ah A):St:={st with t:=λi=>if gs<=i then(vs[i-gs]?).getD .any else st.t i}
def CN(j:ax):ax:=3000000+j
def St.Um(st:St)(j:ax):St:=match st.t (gs+j)with
 |.tok k z xs=>(((st.eW k).kill (CN j)).bj (CN j) (ai ⟨aA,z,xs⟩)).iW (gs+j) (.view (CN j) 0 (ae xs))
 |.lz z=>((st.kill (CN j)).bj (CN j) (ai ⟨aA,z,[]⟩)).iW (gs+j) (.view (CN j) 0 0)
 |_=>st
def St.jt(st:St):ah aW->(j n:ax)->aq St |_,_,0=>ai st |true::bs,j,n+1=>St.jt (st.Um j) bs (j+1) n |bs,j,n+1=>af (st.IS (gs+j) (st.t (gs+j)).cells.length) λst1=>St.jt st1 bs.tail (j+1) n
def eN(cf:CF)(io:ax->ah aW)(d:aq ax)(st:St):O->aq St
 |.asg x=>
  (match d,x.v st with
   |some d,.tok k z xs=>if d<1000 then ai ((((st.eW k).kill d).bj d (ai ⟨aA,z,xs⟩)).put (ai d) (.view d 0 (ae xs)))else au
   |some d,.lz z=>if d<1000 then ai (((st.kill d).bj d (ai ⟨aA,z,[]⟩)).put (ai d) (.view d 0 0))else au
   |d,a=>ai (st.put d a))
 |.alloc z zero=>
  (match d with
   |some d=>if ae zero.cells=z/\d<1000/\zero.cells.all ek then ai (((st.kill d).bj d (ai ⟨aB,z,[zero]⟩)).put (ai d) (.loc d 0 0))else au
   |none=>au)
 |.box z x=>
  (match d with
   |some d=>
    if d<1000/\z<=1000/\(x.v st).cells.length=z/\(x.v st).cells.all (nS st.r)=aB then
     ((((st.iW gs (x.v st)).kill d).bj d au).jU d 0 0 z).map λ(cs,st1)=>
       (((st1.iW gs .any).kill d).bj d (ai ⟨aB,z,[gh (x.v st) cs]⟩)).put (ai d) (.loc d 0 0)
    else au
   |none=>au)
 |.sto n a x=>
  if(x.v st).cells.length=n then
   match a.v st with
   |.loc q i c=>
    af (st.r q) λR=>
     match R.b,R.xs,i with
     |true,[e],0=>
      if q<1000/\c+n<=ae e.cells/\c+n<=1000/\(x.v st).cells.all (nS st.r)=aB then
       (((st.iW gs (x.v st)).bj q (ai ⟨aB,R.z,[blank e c n]⟩)).jU q c 0 n).map λ(vs,st1)=>
         ((st1.iW gs .any).bj q (ai ⟨aB,R.z,[gh e (e.cells.take c++vs++e.cells.drop (c+n))]⟩)).put d .any
      else au
     |false,_,_=>
      af (st.pin (x.v st)) λ(v,st1)=>
       if ae v.cells=n then af (st1.r q) λR=>af (R.xs[i]?) λe=>
        (setCells e.cells c v.cells).map λcs=>(st1.bj q (ai ⟨aA,R.z,R.xs.set i (gh e cs)⟩)).put d .any
       else au
     |_,_,_=>au
   |_=>au
  else au
 |.app z bytes s x=>
  (match d with
   |none=>au
   |some d=>
    af (elems st.r (x.v st)) λ(z2,ys)=>
     match s.v st with
     |.tok k z1 xs=>if z1=z/\z2=z/\ae xs+ae ys<lim/\bytes<=128/\ys.all Vf=aB then ai ((st.eW k).put (ai d) (.tok (8*d) z (xs++ys)))else au
     |.lz z1=>if z1=z/\z2=z/\ae ys<lim/\bytes<=128/\ys.all Vf=aB then ai (st.put (ai d) (.tok (8*d) z ys))else au
     |.view q off n=>
      af (st.r q) λR=>
       if R.z=z/\z2=z/\n+ae ys<lim/\bytes<=128/\ys.all Vf=aB then
        ai (((st.kill q).bj q au).put (ai d) (.tok (8*d) z ((R.xs.drop off).take n++ys)))
       else au
     |_=>au)
 |.call f args=>
  (match f.v st with
   |.fn g caps=>
    af ((st.lay (args.map (dI.v st)++caps)).jt (io g) 0 (ae args+ae caps)) λst1=>
     let vs:=(Ay (ae args+ae caps)).map λj=>st1.t (gs+j)
     (xe st1 (io g) vs).bind λ(ls,qs,ns)=>
       if decide ns.Nodup then
        af (OR {st1 with r:=less st1.r ns} ls vs) λab=>af (cf g ab) λ(res,outs)=>
         af (auK (st1.lay []) qs outs) λst2=>Xz st2 d res
       else au
   |_=>au)
 |.bsl z zero n parts=>
  (match d with
   |some d=>
    if n*z<=16777216/\ae zero.cells=z then(Ve st z (bK n zero) parts).map λ(xs,st1)=>st1.put (ai d) (.tok (8*d) z xs)else au
   |none=>au)
 |_=>au
 where
 Ve (st:St) (z:ax):ah A->ah (ax×dI)->aq (ah A×St)
  |xs,[]=>ai (xs,st)
  |xs,(i,x)::l=>
   af (st.pin (x.v st)) λ(v,st1)=>if ae v.cells=z/\i<ae xs then Ve st1 z (xs.set i v) l else au
def guardOf(ops:ah Op)(st:St):aq (ax×aW)->aq aW
 |none=>ai aB
 |some (j,vp)=>
  match af (ops[j]?) (·.d)with
  |some d=>(match st.t d with|.bool b=>ai (b==vp)|.undef=>ai aA|_=>au)
  |none=>au
def YI(st:St):O->ah ax
 |.call f args=>(args.map (dI.v st)).flatMap (names st.r)++(match f.v st with|.fn _ caps=>caps.flatMap (names st.r)|_=>[])
 |.sto _ a _=>(match a.v st with|.loc q _ _=>[q]|_=>[])
 |_=>[]
def vn1(r:ax->aq eO):A->ah ax
 |.view q _ _=>[q]
 |.loc q _ _=>(match r q with|some R=>R.xs.flatMap λx=>x.cells.flatMap fE|none=>[])
 |_=>[]
def parts:A->ah A |.fn _ cs|.agg cs|.xv cs=>cs |a=>[a]
def kv(st:St):O->ah A
 |.box _ x|.sto _ _ x|.app _ _ x _=>[x.v st]
 |.call f args=>args.map (dI.v st)++(match f.v st with|.fn _ caps=>caps|_=>[])
 |.bsl _ _ _ ps=>ps.map λp=>p.2.v st
 |_=>[]
def gone(st:St)(o:O)(d:aq ax)(p:ax):aW:=((kv st o).any λa=>(parts a).any λu=>(vn1 st.r u).contains p)||((YI st o).any (λi=>i+1==p/1000)||((match d with|some i=>i==p||i+1==p/1000|none=>aA)||ao (1002000<=p)))
def TH(st:St)(o:O)(d:aq ax)(p:ax):aW:=gone st o d p||(YI st o).contains p
def ok1(g:ax->aW):A->aW |.loc p _ _|.view p _ _=>!g p |.any|.undef=>aB |a=>ek a
def okv(g:ax->aW)(a:A):aW:=(parts a).all (ok1 g)
def ED:dI->ah ax |.t i=>[i] |.c _=>[]
def aLm:aq dI->ah ax |some x=>ED x |none=>[]
def rI:O->ah ax |.mv x|.asg x|.box _ x|.aed x|.un _ x|.conv _ x|.fa _ x|.len x|.lens x|.ext x _|.ld _ x=>ED x |.pick c a b=>ED c++ED a++ED b |.alloc ..=>[] |.build _ ps=>ps.flatMap λp=>ED p.2.2 |.bsl _ _ _ ps=>ps.flatMap λp=>ED p.2 |.sto _ a v=>ED a++ED v |.bin _ x y|.eqb _ x y|.ia _ x y|.iaa _ _ x y|.ix x y|.ixa _ _ _ x y|.app _ _ x y|.mks _ _ _ x y=>ED x++ED y |.slc _ x lo hi|.atc x lo hi=>ED x++aLm lo++aLm hi |.max xs|.min xs|.mkf _ xs=>xs.flatMap ED |.call f args=>ED f++args.flatMap ED
def ajC(st:St)(o:O)(d:aq ax)(k:ax):aW:=if 4194304<=k then(match st.t (k/16%65536)with|.xv xs=>(match xs[k%16]? with|some a=>ek a|none=>aA)|_=>aA) else if gs<=k then okv (gone st o d) (st.t (k-gs))&&(parts (st.t (k-gs))).all λu=>(fE u).all λp=> !TH st o d p else okv (gone st o d) (st.t k)
def step(cf:CF)(io:ax->ah aW)(st:St)(o:Op):aq St:=if o.w then(if o.av.all (ajC st o.o o.d)then eN cf io o.d st o.o else au)else(ef cf io o.d st o.o).map (st.put o.d)
def yB(cf:CF)(io:ax->ah aW)(all:ah Op):ah Op->St->aq St
 | [],st=>ai st
 |o::l,st=>
  match guardOf all st o.g with
  |some aB=>af (step cf io st o) (yB cf io all l)
  |some aA=>yB cf io all l (st.put o.d .undef)
  |none=>au
def aOs(i j:ax):ah ax->ah ax | []=>[i] |k::l=>if k=j then i::k::l else k::aOs i j l
def aE4:ah Op->ax->ah ax->ah ax
 | [],_,l=>l
 |o::os,i,l=>aE4 os (i+1) (match o.w,o.av with|false,j::_=>aOs i j l|_,_=>l++ [i])
def arr(dr:aW)(ops:ah Op):ah Op:=if dr then(aE4 ops 0 []).filterMap (ops[·]?)else ops
def fz1:A->A |.tok _ z xs=>.sl z xs |a=>a
def fz:A->A:=gn fz1
def St.restrict(st:St)(fI j5:ah ax):St:={t:=tab (fI.map λi=>(i,fz (st.t i))),r:=apR (j5.filterMap λi=>(st.r i).map λR=>(i,R))}
def Od(q:ax)(cs:ah A):A->A |.loc p i c=>if p=q then(if i=0 then .ptr cs c else .any)else .loc p i c |a=>a
def St.alG(st:St)(q:ax):St:=match st.r q with
 |some ⟨aB,_,[x]⟩=>if x.cells.all ek then(st.map (gn (Od q x.cells))).bj q au else st
 |_=>st
def St.PX(st:St)(n:ax):St:=
 if 6000000<=n then st.alG (n-6000000)else if 5000000<=n then(match st.KY (n-5000000) 0 with|some s=>s|none=>st)else
 match st.r (n/1000-1)with
 |some ⟨aB,z,[.agg cs]⟩=>
  (match cs[n%1000]? with
   |some (.lz z1)=>if 1000<=n/\(st.r n).isNone=aB then((st.kill n).bj n (ai ⟨aA,z1,[]⟩)).bj (n/1000-1) (ai ⟨aB,z,[.agg (cs.set (n%1000) (.view n 0 0))]⟩)else st
   |_=>st)
 |_=>st
inductive Ex where
 |normal
 |exit (id:ax)
 |ret
def aHz:A->aW |.fn ..=>aB |_=>aA
def kd(i:ax):ah A->St->aq St | [],st=>ai st |.iU z [x]::l,st=>af (vm st i z x) λst1=>kd (i+1) l (st1.put (ai i) (.loc i 0 0)) |.l7 z xs::l,st=>if i<1000 then kd (i+1) l (((st.kill i).bj i (ai ⟨aA,z,xs⟩)).put (ai i) (.view i 0 (ae xs)))else au |a::l,st=>if pure a||aHz a then kd (i+1) l (st.put (ai i) a)else au
def abG:A->aW |.iU .. |.l7 ..=>aB |_=>aA
def QU:ah aW->ah A->aW |_,[]=>aB |b::bs,a::l=>(!abG a||b)&&QU bs l | [],a::l=>!abG a&&QU [] l
def Fn.enter(fn:Fn)(args:ah A):aq St:=if ae args=fn.np/\QU fn.io args=aB then kd 0 args ⟨tab [],apR []⟩else au
def Rs.v(st:St):Rs->aq A
 |.t i=>ai (st.t i)
 |.cell i n=>
  match st.t i with
  |.loc q j c=>af (st.r q) λR=>af (R.xs[j]?) λx=>lB x.cells c n
  |_=>au
def vu(ks:ah ax):A->A |.tok k z xs=>if ks.contains k then .any else .tok k z xs |a=>a
def ah0:A->ah ax |.tok k _ _=>[k] |_=>[]
def YH:A->ah ax |.agg cs|.xv cs=>cs.flatMap ah0 |a=>ah0 a
def St.MU(st:St)(j:ax)(own:aW):aq (A×St):=
 if own then
  match st.t (gs+j)with
  |.tok k z xs=>ai (.tok j z xs,st.eW k)
  |.lz z=>ai (.tok j z [],st)
  |.view q off n=>
   (st.r q).map λR=>(.tok j R.z ((R.xs.drop off).take n),{st with r:=less st.r [q]})
  |.loc q 0 0=>af (st.r q) λR=>
   (match R.b,R.xs with
    |true,[x]=>(SK st.r x.cells).map λcs=>(.iU R.z [gh x cs],{st with r:=less st.r (q::x.cells.flatMap fE)})
    |_,_=>au)
  |.agg cs=>if ao (cs.flatMap fE).Nodup then(SK st.r cs).map λys=>(.agg ys,{st with r:=less st.r (cs.flatMap fE)})else au
  |_=>au
 else
  (Hu (only st.r (names st.r (st.t (gs+j)))) (st.t (gs+j))).map λx=>
    (x,{t:=λi=>gn (vu (YH (st.t (gs+j)))) (st.t i),r:=less st.r (names st.r (st.t (gs+j)))})
def St.leaves(st:St):(j:ax)->ah aW->aq (ah A×St) |j,b::bs=>af (st.MU j b) λ(x,st1)=>(st1.leaves (j+1) bs).map λ(xs,st2)=>(x::xs,st2) |_,[]=>ai ([],st)
def X6(st:St):ah Rs->aq (ah A) | []=>ai [] |r::l=>af (r.v st) λa=>(X6 st l).map λxs=>a::xs
def outs(st:St)(i:ax):ah A->aq (ah A)
 | []=>ai []
 |.iU z _::l=>af (st.r i) λR=>(match R.b,R.xs with|true,[x]=>if R.z=z/\i<1000 then af (SK st.r x.cells) λcs=>(outs st (i+1) l).map λr=>.iU z [gh x cs]::r else au|_,_=>au)
 |.l7 z xs::l=>(match st.r i with|none=>(outs st (i+1) l).map λr=>.any::r|some R=>if R.z=z/\ae R.xs=ae xs/\R.b=aA/\i<1000 then(outs st (i+1) l).map λr=>.l7 z R.xs::r else au)
 |_::l=>outs st (i+1) l
def Fn.leave(fn:Fn)(args:ah A)(st:St):aq (ah A×ah A):=if ae fn.own=ae fn.res then af (X6 st fn.res) λab=>af ((st.lay ab).leaves 0 fn.own) λ(rs,st1)=>(outs {st1 with r:=less st1.r fn.gone} 0 args).map λos=>(rs,os)else au
inductive Def where
 |ir (f:Fn)
 |ayg (io:ah aW) (g:CF)
def au4(M:ax->aq Def)(f:ax):ah aW:=match M f with
 |some (.ir fn)=>fn.io
 |some (.ayg io _)=>io
 |none=>[]
def ade(M:ax->aq Def)(ex:C->St->aq (Ex×St)):CF:=λf args=>
 match M f with
 |some (.ir fn)=>
  af (fn.enter args) λst0=>
   match ex fn.body st0 with
   |some (.ret,st)|some (.normal,st)=>fn.leave args st
   |_=>au
 |some (.ayg _ g)=>g f args
 |none=>au
def exec(M:ax->aq Def):ax->C->St->aq (Ex×St)
 |0,_,_=>au
 |n+1,c,st=>
  match c with
  |.skip=>ai (.normal,st)
  |.reg dr ops fI j5=>(yB (ade M (exec M n)) (au4 M) ops (arr dr ops) st).map λst'=>(.normal,st'.restrict fI j5)
  |.seq a b=>(match exec M n a st with|some (.normal,st')=>exec M n b st'|r=>r)
  |.cond c a b=>(match c.v st with|.bool t=>exec M n (if t then a else b) st|_=>au)
  |.block id b=>(match exec M n b st with|some (.exit j,st')=>if j=id then ai (.normal,st')else ai (.exit j,st')|r=>r)
  |.loop b=>(match exec M n b st with|some (.normal,st')=>exec M n (.loop b) st'|r=>r)
  |.exit id=>ai (.exit id,st)
  |.ret=>ai (.ret,st)
  |.norm fI j5 b=>exec M n b (st.restrict fI j5)
  |.opn i b=>exec M n b (st.PX i)
  |.stop=>au
end Go.Ab
namespace Go.Ab
def dw(w:aU)(b o:ax)(vs:ah aL):Prop:=∀j v,vs[j]? =ai v->w.cell? ⟨b,o+j,au⟩=ai v
mutual
inductive gY(φ:ax->ax)(w:aU)(ok:ax->Prop):aL->A->Prop
 |bool (b:aW):gY φ w ok (.bool b) (.bool b)
 |int (k:aLN) (n:aw):gY φ w ok (.int k n) (.int k n)
 |str (s:ah ay):gY φ w ok (.string ⟨s.toArray⟩) (.str s)
 |agg (vs:ah aL) (cs:ah A) (h:dp φ w ok vs cs):gY φ w ok (.agg vs.toArray) (.agg cs)
 |lz (z:ax):gY φ w ok (.slice au 0 0) (.lz z)
 |cst (v:aL) (h:aE0 v=aB):gY φ w ok v (.cst v)
 |Rx (ad:aq afQ) (cap z:ax):gY φ w ok (.slice ad 0 cap) (.sl z [])
 |sl (b o cap z:ax) (xs:ah A) (vs:ah aL) (hb:ok b) (hz:∀x∈xs,ae x.cells=z) (hc:ae xs<=cap)
   (h:dp φ w ok vs (xs.flatMap A.cells)) (hv:dw w b o vs):gY φ w ok (.slice (ai ⟨b,o,au⟩) (ae xs) cap) (.sl z xs)
 |ptr (b o c:ax) (cs:ah A) (vs:ah aL) (hb:ok b) (h:dp φ w ok vs cs) (hv:dw w b o vs):
   gY φ w ok (.pointer (ai ⟨b,o+c,au⟩)) (.ptr cs c)
 |fn (f:ax) (caps:ah A) (vs:ah aL) (h:dp φ w ok vs caps):gY φ w ok (.func (.func (φ f)) #[] vs.toArray) (.fn f caps)
inductive dp(φ:ax->ax)(w:aU)(ok:ax->Prop):ah aL->ah A->Prop
 |nil:dp φ w ok [] []
 |cons (v:aL) (a:A) (vs:ah aL) (ab:ah A) (h:gY φ w ok v a) (t:dp φ w ok vs ab):dp φ w ok (v::vs) (a::ab)
end
structure Ext(w w':aU):Prop where
 size:w.heap.size<=w'.heap.size
 same:∀b,b<w.heap.size->w'.heap[b]? =w.heap[b]?
 env:w'.os=w.os/\w'.output=w.output
def kC{w w':aU}{b:ax}(h:w'.heap[b]? =w.heap[b]?)(off:ax):w'.frozen? ⟨b,off,au⟩=w.frozen? ⟨b,off,au⟩:=by simp only[yT,h]
def Ext.refl(w:aU):Ext w w:=⟨bx _,λ_ _=>rfl,⟨rfl,rfl⟩⟩
def Ext.trans{w w1 w2:aU}(h:Ext w w1)(h':Ext w1 w2):Ext w w2:=⟨dQ h.size h'.size,λb hb=>(h'.same b (bX hb h.size)).trans (h.same b hb),⟨h'.env.1.trans h.env.1,h'.env.2.trans h.env.2⟩⟩
def cell?_of_block{w w':aU}{b:ax}(h:w'.heap[b]? =w.heap[b]?)(off:ax):w'.cell? ⟨b,off,au⟩=w.cell? ⟨b,off,au⟩:=by simp only[b9,h]
def frozen?_of_block{w w':aU}{b:ax}(h:w'.heap[b]? =w.heap[b]?)(off:ax):w'.frozen? ⟨b,off,au⟩=w.frozen? ⟨b,off,au⟩:=by simp only[yT,h]
def dw.of_block{w w':aU}{b o:ax}{vs:ah aL}(h:w'.heap[b]? =w.heap[b]?)(hc:dw w b o vs):dw w' b o vs:=λj v hj=>(cell?_of_block h _).trans (hc j v hj)
mutual
def gY.mono{φ:ax->ax}{w w':aU}{ok ok':ax->Prop}(hs:∀b,ok b->w'.heap[b]? =w.heap[b]?)(hk:∀b,ok b->ok' b): ∀{v:aL} {a:A},gY φ w ok v a->gY φ w' ok' v a |_,_,.bool b=>.bool b |_,_,.int k n=>.int k n |_,_,.str s=>.str s |_,_,.agg vs cs h=>.agg vs cs (dp.mono hs hk h) |_,_,.lz z=>.lz z |_,_,.cst v h=>.cst v h |_,_,.Rx ad cap z=>.Rx ad cap z |_,_,.sl b o cap z xs vs hb hz hc h hv=>.sl b o cap z xs vs (hk b hb) hz hc (dp.mono hs hk h) (hv.of_block (hs b hb)) |_,_,.ptr b o c cs vs hb h hv=>.ptr b o c cs vs (hk b hb) (dp.mono hs hk h) (hv.of_block (hs b hb)) |_,_,.fn f caps vs h=>.fn f caps vs (dp.mono hs hk h)
def dp.mono{φ:ax->ax}{w w':aU}{ok ok':ax->Prop}(hs:∀b,ok b->w'.heap[b]? =w.heap[b]?)(hk:∀b,ok b->ok' b): ∀{vs:ah aL} {ab:ah A},dp φ w ok vs ab->dp φ w' ok' vs ab |_,_,.nil=>.nil |_,_,.cons v a vs ab h t=>.cons v a vs ab (gY.mono hs hk h) (dp.mono hs hk t)
end
section
variable {φ:ax->ax} {w:aU} {ok:ax->Prop}
def dp.length:∀{vs:ah aL} {ab:ah A},dp φ w ok vs ab->vs.length=ab.length |_,_,.nil=>rfl |_,_,.cons _ _ _ _ _ t=>wE (· +1) t.length
def dp.append:∀{vs us:ah aL} {ab bs:ah A},dp φ w ok vs ab->dp φ w ok us bs->dp φ w ok (vs++us) (ab++bs) |_,_,_,_,.nil,h=>h |_,_,_,_,.cons v a vs ab hv t,h=>.cons v a _ _ hv (t.append h)
def dp.get:∀{vs:ah aL} {ab:ah A},dp φ w ok vs ab->∀{j:ax} {a:A},ab[j]? =ai a->∃v,vs[j]? =ai v/\gY φ w ok v a
 |_,_,.nil,j,a,h=>by simp at h
 |_,_,.cons v a vs ab hv t,0,b,h=>by simp at h;subst h;exact⟨v,rfl,hv⟩
 |_,_,.cons v a vs ab hv t,j+1,b,h=>by simpa using t.get (by simpa using h)
def dp.aDS:∀{vs:ah aL} {ab:ah A},dp φ w ok vs ab->∀{j:ax} {v:aL},vs[j]? =ai v->∃a,ab[j]? =ai a/\gY φ w ok v a
 |_,_,.nil,j,a,h=>by simp at h
 |_,_,.cons v a vs ab hv t,0,b,h=>by simp at h;subst h;exact⟨a,rfl,hv⟩
 |_,_,.cons v a vs ab hv t,j+1,b,h=>by simpa using t.aDS (by simpa using h)
def dp.drop:∀{vs:ah aL} {ab:ah A},dp φ w ok vs ab->∀n,dp φ w ok (vs.drop n) (ab.drop n)
 |_,_,h,0=>by simpa using h
 |_,_,.nil,n+1=>by simpa using .nil
 |_,_,.cons v a vs ab hv t,n+1=>by simpa using t.drop n
def dp.take:∀{vs:ah aL} {ab:ah A},dp φ w ok vs ab->∀n,dp φ w ok (vs.take n) (ab.take n)
 |_,_,h,0=>by simpa using .nil
 |_,_,.nil,n+1=>by simpa using .nil
 |_,_,.cons v a vs ab hv t,n+1=>by simpa using .cons v a _ _ hv (t.take n)
def dp.set:∀{vs:ah aL} {ab:ah A},dp φ w ok vs ab->∀(n:ax) {v:aL} {a:A},gY φ w ok v a->dp φ w ok (vs.set n v) (ab.set n a)
 |_,_,.nil,n,_,_,_=>by simpa using .nil
 |_,_,.cons v a vs ab hv t,0,_,_,h=>by simpa using .cons _ _ _ _ h t
 |_,_,.cons v a vs ab hv t,n+1,_,_,h=>by simpa using .cons _ _ _ _ hv (t.set n h)
def dp.split:∀{ab bs:ah A} {vs:ah aL},dp φ w ok vs (ab++bs)->∃us ts,vs=us++ts/\dp φ w ok us ab/\dp φ w ok ts bs
 | [],bs,vs,h=>⟨[],vs,rfl,.nil,h⟩
 |a::ab,bs,_,.cons v _ vs _ hv t=>by obtain⟨us,ts,rfl,h1,h2⟩:=dp.split (ab:=ab) (bs:=bs) t;exact⟨v::us,ts,rfl,.cons _ _ _ _ hv h1,h2⟩
def dw.nil{b o:ax}:dw w b o []:=λj v h=>by simp at h
def dw.left{b o:ax}{us ts:ah aL}(h:dw w b o (us++ts)):dw w b o us:=λj v hj=>h j v (by(have:j<ae us:=by(rcases bL j (ae us)with h'|h');(·exact h');·simp[bU h']at hj);rw[dM this];exact hj)
def dw.append{b o:ax}{us ts:ah aL}(h:dw w b o us)(h':dw w b (o+ae us) ts):dw w b o (us++ts):=λj v hj=>by
 rcases bL j (ae us)with hl|hl
 .rw[dM hl]at hj;exact h j v hj
 .rw[fR hl]at hj;have:=h' (j-ae us) v hj;rwa[show o+ae us+(j-ae us)=o+j from by omega]at this
def dw.drop{b o:ax}{vs:ah aL}(h:dw w b o vs)(n:ax):dw w b (o+n) (vs.drop n):=λj v hj=>by have:=h (n+j) v (by simpa using hj);rwa[<-jS]at this
def dw.take{b o:ax}{vs:ah aL}(h:dw w b o vs)(n:ax):dw w b o (vs.take n):=λj v hj=>h j v (by rw[sq]at hj;split at hj;(·exact hj);·cases hj)
def gY.cells{v:aL}{a:A}(h:gY φ w ok v a):dp φ w ok v.cells.toList a.cells:=by cases h with|agg vs cs h=>simpa[aoZ,A.cells]using h|cst v hv=>(have:v.cells= #[v]:=by cases v<;>first|rfl|simp[aE0]at hv);rw[this];exact .cons _ _ _ _ (.cst _ hv) .nil|_=>exact .cons _ _ _ _ (by constructor<;>assumption) .nil
def gY.Ul{v:aL}{a:A}(h:gY φ w ok v a)(ha:∀cs,a≠ .agg cs):(∀cs,v≠ .agg cs)/\(∀vs,v≠ .tuple vs):=by cases h with|agg vs cs h=>exact bG rfl (ha _)|cst v hv=>constructor<;>(intro cs h;subst h;simp[aE0]at hv)|_=>exact⟨λ_ h=>by simp at h,λ_ h=>by simp at h⟩
end
def ke{xs:ah A}{z:ax}(hz:∀x∈xs,ae x.cells=z):ae (xs.flatMap A.cells)=ae xs*z:=by induction xs with|nil=>simp|cons x xs ih=>rw[cr,bg,ih (λy hy=>hz y (bm _ hy)),hz x (cI ..),bl,eK];omega
def su{xs:ah A}{z:ax}(hz:∀x∈xs,ae x.cells=z):∀n,(xs.drop n).flatMap A.cells=(xs.flatMap A.cells).drop (n*z):=by induction xs with|nil=>simp|cons x xs ih=>intro n;cases n with|zero=>simp|succ n=>have hx:=hz x (cI ..);(have h1:(n+1)*z-ae x.cells=n*z:=by rw[hx,eK];omega);have h2:x.cells.drop ((n+1)*z)=[]:=br (by rw[hx,eK];omega);rw[List.drop_succ_cons,ih (λy hy=>hz y (bm _ hy)),cr,On,h1,h2,cJ]
def Dc{xs:ah A}{z:ax}(hz:∀x∈xs,ae x.cells=z):∀n,(xs.take n).flatMap A.cells=(xs.flatMap A.cells).take (n*z):=by induction xs with|nil=>simp|cons x xs ih=>intro n;cases n with|zero=>simp|succ n=>have hx:=hz x (cI ..);(have h1:(n+1)*z-ae x.cells=n*z:=by rw[hx,eK];omega);have h2:x.cells.take ((n+1)*z)=x.cells:=cH (by rw[hx,eK];omega);rw[List.take_succ_cons,cr,cr,ih (λy hy=>hz y (bm _ hy)),aGp,h1,h2]
end Go.Ab
namespace Go.Ab
def hJ(p:aL->A->Prop)(vs:ah aL)(ab:ah A):Prop:=ae vs=ae ab/\∀(j:ax) (v:aL) (a:A),vs[j]? =ai v->ab[j]? =ai a->p v a
def hJ.imp{p q:aL->A->Prop}{vs:ah aL}{ab:ah A}(h:hJ p vs ab)(hi:∀v a,p v a->q v a):hJ q vs ab:=⟨h.1,λj v a hv ha=>hi v a (h.2 j v a hv ha)⟩
def hJ.nil{p:aL->A->Prop}:hJ p [] []:=⟨rfl,λj v a h=>by simp at h⟩
def hJ.cons{p:aL->A->Prop}{v:aL}{a:A}{vs:ah aL}{ab:ah A}(h:p v a)(t:hJ p vs ab):hJ p (v::vs) (a::ab):=
 ⟨by simp[t.1],λj u b hu hb=>by cases j with|zero=>simp at hu hb;subst hu;subst hb;exact h|succ j=>exact t.2 j u b (by simpa using hu) (by simpa using hb)⟩
def hJ.YL{p:aL->A->Prop}{vs:ah aL}{a:A}{ab:ah A}(h:hJ p vs (a::ab)):∃v us,vs=v::us/\p v a/\hJ p us ab:=by cases vs with|nil=>have:=h.1;simp at this|cons v us=>exact⟨v,us,rfl,h.2 0 v a rfl rfl,by have:=h.1;simpa using this,λj u b hu hb=>h.2 (j+1) u b (by simpa using hu) (by simpa using hb)⟩
def hJ.ml{φ:ax->ax}{w:aU}{ok:ax->Prop}{vs:ah aL}{ab:ah A}(h:dp φ w ok vs ab):hJ (gY φ w ok) vs ab:=
 ⟨h.length,λj v a hv ha=>by obtain⟨u,hu,hr⟩:=h.get ha;rw[hv]at hu;cases hu;exact hr⟩
def hJ.ahn{φ:ax->ax}{w:aU}{ok:ax->Prop}:∀{vs:ah aL} {ab:ah A},hJ (gY φ w ok) vs ab->dp φ w ok vs ab
 | [],[],_=>.nil
 | [],a::ab,h=>by have:=h.1;simp at this
 |v::vs,[],h=>by have:=h.1;simp at this
 |v::vs,a::ab,h=>by obtain⟨u,us,he,h1,h2⟩:=h.YL;cases he;exact .cons _ _ _ _ h1 h2.ahn
def hJ.get{p:aL->A->Prop}{vs:ah aL}{ab:ah A}(h:hJ p vs ab){j:ax}{a:A}(ha:ab[j]? =ai a):∃v,vs[j]? =ai v/\p v a:=by
 have hj:j<ae vs:=by rw[h.1];(rcases bL j (ae ab)with h'|h');(·exact h');·simp[bU h']at ha
 exact⟨vs[j],by simp,h.2 j _ _ (by simp) ha⟩
def hJ.append{p:aL->A->Prop}:∀{vs us:ah aL} {ab bs:ah A},hJ p vs ab->hJ p us bs->hJ p (vs++us) (ab++bs)
 | [],us,[],bs,_,h'=>by simpa using h'
 | [],us,a::ab,bs,h,_=>by have:=h.1;simp at this
 |v::vs,us,[],bs,h,_=>by have:=h.1;simp at this
 |v::vs,us,a::ab,bs,h,h'=>by obtain⟨u,ws,he,h1,h2⟩:=h.YL;cases he;exact .cons h1 (h2.append h')
def hZ(z:ax)(w:aU)(b n:ax):Prop:=∃C e fr,w.heap[b]? =ai (.cells C e fr)/\n<=C.size/\∀off,(off<C.size\/off=C.size/\z≠1)->w.frozen? ⟨b,off,au⟩=aA
def hZ.of_block{z:ax}{w w':aU}{b n:ax}(h:w'.heap[b]? =w.heap[b]?):hZ z w b n->hZ z w' b n |⟨C,e,fr,h1,h2,h3⟩=>⟨C,e,fr,h.trans h1,h2,λoff ho=>(frozen?_of_block h off).trans (h3 off ho)⟩
def hZ.le{z:ax}{w:aU}{b n m:ax}(h:m<=n):hZ z w b n->hZ z w b m |⟨C,e,fr,h1,h2,h3⟩=>⟨C,e,fr,h1,dQ h h2,h3⟩
def hZ.lt{z:ax}{w:aU}{b n:ax}:hZ z w b n->b<w.heap.size
 |⟨C,e,fr,h1,h2,h3⟩=>by
  rcases bL b w.heap.size with h|h
  .exact h
  .simp[qd h]at h1
structure Env where
 ok:ax->Prop
 ρ:ax->aq (ax×ax)
inductive lL(φ:ax->ax)(E:Env)(r:ax->aq eO)(w:aU):aL->A->Prop
 |any (v:aL):lL φ E r w v .any
 |undef:lL φ E r w aMw .undef
 |data (v:aL) (a:A) (h:gY φ w E.ok v a):lL φ E r w v a
 |Ls (ad:aq afQ) (k z:ax):lL φ E r w (.slice ad 0 0) (.tok k z [])
 |tok (b o cap k z:ax) (xs:ah A) (vs:ah aL) (hc:ae xs<=cap) (h0:cap≠0) (hz:∀x∈xs,ae x.cells=z)
   (h:dp φ w E.ok vs (xs.flatMap A.cells)) (hv:dw w b o vs) (hr:hZ z w b (o+cap*z)):
   lL φ E r w (.slice (ai ⟨b,o,au⟩) (ae xs) cap) (.tok k z xs)
 |pz (v:aL) (q off n:ax) (h:r q=au):lL φ E r w v (.view q off n)
 |pP (ad:aq afQ) (q off:ax) (R:eO) (h:r q=ai R) (hb:R.b=aA) (hn:off<=ae R.xs):lL φ E r w (.slice ad 0 0) (.view q off 0)
 |view (b o cap q off n:ax) (R:eO) (h:r q=ai R) (hb:R.b=aA) (hn:off+n<=ae R.xs) (hc:n<=cap) (h0:cap≠0)
   (hρ:E.ρ q=ai (b,o)) (hr:hZ R.z w b (o+(off+cap)*R.z)):lL φ E r w (.slice (ai ⟨b,o+off*R.z,au⟩) n cap) (.view q off n)
 |Uf (v:aL) (q i c:ax) (h:r q=au):lL φ E r w v (.loc q i c)
 |loc (b o q i c:ax) (R:eO) (h:r q=ai R) (hρ:E.ρ q=ai (b,o)):lL φ E r w (.pointer (ai ⟨b,o+i*R.z+c,au⟩)) (.loc q i c)
inductive RV(φ:ax->ax)(E:Env)(r:ax->aq eO)(w:aU):aL->A->Prop
 |one (v:aL) (a:A) (h:lL φ E r w v a):RV φ E r w v a
 |xv (vs:ah aL) (xs:ah A) (h:hJ (lL φ E r w) vs xs):RV φ E r w (.tuple vs.toArray) (.xv xs)
 |agg (vs:ah aL) (xs:ah A) (h:hJ (lL φ E r w) vs xs):RV φ E r w (.agg vs.toArray) (.agg xs)
 |fn (f:ax) (vs:ah aL) (xs:ah A) (h:hJ (lL φ E r w) vs xs) (hn:∀x∈xs,uu x=aA):RV φ E r w (.func (.func (φ f)) #[] vs.toArray) (.fn f xs)
inductive RJ:aL->A->ax->ax->Prop
 |mk (ad:afQ) (n cap k z:ax) (xs:ah A) (h:cap≠0):RJ (.slice (ai ad) n cap) (.tok k z xs) k ad.block
inductive Tk:aL->A->ax->ax->Prop
 |one (v:aL) (a:A) (k b:ax) (h:RJ v a k b):Tk v a k b
 |xv (vs:ah aL) (xs:ah A) (j k b:ax) (v:aL) (a:A) (hv:vs[j]? =ai v) (ha:xs[j]? =ai a) (h:RJ v a k b):Tk (.tuple vs.toArray) (.xv xs) k b
 |agg (vs:ah aL) (xs:ah A) (j k b:ax) (v:aL) (a:A) (hv:vs[j]? =ai v) (ha:xs[j]? =ai a) (h:RJ v a k b):Tk (.agg vs.toArray) (.agg xs) k b
inductive fT(φ:ax->ax)(E:Env)(r:ax->aq eO)(w:aU)(q c:ax):aL->A->Prop
 |data (v:aL) (a:A) (h:gY φ w E.ok v a) (ha:∀cs,a≠ .agg cs):fT φ E r w q c v a
 |any (v:aL) (hv:(∀cs,v≠ .agg cs)/\(∀vs,v≠ .tuple vs)):fT φ E r w q c v .any
 |view (v:aL) (off n:ax) (hc:c<1000) (h:lL φ E r w v (.view (sub q c) off n)) (hv:(∀cs,v≠ .agg cs)/\(∀vs,v≠ .tuple vs)):fT φ E r w q c v (.view (sub q c) off n)
inductive pS(φ:ax->ax)(E:Env)(r:ax->aq eO)(w:aU)(q:ax):eO->Prop
 |empty (z:ax) (h:E.ρ q=au):pS φ E r w q ⟨aA,z,[]⟩
 |sl (b o z:ax) (xs:ah A) (vs:ah aL) (hρ:E.ρ q=ai (b,o)) (hz:∀x∈xs,ae x.cells=z)
   (h:dp φ w E.ok vs (xs.flatMap A.cells)) (hv:dw w b o vs) (hr:hZ z w b (o+ae xs*z)):pS φ E r w q ⟨aA,z,xs⟩
 |box (b o z:ax) (x:A) (vs:ah aL) (hρ:E.ρ q=ai (b,o)) (hz:ae x.cells=z) (hq:q<1000)
   (hl:ae vs=ae x.cells) (h:∀(c:ax) (v:aL) (a:A),vs[c]? =ai v->x.cells[c]? =ai a->fT φ E r w q c v a)
   (hv:dw w b o vs) (hr:hZ z w b (o+z)):pS φ E r w q ⟨aB,z,[x]⟩
structure nU where
 blk:ax->Prop
 K0:ax->Prop
 pl:ax->aq (ax×ax)
 lt:∀i p,pl i=ai p->i<1000
def ac8(w0:aU)(L:nU)(b:ax):Prop:=w0.heap.size<=b\/L.blk b
structure dC(φ:ax->ax)(w0:aU)(L:nU)(E:Env)(st:St)(ev:ax->aL)(w:aU):Prop where
 me:∀i,RV φ E st.r w (ev i) (st.t i)
 roots:∀q R,st.r q=ai R->pS φ E st.r w q R
 inj:∀q q' b o b' o',(st.r q).isSome->(st.r q').isSome->E.ρ q=ai (b,o)->E.ρ q'=ai (b',o')->q≠q'->b≠b'
 rz:∀q b o,(st.r q).isSome->E.ρ q=ai (b,o)->¬E.ok b/\ac8 w0 L b/\b<w.heap.size
 tz:∀i k b,Tk (ev i) (st.t i) k b->(¬E.ok b/\ac8 w0 L b/\b<w.heap.size)/\∀q b' o,(st.r q).isSome->E.ρ q=ai (b',o)->b'≠b
 td:∀i j k k' b b',Tk (ev i) (st.t i) k b->Tk (ev j) (st.t j) k' b'->k≠k'->b≠b'
 okz:∀b,E.ok b->b<w.heap.size
 grow:w0.heap.size<=w.heap.size
 frame:∀b,b<w0.heap.size->¬L.blk b->w.heap[b]? =w0.heap[b]?
 env:w.os=w0.os/\w.output=w0.output
 fr:∀b off,b<w0.heap.size->w.frozen? ⟨b,off,au⟩=w0.frozen? ⟨b,off,au⟩
 room:∀{z:ax} b n,hZ z w0 b n->hZ z w b n
 ZO:∀i p,L.pl i=ai p->(st.r i).isSome->E.ρ i=ai p
 okU:∀b,L.K0 b->E.ok b
 okL:∀b,E.ok b->L.K0 b\/ac8 w0 L b
structure oR(φ:ax->ax)(w0:aU)(L:nU)(E:Env)(st:St)(a:alk)(w:aU):Prop extends dC φ w0 L E st (λi=>a.eval (.tmp i)) w where
 Gc:a.defers=[]
structure Env.Le(E E':Env)(w w':aU):Prop where
 ρ:E'.ρ=E.ρ
 ok:∀b,E.ok b->E'.ok b
 new:∀b,E'.ok b->E.ok b\/(w.heap.size<=b/\b<w'.heap.size)
def Env.Le.refl(E:Env)(w w':aU):E.Le E w w':=⟨rfl,λ_ h=>h,λ_ h=>.inl h⟩
section
variable {φ:ax->ax} {w0:aU} {L:nU} {E E':Env} {st:St} {a:alk} {w w':aU} {r:ax->aq eO}
def lL.ext(hs:∀b,b<w.heap.size->w'.heap[b]? =w.heap[b]?)(hE:∀b,E.ok b->E'.ok b)(hρ:E'.ρ=E.ρ)(hz:∀b,E.ok b->b<w.heap.size){v:aL}{x:A} (h:lL φ E r w v x):lL φ E' r w' v x:=by have hm:∀{v:aL} {x:A},gY φ w E.ok v x->gY φ w' E'.ok v x:=λh=>h.mono (λb hb=>hs b (hz b hb)) hE;cases h with|any=>exact .any _|undef=>exact .undef|data _ _ h=>exact .data _ _ (hm h)|Ls=>exact .Ls _ _ _|tok b o cap k z xs vs hc h0 Qz h hv hr=>exact .tok b o cap k z xs vs hc h0 Qz (h.mono (λb hb=>hs b (hz b hb)) hE) (hv.of_block (hs _ hr.lt)) (hr.of_block (hs _ hr.lt))|pz _ q off n h=>exact .pz _ _ _ _ h|pP ad q off R h hb hn=>exact .pP _ _ _ R h hb hn|view b o cap q off n R h hb hn hc h0 hq hr=>exact .view b o cap q off n R h hb hn hc h0 (hρ▸hq) (hr.of_block (hs _ hr.lt))|Uf _ q i c h=>exact .Uf _ _ _ _ h|loc b o q i c R h hq=>exact .loc b o q i c R h (hρ▸hq)
def RV.imp{E E':Env}{r r':ax->aq eO}{v:aL}{x:A}(h:RV φ E r w v x)(hi:∀v x,lL φ E r w v x->lL φ E' r' w' v x):RV φ E' r' w' v x:=by cases h with|one _ _ h=>exact .one _ _ (hi _ _ h)|xv vs xs h=>exact .xv vs xs (h.imp hi)|agg vs xs h=>exact .agg vs xs (h.imp hi)|fn f vs xs h hn=>exact .fn f vs xs (h.imp hi) hn
def fT.ext(hs:∀b,b<w.heap.size->w'.heap[b]? =w.heap[b]?)(hE:∀b,E.ok b->E'.ok b)(hρ:E'.ρ=E.ρ)(hz:∀b,E.ok b->b<w.heap.size){q c:ax}{v:aL}{x:A} (h:fT φ E r w q c v x):fT φ E' r w' q c v x:=by cases h with|data _ h h'=>exact .data _ _ (h.mono (λb hb=>hs b (hz b hb)) hE) h'|any h=>exact .any _ h|view off n hc h h'=>exact .view _ _ _ hc (h.ext hs hE hρ hz) h'
def pS.ext(hs:∀b,b<w.heap.size->w'.heap[b]? =w.heap[b]?)(hE:∀b,E.ok b->E'.ok b)(hρ:E'.ρ=E.ρ)(hz:∀b,E.ok b->b<w.heap.size){q:ax}{R:eO} (h:pS φ E r w q R):pS φ E' r w' q R:=by cases h with|empty z h=>exact .empty z (hρ▸h)|sl b o z xs vs hq Qz h hv hr=>exact .sl b o z xs vs (hρ▸hq) Qz (h.mono (λb hb=>hs b (hz b hb)) hE) (hv.of_block (hs _ hr.lt)) (hr.of_block (hs _ hr.lt))|box b o z x vs hq Qz dE hl h hv hr=>exact .box b o z x vs (hρ▸hq) Qz dE hl (λc v a rW ha=>(h c v a rW ha).ext hs hE hρ hz) (hv.of_block (hs _ hr.lt)) (hr.of_block (hs _ hr.lt))
def dC.ext{ev:ax->aL}(h:dC φ w0 L E st ev w)(hw:Ext w w')(hE:E.Le E' w w'):dC φ w0 L E' st ev w':=by
 have nok:∀b,¬E.ok b->b<w.heap.size->¬E'.ok b:=λb h1 h2 h3=>(hE.new b h3).elim h1 (λh4=>by omega)
 exact{
  me:=λi=>(h.me i).imp λv x hx=>hx.ext hw.same hE.ok hE.ρ h.okz
  roots:=λq R hq=>(h.roots q R hq).ext hw.same hE.ok hE.ρ h.okz
  inj:=λq q' b o b' o' h1 h2 h3 h4=>h.inj q q' b o b' o' h1 h2 (hE.ρ▸h3) (hE.ρ▸h4)
  rz:=λq b o h1 h2=>by
   have:=h.rz q b o h1 (hE.ρ▸h2)
   exact⟨nok b this.1 this.2.2,this.2.1,bX this.2.2 hw.size⟩
  tz:=λi k b h1=>by
   have:=h.tz i k b h1
   exact⟨⟨nok b this.1.1 this.1.2.2,this.1.2.1,bX this.1.2.2 hw.size⟩,λq b' o h2 h3=>this.2 q b' o h2 (hE.ρ▸h3)⟩
  td:=h.td
  okz:=λb hb=>(hE.new b hb).elim (λh1=>bX (h.okz b h1) hw.size) (λh1=>h1.2)
  grow:=dQ h.grow hw.size
  frame:=λb hb hl=>(hw.same b (bX hb h.grow)).trans (h.frame b hb hl)
  env:=⟨hw.env.1.trans h.env.1,hw.env.2.trans h.env.2⟩
  fr:=λb off hb=>by
   rw[kC (hw.same b (bX hb h.grow))];exact h.fr b off hb
  room:=λb n hr=>(h.room b n hr).of_block (hw.same b (h.room b n hr).lt)
  ZO:=λi p h1 h2=>by rw[hE.ρ];exact h.ZO i p h1 h2
  okU:=λb hb=>hE.ok b (h.okU b hb)
  okL:=λb hb=>(hE.new b hb).elim (h.okL b) λh1=>.inr (.inl (dQ h.grow h1.1))}
def oR.ext(h:oR φ w0 L E st a w)(hw:Ext w w')(hE:E.Le E' w w'):oR φ w0 L E' st a w':=⟨h.todC.ext hw hE,h.Gc⟩
structure WM(w0:aU)(L:nU)(E:Env)(st:St)(a:alk)(w:aU)(v:aL)(x:A):Prop where
 z:∀k b,Tk v x k b->(¬E.ok b/\ac8 w0 L b/\b<w.heap.size)/\∀q b' o,(st.r q).isSome->E.ρ q=ai (b',o)->b'≠b
 d:∀i k k' b b',Tk v x k b->Tk (a.eval (.tmp i)) (st.t i) k' b'->k≠k'->b≠b'
 s:∀k k' b b',Tk v x k b->Tk v x k' b'->k≠k'->b≠b'
def Act.ash{a:alk}{d:ax}{v:aL}(hd:d<a.tmps.size)(i:ax):(a.put (ai d) v).eval (.tmp i)=if i=d then v else a.eval (.tmp i):=by
 simp only[aCq,aa8];by_cases h:i=d;·subst h;simp[hd]
 .have:¬d=i:=λe=>h e.symm;simp[h,Array.getElem?_setIfInBounds_ne this]
def oR.put(h:oR φ w0 L E st a w){d:ax}(hd:d<a.tmps.size){v:aL}{x:A}(hv:RV φ E st.r w v x)(ht:WM w0 L E st a w v x): oR φ w0 L E (st.put (ai d) x) (a.put (ai d) v) w:=by
 have ev:∀i,(a.put (ai d) v).eval (.tmp i)=if i=d then v else a.eval (.tmp i):=Act.ash hd
 exact{
  me:=λi=>by
   rw[ev];simp only[St.put]
   by_cases hi:i=d
   .simp only[hi,aK];exact hv
   .simp only[hi,aJ];exact h.me i
  roots:=h.roots,inj:=h.inj,rz:=h.rz
  tz:=λi k b=>by
   rw[ev];simp only[St.put]
   by_cases hi:i=d
   .simp only[hi,aK];exact ht.z k b
   .simp only[hi,aJ];exact h.tz i k b
  td:=λi j k k' b b'=>by
   rw[ev,ev];simp only[St.put]
   by_cases hi:i=d<;>by_cases hj:j=d<;>simp only[hi,hj,aK,aJ]
   .exact ht.s k k' b b'
   .exact ht.d j k k' b b'
   .exactλh1 h2 h3 h4=>ht.d i k' k b' b h2 h1 (arY h3) h4.symm
   .exact h.td i j k k' b b'
  okz:=h.okz,grow:=h.grow,frame:=h.frame
  Gc:=h.Gc,env:=h.env,fr:=h.fr,room:=h.room,ZO:=h.ZO,okU:=h.okU,okL:=h.okL}
end
end Go.Ab
namespace Go.Ab
def azd:aL->A->aW |.bool a,.bool b=>a==b |.int k n,.int k' n'=>k==k'&&n==n' |.string s,.str l=>s.data.toList==l |.slice au 0 0,.lz _=>aB |.slice au 0 0,.sl _ []=>aB |.pointer au,.cst (.pointer au)|.map au,.cst (.map au)|.nilFunc,.cst .nilFunc|.nilIface,.cst .nilIface=>aB |_,_=>aA
def adg:ah aL->ah A->aW | [],[]=>aB |v::vs,a::ab=>azd v a&&adg vs ab |_,_=>aA
def aKj(v:aL)(a:A):aW:=match v,a with
 |.agg vs,.agg cs=>adg vs.toList cs
 |.tuple vs,.undef=>vs.size==0
 |v,a=>azd v a
def db(φ:ax->ax):ej->dI->aW |.tmp t,.t i=>t==i |.const v,.c a=>aKj v a |.func f,.c (.fn g [])=>φ g==f |_,_=>aA
section
variable {φ:ax->ax} {w0:aU} {L:nU} {E:Env} {st:St} {a:alk} {w:aU} {r:ax->aq eO} {ok:ax->Prop}
def aqr{v:aL}{x:A}(h:azd v x=aB):gY φ w ok v x/\∀cs,x≠ .agg cs:=by
 unfold azd at h
 split at h<;>first
  |(simp at h;done)
  |(refine⟨?_,λcs h=>by simp at h⟩
    first
    |(simp at h;subst h;exact .bool _)
    |(simp at h;obtain⟨rfl,rfl⟩:=h;exact .int _ _)
    |(simp only[cS]at h;subst h;exact .str _)
    |exact .lz _
    |exact .Rx _ _ _
    |exact .cst _ rfl)
def Cx:∀{vs:ah aL} {ab:ah A},adg vs ab=aB->dp φ w ok vs ab
 | [],[],_=>.nil
 |v::vs,a::ab,h=>by simp only[adg,az]at h;exact .cons _ _ _ _ (aqr h.1).1 (Cx h.2)
 | [],_::_,h=>by simp[adg]at h
 |_::_,[],h=>by simp[adg]at h
def aDC{v:aL}{x:A}(h:aKj v x=aB):gY φ w ok v x\/(v=aMw/\x=.undef):=by
 unfold aKj at h;split at h;·rename_i vs cs;exact .inl (by have:=gY.agg (φ:=φ) (w:=w) (ok:=ok) _ _ (Cx h);simpa using this)
 .rename_i vs;simp at h;exact .inr ⟨by rw[h];rfl,rfl⟩
 .exact .inl (aqr h).1
def RJ.rm{v:aL}{x:A}{k b:ax}(h:gY φ w ok v x):¬RJ v x k b:=by intro ht;cases ht;cases h
def Tk.rm{v:aL}{x:A}{k b:ax}(h:gY φ w ok v x):¬Tk v x k b:=by intro ht;cases ht with|one _ _ _ _ h1=>exact RJ.rm h h1|xv=>cases h|agg vs xs j k b v a hv ha h1=>generalize hu:vt vs.toArray=u at h;cases h with|agg us cs h=>simp at hu;subst hu;obtain⟨a',ha',hr⟩:=h.aDS hv;rw[ha]at ha';cases ha';exact RJ.rm hr h1
def LK(st:St)(a:alk)(v:aL)(x:A):Prop:=∀k b,Tk v x k b->∃i,Tk (a.eval (.tmp i)) (st.t i) k b
def LK.rep{v:aL}{x:A}(h:gY φ w ok v x):LK st a v x:=λk b ht=>(Tk.rm h ht).elim
def LK.tok(h:oR φ w0 L E st a w){v:aL}{x:A}(hc:LK st a v x):WM w0 L E st a w v x where
 z:=λk b ht=>by obtain⟨i,hi⟩:=hc k b ht;exact h.tz i k b hi
 d:=λi k k' b b' ht ht'=>by obtain⟨j,hj⟩:=hc k b ht;exact h.td j i k k' b b' hj ht'
 s:=λk k' b b' ht ht'=>by obtain⟨i,hi⟩:=hc k b ht;obtain⟨j,hj⟩:=hc k' b' ht';exact h.td i j k k' b b' hi hj
def eM(h:oR φ w0 L E st a w){o:ej}{x:dI}(hx:db φ o x=aB):RV φ E st.r w (a.eval o) (x.v st)/\LK st a (a.eval o) (x.v st):=by
 unfold db at hx;split at hx;·rename_i t i;simp at hx;subst hx;exact⟨h.me t,λk b ht=>⟨t,ht⟩⟩
 .rename_i v c;rcases aDC (φ:=φ) (w:=w) (ok:=E.ok) hx with hr|⟨rfl,rfl⟩
  .exact⟨.one _ _ (.data _ _ hr),.rep hr⟩
  .refine⟨.one _ _ .undef,λk b ht=> ?_⟩;cases ht with|one _ _ _ _ h1=>cases h1
 .rename_i f g;simp at hx;subst hx;have hr:gY φ w E.ok (.func (.func (φ g)) #[] #[]) (.fn g []):=.fn g [] [] .nil;exact⟨.one _ _ (.data _ _ hr),.rep hr⟩
 .cases hx
def RV.pG{v:aL}{k:aLN}{n:aw}(h:RV φ E r w v (.int k n)):v=.int k n:=by
 cases h with
 |one _ _ h=>cases h with
  |data _ _ h=>cases h;rfl
def RV.RM{v:aL}{b:aW}(h:RV φ E r w v (.bool b)):v=.bool b:=by
 cases h with
 |one _ _ h=>cases h with
  |data _ _ h=>cases h;rfl
def RV.Zf{v:aL}{s:ah ay}(h:RV φ E r w v (.str s)):v=.string ⟨s.toArray⟩:=by
 cases h with
 |one _ _ h=>cases h with
  |data _ _ h=>cases h;rfl
def RV.aB7{v:aL}(h:RV φ E r w v .undef):v=aMw:=by
 cases h with
 |one _ _ h=>cases h with
  |undef=>rfl
  |data _ _ h=>cases h
def RV.OQ{v:aL}{cs:ah A}(h:RV φ E r w v (.agg cs)):∃vs:ah aL,v=.agg vs.toArray/\hJ (lL φ E r w) vs cs:=by
 cases h with
 |one _ _ h=>cases h with
  |data _ _ h=>cases h with
   |agg vs cs h=>exact⟨vs,rfl,(hJ.ml h).imp λv a h=>.data _ _ h⟩
 |agg vs xs h=>exact⟨vs,rfl,h⟩
def RV.atl{v:aL}{cs:ah A}(h:RV φ E r w v (.xv cs)):∃vs:ah aL,v=.tuple vs.toArray/\hJ (lL φ E r w) vs cs:=by
 cases h with
 |one _ _ h=>cases h with
  |data _ _ h=>cases h
 |xv vs xs h=>exact⟨vs,rfl,h⟩
def RV.ame{v:aL}{f:ax}{cs:ah A}(h:RV φ E r w v (.fn f cs)):∃vs:ah aL,v=.func (.func (φ f)) #[] vs.toArray/\hJ (lL φ E r w) vs cs:=by
 cases h with
 |one _ _ h=>cases h with
  |data _ _ h=>cases h with
   |fn f caps vs h=>exact⟨vs,rfl,(hJ.ml h).imp λv a h=>.data _ _ h⟩
 |fn f vs xs h _=>exact⟨vs,rfl,h⟩
def gY.Gb{v:aL}{x:A}(h:gY φ w ok v x):uu x=aA:=by cases h<;>rfl
def RV.asl{v:aL}{f:ax}{cs:ah A}(h:RV φ E r w v (.fn f cs)):∃vs:ah aL,v=.func (.func (φ f)) #[] vs.toArray/\hJ (lL φ E r w) vs cs/\∀x∈cs,uu x=aA:=by
 cases h with
 |one _ _ h=>cases h with
  |data _ _ h=>cases h with
   |fn f caps vs h=>exact⟨vs,rfl,(hJ.ml h).imp λv a h=>.data _ _ h,λx hx=>by obtain⟨j,hj⟩:=fO.1 hx;obtain⟨v,hv,hr⟩:=h.get hj;exact hr.Gb⟩
 |fn f vs xs h hn=>exact⟨vs,rfl,h,hn⟩
def RV.FB{v:aL}{q off n:ax}(h:RV φ E r w v (.view q off n)):lL φ E r w v (.view q off n):=by cases h with|one _ _ h=>exact h
def RV.KW{v:aL}{q i c:ax}(h:RV φ E r w v (.loc q i c)):lL φ E r w v (.loc q i c):=by cases h with|one _ _ h=>exact h
def RV.Zh{v:aL}{k z:ax}{xs:ah A}(h:RV φ E r w v (.tok k z xs)):lL φ E r w v (.tok k z xs):=by cases h with|one _ _ h=>exact h
def RV.an2{v:aL}{z:ax}{xs:ah A}(h:RV φ E r w v (.sl z xs)):gY φ w E.ok v (.sl z xs):=by
 cases h with
 |one _ _ h=>cases h with
  |data _ _ h=>exact h
def RV.alI{v:aL}{cs:ah A}{c:ax}(h:RV φ E r w v (.ptr cs c)):gY φ w E.ok v (.ptr cs c):=by
 cases h with
 |one _ _ h=>cases h with
  |data _ _ h=>exact h
def RV.SN{v:aL}{z:ax}(h:RV φ E r w v (.lz z)):v=.slice au 0 0:=by
 cases h with
 |one _ _ h=>cases h with
  |data _ _ h=>cases h;rfl
def LK.scalar{v:aL}{x:A}(h:∀k b,¬Tk v x k b):LK st a v x:=λk b ht=>(h k b ht).elim
def aef{v:aL}{q i c:ax}(j b:ax):¬Tk v (.loc q i c) j b:=by intro h;cases h with|one _ _ _ _ h=>cases h
def GZ{v:aL}{q i c:ax}(j b:ax):¬Tk v (.view q i c) j b:=by intro h;cases h with|one _ _ _ _ h=>cases h
def aHM{v:aL}{f:ax}{cs:ah A}(j b:ax):¬Tk v (.fn f cs) j b:=by intro h;cases h with|one _ _ _ _ h=>cases h
end
end Go.Ab
namespace Go.Ab
section
variable {P:bV} {φ:ax->ax} {w0:aU} {L:nU} {E:Env} {st:St} {a:alk} {w:aU}
def Val(P:bV)(φ:ax->ax)(E:Env)(st:St)(a:alk)(w:aU)(S:Sem aL)(x:A):Prop:=∃v,S.run P w=.ok v w/\RV φ E st.r w v x/\LK st a v x
def Val.pure{v:aL}{x:A}(h:RV φ E st.r w v x/\LK st a v x):Val P φ E st a w (Rv v) x:=⟨v,rfl,h.1,h.2⟩
def aFO{c p q:ej}{c' p' q':dI}(h:oR φ w0 L E st a w)(hc:db φ c c'=aB)(hp:db φ p p'=aB)(hq:db φ q q'=aB) {t:aW} (ht:c'.v st=.bool t):Val P φ E st a w (do Rv (if<-asBool (a.eval c)then a.eval p else a.eval q)) (if t then p'.v st else q'.v st):=by
 have e:=(ht▸(eM h hc).1).RM;refine⟨if t then a.eval p else a.eval q,by simp[e,asBool],?_⟩;cases t;·exact eM h hq
 .exact eM h hp
def World.nf{w:aU}{b o n:ax}:w.cell? (Addr.add ⟨b,o,au⟩ n)=w.cell? ⟨b,o+n,au⟩:=by rw[Oj]
def akB{t:bO}{d:aGN}(ht:P.underlying t=ai d)(hs:∀fs,d≠ .struct fs)(ha:∀n e,d≠ .array n e){ad:afQ}{v:aL} (hv:w.cell? ad=ai v):(loadVar t ad).run P w=.ok v w:=by
 have hi:(isAgg t).run P w=.ok aA w:=by simp only[isAgg,underlying,eP,WD,cZ,ht];cases d<;>first|rfl|exact bG rfl (hs _)|exact bG rfl (ha _ _)
 simp only[loadVar,eP,hi,cZ];simp[hv]
def akA{t:bO}{d:aGN}{i:WJ}(ht:P.underlying t=ai d)(hd:(∃fs,d=.struct fs)\/(∃n e,d=.array n e))(hi:P.info? t=ai i) {b o:ax} {vs:ah aL} (hl:ae vs=i.size) (hv:dw w b o vs):(loadVar t ⟨b,o,au⟩).run P w=.ok (.agg vs.toArray) w:=by
 have hg:(isAgg t).run P w=.ok aB w:=by simp only[isAgg,underlying,eP,WD,cZ,ht];rcases hd with ⟨fs,rfl⟩|⟨n,e,rfl⟩<;>rfl
 have hc:=run_loadCells_list (P:=P) (w:=w) ⟨b,o,au⟩ vs (λj v hj=>by rw[World.nf];exact hv j v hj);simp only[loadVar,eP,hg,cZ,aK,sizeOf,typeInfo,WD,hi,mg,<-hl,hc]
def adf(P:bV)(t:bO)(n:aq ax):aW:=match P.underlying t with
 |some (.struct _)|some (.array _ _)=>(match P.info? t with|some i=>n==ai i.size|none=>aA)
 |some _=>n==au
 |none=>aA
def P4{t:bO}{n:aq ax}(hn:adf P t n=aB){p:aL->A->Prop}{b o c:ax}{vs:ah aL}{cs:ah A}(hl:hJ p vs cs)(hv:dw w b o vs) {x:A} (hx:lB cs c n=ai x):∃v,(loadVar t ⟨b,o+c,au⟩).run P w=.ok v w/\ ((n=au/\∃y,cs[c]? =ai y/\x=y/\p v y)\/ (∃m us,n=ai m/\v=.agg us/\us.toList=(vs.drop c).take m/\x=.agg (((cs.drop c).take m).map vM)/\c+m<=ae cs)):=by
 unfold adf at hn
 cases n with
 |none=>
  simp only[lB]at hx;obtain⟨v,hv1,hp⟩:=hl.get hx;have jy:=hv c v hv1;split at hn;·rename_i d hd;split at hn<;>simp at hn
  .rename_i d hd;split at hn<;>simp at hn
  .rename_i d h1 h2 hd;exact⟨v,akB hd (λfs e=>h1 fs e) (λn e e'=>h2 n e e') jy,.inl ⟨rfl,x,hx,rfl,hp⟩⟩
  .cases hn
 |some m=>
  simp only[lB]at hx;split at hx
  .rename_i hcm;simp only[aC]at hx
   have rh:∀d i,P.underlying t=ai d->P.info? t=ai i->(∃fs,d=.struct fs)\/(∃n e,d=.array n e)->m=i.size->
    ∃v,(loadVar t ⟨b,o+c,au⟩).run P w=.ok v w/\((ai m=au/\∃y,cs[c]? =ai y/\x=y/\p v y)\/
     (∃m' us,ai m=ai m'/\v=.agg us/\us.toList=(vs.drop c).take m'/\x=.agg (((cs.drop c).take m').map vM)/\c+m'<=ae cs)):=by
    intro d i hd hi hk hm
    refine⟨_,akA (vs:=(vs.drop c).take m) hd hk hi (by simp[hl.1];omega) ((hv.drop c).take m),.inr ⟨m,_,rfl,rfl,by simp,hx.symm,hcm⟩⟩
   split at hn;(·rename_i fs hd;split at hn;(·rename_i i hi;simp at hn;exact rh _ i hd hi (.inl ⟨_,rfl⟩) hn);·cases hn);(·rename_i len e hd;split at hn;(·rename_i i hi;simp at hn;exact rh _ i hd hi (.inr ⟨_,_,rfl⟩) hn);·cases hn);(·simp at hn);·cases hn
  .cases hx
def gY.norm{ok:ax->Prop}{v:aL}{x:A}(h:gY φ w ok v x):gY φ w ok v (vM x):=by cases h with|lz z=>exact .Rx _ _ _|_=>simp only[vM];constructor<;>assumption
def dp.norm{ok:ax->Prop}:∀{vs:ah aL} {xs:ah A},dp φ w ok vs xs->dp φ w ok vs (xs.map vM) |_,_,.nil=>.nil |_,_,.cons v a vs ab h t=>.cons _ _ _ _ h.norm t.norm
def fT.rv{r:ax->aq eO}{q c:ax}{v:aL}{x:A}(h:fT φ E r w q c v x):lL φ E r w v x:=by cases h with|data _ h=>exact .data _ _ h|any=>exact .any _|view off n _ h _=>exact h
def fT.aOA{r:ax->aq eO}{q c:ax}{v:aL}{x:A}(h:fT φ E r w q c v x)(k b:ax):¬RJ v x k b:=by cases h with|data _ h=>exact RJ.rm h|any=>intro h;cases h|view off n _ h _=>intro h;cases h
def lL.norm{r:ax->aq eO}{v:aL}{x:A}(h:lL φ E r w v x):lL φ E r w v (vM x):=by cases x with|lz z=>(cases h with|data _ _ h=>exact .data _ _ h.norm)|_=>exact h
def hJ.WT{p:aL->A->Prop}{vs:ah aL}{cs:ah A}(h:hJ p vs cs)(c n:ax):hJ p ((vs.drop c).take n) ((cs.drop c).take n):=
 ⟨by simp[h.1],λj v a hv ha=>by rw[sq]at hv ha;split at hv;(·rename_i hj;rw[aQ hj]at ha;exact h.2 (c+j) v a (by simpa using hv) (by simpa using ha));·cases hv⟩
def hJ.map{p q:aL->A->Prop}{f:A->A}{vs:ah aL}{cs:ah A}(h:hJ p vs cs)(hf:∀v a,p v a->q v (f a)):hJ q vs (cs.map f):=
 ⟨by simp[h.1],λj v a hv ha=>by simp only[cC,aM]at ha;obtain⟨b,hb,rfl⟩:=ha;exact hf _ _ (h.2 j v b hv hb)⟩
def aDs{vs:ah aL}{cs:ah A}(h:∀(j:ax) v x,vs[j]? =ai v->cs[j]? =ai x->∀k b,¬RJ v x k b)(k b:ax):¬Tk (.agg vs.toArray) (.agg cs) k b:=by intro ht;generalize hu:vt vs.toArray=u at ht;cases ht with|one _ _ _ _ h1=>cases h1|agg us xs j k b v x hv hx h1=>simp at hu;subst hu;exact h j v x hv hx k b h1
def aFK{t:bO}{n:aq ax}{p:ej}{p':dI}(h:oR φ w0 L E st a w)(hp:db φ p p'=aB)(hn:adf P t n=aB){x:A}
 (hx:(match p'.v st with
  |.loc q i c=>af (st.r q) λR=>af (R.xs[i]?) λx=>lB x.cells c n
  |.ptr cs c=>lB cs c n
  |_=>au)=ai x):Val P φ E st a w (awW t (a.eval p)) x:=by
 have hv:=(eM h hp).1
 split at hx
 .rename_i q i c e
  rw[e]at hv
  have h1:=hv.KW
  obtain⟨R,hR,hx⟩:=aI.1 hx
  obtain⟨y,hy,hx⟩:=aI.1 hx
  generalize a.eval p=v at h1
  cases h1 with
  |data _ _ h1=>cases h1
  |Uf _ _ _ _ h1=>rw[h1]at hR;cases hR
  |loc b o _ _ _ R' h1 hρ=>
   rw[h1]at hR;cases hR
   have hel:∃us,hJ (λv x=>lL φ E st.r w v x/\∀k b,¬RJ v x k b) us y.cells/\dw w b (o+i*R.z) us:=by have hro:=h.roots q R h1;cases hro with|empty z h2=>simp at hy|sl b' o' z xs vs iA hz hr hc hm=>rw[hρ]at iA;cases iA;simp only at hy;refine⟨(vs.drop (i*z)).take (ae y.cells),?_,(hc.drop _).take _⟩;(have e1:y.cells=((xs.flatMap A.cells).drop (i*z)).take (ae y.cells):=by rw[<-su hz,ba (mC.1 hy).1,(mC.1 hy).2,cr,List.take_left]);have:=(hJ.ml hr).WT (i*z) (ae y.cells);rw[<-e1]at this;exact this.imp λv x hr=>⟨.data _ _ hr,λk b=>RJ.rm hr⟩|box b' o' z x' vs iA hz dE hl jy hc hm=>rw[hρ]at iA;cases iA;simp only at hy;cases i with|succ i=>simp at hy|zero=>simp at hy;subst hy;refine⟨vs,⟨hl,λj v a hv ha=>⟨(jy j v a hv ha).rv,(jy j v a hv ha).aOA⟩⟩,by simpa using hc⟩
   obtain⟨us,hu,hc⟩:=hel
   obtain⟨v,jn,Mc⟩:=P4 hn hu hc hx
   refine⟨v,by simp[awW,acQ,jn],?_⟩
   rcases Mc with ⟨rfl,y',hy',rfl,hp1,hp2⟩|⟨m,us',rfl,rfl,hus,rfl,hcm⟩
   .exact⟨.one _ _ hp1,.scalar λk b ht=>by cases ht with|one _ _ _ _ h1=>exact hp2 _ _ h1|xv=>(cases hp1 with|data _ _ h=>cases h)|agg vs xs j k b v' a' rW ha' h1=>generalize hg:vt vs.toArray=g at hp1;cases hp1 with|data _ _ hr=>subst hg;exact Tk.rm hr (.agg vs xs j k b v' a' rW ha' h1)⟩
   .obtain⟨us',rfl⟩:∃l:ah aL,us'=l.toArray:=⟨us'.toList,by simp⟩
    simp only at hus
    have h2:=hu.WT c m
    rw[<-hus]at h2
    refine⟨.agg _ _ (h2.map λv x hh=>hh.1.norm),.scalar (aDs λj v x hv hx k b h1=> ?_)⟩
    simp only[cC,aM]at hx
    obtain⟨x',TL,rfl⟩:=hx
    have h3:=h2.2 j v x' hv TL
    refine h3.2 k b ?_
    cases x'<;>first|exact h1|(simp only[vM]at h1;cases h1)
 .rename_i cs c e
  rw[e]at hv
  have h1:=hv.alI
  generalize a.eval p=v at h1
  cases h1 with
  |ptr b o _ _ vs hb hr hc=>
   obtain⟨v,jn,Mc⟩:=P4 hn (hJ.ml hr) hc hx
   refine⟨v,by simp[awW,acQ,jn],?_⟩
   rcases Mc with ⟨rfl,y',hy',rfl,hp1⟩|⟨m,us',rfl,rfl,hus,rfl,hcm⟩
   .exact⟨.one _ _ (.data _ _ hp1),.rep hp1⟩
   .obtain⟨us',rfl⟩:∃l:ah aL,us'=l.toArray:=⟨us'.toList,by simp⟩
    simp only at hus
    subst hus
    have Dx:gY φ w E.ok (.agg ((vs.drop c).take m).toArray) (.agg (((cs.drop c).take m).map vM)):=.agg _ _ ((hr.drop c).take m).norm
    exact⟨.one _ _ (.data _ _ Dx),.rep Dx⟩
 .cases hx
end
end Go.Ab
namespace Go.Ab
section
variable {P:bV} {φ:ax->ax} {w0:aU} {L:nU} {E:Env} {st:St} {a:alk} {w:aU}
def jh{S:Sem aL}{v:aL}{x:A}(hs:S.run P w=.ok v w)(hr:gY φ w E.ok v x):Val P φ E st a w S x:=⟨v,hs,.one _ _ (.data _ _ hr),.rep hr⟩
def aBR{op:aoY}{k:aLN}{m n:aw}{x:A}(h:aEy op k m n=ai x):∃v,((binOp op 0 (.int k m) (.int k n)).run P w=.ok v w)/\gY φ w E.ok v x:=by
 cases op<;>simp only[aEy]at h<;>first
  |(cases h;done)
  |(simp only[aC]at h;subst h
    exact⟨_,by simp only[binOp,aCT,not_true,aJ];rfl,by first|exact .int _ _|exact .bool _⟩)
  |(split at h
    .cases h
    .rename_i h0
     simp only[aC]at h;subst h
     exact⟨_,by simp only[binOp,aCT,not_true,aJ,Op.intDiv,h0];rfl,.int _ _⟩)
def alW{op:aoY}{t:bO}{k k':aLN}{m n:aw}:binOp op t (.int k m) (.int k' n)=binOp op 0 (.int k m) (.int k' n):=by cases op<;>rfl
def avY{op:aoY}{t:bO}{k k':aLN}{m n:aw}{x:A}(hs:Y6 op=aB)(h:an1 op k m n=ai x): ∃v,((binOp op t (.int k m) (.int k' n)).run P w=.ok v w)/\gY φ w E.ok v x:=by
 unfold an1 at h;split at h;·cases h
 .rename_i h0;cases op<;>simp[Y6]at hs<;>first|(cases h;done)|(simp only[aC]at h;subst h;exact⟨_,by simp only[binOp,Op.shift,h0,aJ];rfl,.int _ _⟩)
def toList_mk(s:ah ay):(pQ s.toArray).toList=s:=by rw[ByteArray.toList_eq]
def aBS{op:aoY}{t:bO}{m n:ah ay}{x:A}(h:aFs op m n=ai x): ∃v,((binOp op t (.string ⟨m.toArray⟩) (.string ⟨n.toArray⟩)).run P w=.ok v w)/\gY φ w E.ok v x:=by
 have e1:=toList_mk m;have e2:=toList_mk n
 cases op<;>simp only[aFs]at h<;>first
  |(cases h;done)
  |(simp only[aC]at h;subst h
    exact⟨_,by simp only[binOp,Op.stringOp,e1,e2];rfl,.bool _⟩)
  |(split at h
    .rename_i h0
     simp only[aC]at h;subst h
     refine⟨.string ⟨(m++n).toArray⟩,?_,.str _⟩
     have h1:¬((((pQ m.toArray).size+(pQ n.toArray).size:ax):aw)>ak.max):=by
      simp only[aAp,aqk,IntKind.max_i64]
      simp only[cQ]at h0
      omega
     have h2:(pQ m.toArray)++(pQ n.toArray)=⟨(m++n).toArray⟩:=by
      apply YU;simp
     simp only[binOp,Op.stringOp,h1,aJ,h2];rfl
    .cases h)
def aIn{op:aoY}{t u:bO}{x y:ej}{x' y':dI}(h:oR φ w0 L E st a w)(hx:db φ x x'=aB)(hy:db φ y y'=aB){r:A} (hr:ar6 op (x'.v st) (y'.v st)=ai r):Val P φ E st a w (do eqGuard op t x y (a.eval x) (a.eval y);binOp op t (a.eval x) (a.eval y)) r:=by
 have vx:=(eM h hx).1;have vy:=(eM h hy).1;unfold ar6 at hr;split at hr
 .rename_i k m k' n e1 e2;rw[e1]at vx;rw[e2]at vy;have ex:=vx.pG;have ey:=vy.pG;have hg:eqGuard op t x y (.int k m) (.int k' n)=Rv ():=eqGuard_at_int ..;rw[ex,ey,hg];split at hr;·rename_i hs;obtain⟨v,h1,h2⟩:=avY (P:=P) (φ:=φ) (E:=E) (w:=w) (t:=t) (k':=k') hs hr;exact jh (by simpa using h1) h2
  .split at hr;(·rename_i hk;subst hk;obtain⟨v,h1,h2⟩:=aBR (P:=P) (φ:=φ) (E:=E) (w:=w) hr;exact jh (by simp only[eP,mg,cZ];rw[alW];exact h1) h2);·cases hr
 .rename_i m n e1 e2;rw[e1]at vx;rw[e2]at vy;have ex:=vx.Zf;have ey:=vy.Zf;have hg:eqGuard op t x y (.string ⟨m.toArray⟩) (.string ⟨n.toArray⟩)=Rv ():=eqGuard_at_string ..;rw[ex,ey,hg];obtain⟨v,h1,h2⟩:=aBS (P:=P) (φ:=φ) (E:=E) (w:=w) (t:=t) hr;exact jh (by simpa using h1) h2
 .cases hr
def atb{t:bO}{d:aGN}(ht:P.underlying t=ai d)(hs:∀fs,d≠ .struct fs)(ha:∀n e,d≠ .array n e){vs:ah aL}{i:ax}{v:aL} (hv:vs[i]? =ai v):(part t vs.toArray i).run P w=.ok v w:=by
 have hi:(isAgg t).run P w=.ok aA w:=by simp only[isAgg,underlying,eP,WD,cZ,ht];cases d<;>first|rfl|exact bG rfl (hs _)|exact bG rfl (ha _ _)
 simp only[part,eP,hi,cZ];simp[hv]
def aIp{neq:aW}{op:aoY}{t:bO}{x y:ej}{x' y':dI}(h:oR φ w0 L E st a w)(hop:op=if neq then .neq else .eql) (hx:db φ x x'=aB) (hy:db φ y y'=aB) (ht:P.underlying t=ai .bool) {r:A} (hr:(match x'.v st,y'.v st with|.bool a,.bool b=>ai (A.bool (if neq then !(a==b)else a==b))|_,_=>au)=ai r): Val P φ E st a w (do eqGuard op t x y (a.eval x) (a.eval y);binOp op t (a.eval x) (a.eval y)) r:=by
 have vx:=(eM h hx).1;have vy:=(eM h hy).1;split at hr;·rename_i m n e1 e2;rw[e1]at vx;rw[e2]at vy;rw[vx.RM,vy.RM];simp only[aC]at hr;subst hr;refine jh (v:=.bool (if neq then !(m==n)else m==n)) ?_ (.bool _);have hq:=run_equalIn_bool' w 9999 t m n ht;subst hop;cases neq<;>simp[eqGuard_at_bool,binOp,Op.equal,Op.maxDepth,hq]
 .cases hr
def aLE{op:UnOp}{x:ej}{x':dI}(h:oR φ w0 L E st a w)(hx:db φ x x'=aB){r:A}(hr:unA op (x'.v st)=ai r): Val P φ E st a w (Op.unary op (a.eval x)) r:=by
 have vx:=(eM h hx).1;unfold unA at hr;split at hr;·rename_i k n e;rw[e]at vx;rw[vx.pG];simp only[aC]at hr;subst hr;exact jh rfl (.int _ _)
 .rename_i b e;rw[e]at vx;rw[vx.RM];simp only[aC]at hr;subst hr;exact jh rfl (.bool _)
 .cases hr
def aCb{x:ej}{x':dI}(h:oR φ w0 L E st a w)(hx:db φ x x'=aB){o:Zp}(ho:o.op=.nilCheck x){r:A}
 (hr:(match x'.v st with
  |.loc q i c=>(st.r q).map λ_=>A.loc q i c
  |.ptr cs c=>ai (.ptr cs c)
  |.fn f caps=>ai (.fn f caps)
  |_=>au)=ai r):
 ∃v,(gS a.eval o).run P w=.ok (.value v) w/\RV φ E st.r w v r/\LK st a v r:=by
 have hc:=eM h hx
 have vx:=hc.1
 split at hr
 .rename_i q i c e
  obtain⟨R0,hs,rfl⟩:=aM.1 hr
  rw[e]at hc vx
  have h1:=vx.KW
  generalize hv:a.eval x=v at h1 hc
  cases h1 with
  |data _ _ h1=>cases h1
  |Uf _ _ _ _ h1=>rw[h1]at hs;cases hs
  |loc b o _ _ _ R h1 hρ=>exact⟨_,by simp[gS,ho,hv],hc.1,hc.2⟩
 .rename_i cs c e
  simp only[aC]at hr;subst hr
  rw[e]at hc vx
  have h1:=vx.alI
  generalize hv:a.eval x=v at h1 hc
  cases h1 with
  |ptr b o _ _ vs hb hr LC=>exact⟨_,by simp[gS,ho,hv],hc.1,hc.2⟩
 .rename_i f caps e
  simp only[aC]at hr;subst hr
  rw[e]at hc vx
  obtain⟨vs,ev,_⟩:=vx.ame
  rw[ev]at hc
  exact⟨_,by simp[gS,ho,ev],hc.1,hc.2⟩
 .cases hr
def aIt{t ty e:bO}{x:ej}{x':dI}(h:oR φ w0 L E st a w)(hx:db φ x x'=aB)(ht:P.underlying t=ai (.slice e)){n:ax}(hn:axT st.r (x'.v st)=ai n): Val P φ E st a w (DD #[t] ty #[a.eval x]) (.int .i64 n):=by
 have vx:=(eM h hx).1;have rh:∀(v:aL) ad cap,v=.slice ad n cap->Val P φ E st a w (DD #[t] ty #[v]) (.int .i64 n):=by rintro v ad cap rfl;exact jh (by simp[DD,jN ht,goInt]) (.int _ _)
 unfold axT at hn;generalize a.eval x=v at vx;split at hn<;>(try(cases hn;done))<;>rename_i e<;>rw[e]at vx
 .simp only[aC]at hn;subst hn;cases vx.an2 with|Rx ad cap z=>exact rh _ ad cap rfl|sl b o cap z xs vs hb hz hc hr LC=>exact rh _ _ cap rfl
 .simp only[aC]at hn;subst hn;cases vx.Zh with|data _ _ h1=>cases h1|Ls ad k z=>exact rh _ ad 0 rfl|tok b o cap k z xs vs hc h0 hz hr LC hm=>exact rh _ _ cap rfl
 .simp only[aC]at hn;subst hn;exact rh _ au 0 vx.SN
 .obtain⟨R0,hR,rfl⟩:=aM.1 hn;cases vx.FB with|data _ _ h1=>cases h1|pz _ _ _ _ h1=>rw[h1]at hR;cases hR|pP ad q off R h1 hb hn=>exact rh _ ad 0 rfl|view b o cap q off n R h1 hb hn hc h0 hρ hm=>exact rh _ _ cap rfl
def aFL{t ty:bO}{x:ej}{x':dI}(h:oR φ w0 L E st a w)(hx:db φ x x'=aB)(ht:P.underlying t=ai .string){r:A} (hr:(match x'.v st with|.str s=>ai (A.int .i64 (ae s))|_=>au)=ai r): Val P φ E st a w (DD #[t] ty #[a.eval x]) r:=by
 have vx:=(eM h hx).1;split at hr;·rename_i s e;simp only[aC]at hr;subst hr;rw[e]at vx;rw[vx.Zf];refine jh (v:=.int .i64 (ae s)) ?_ (.int _ _);simp[DD,jN ht,goInt];show((s.toArray.size:ax):aw)=_;simp
 .cases hr
end
end Go.Ab
namespace Go.Ab
section
variable {P:bV} {φ:ax->ax} {w0:aU} {L:nU} {E:Env} {st:St} {a:alk} {w:aU}
def lL.abK{r:ax->aq eO}{v:aL}{q i c:ax}(h:lL φ E r w v (.loc q i c)){R:eO}(hR:r q=ai R): ∃b o,E.ρ q=ai (b,o)/\v=.pointer (ai ⟨b,o+i*R.z+c,au⟩):=by cases h with|data _ _ h=>cases h|Uf _ _ _ _ h=>rw[h]at hR;cases hR|loc b o _ _ _ R' h hρ=>rw[h]at hR;cases hR;exact⟨b,o,hρ,rfl⟩
def gY.aFa{ok:ax->Prop}{v:aL}{cs:ah A}{c:ax}(h:gY φ w ok v (.ptr cs c)): ∃b o vs,v=.pointer (ai ⟨b,o+c,au⟩)/\ok b/\dp φ w ok vs cs/\dw w b o vs:=by cases h with|ptr b o c cs vs hb hr hc=>exact⟨b,o,vs,rfl,hb,hr,hc⟩
def ayr{r:ax->aq eO}{b o c:ax}{cs:ah A}{vs:ah aL}(hb:E.ok b)(h:dp φ w E.ok vs cs)(hv:dw w b o vs){v:aL} (he:v=.pointer (ai ⟨b,o+c,au⟩)):RV φ E r w v (.ptr cs c)/\LK st a v (.ptr cs c):=by subst he;have hr:gY φ w E.ok (.pointer (ai ⟨b,o+c,au⟩)) (.ptr cs c):=.ptr b o c cs vs hb h hv;exact⟨.one _ _ (.data _ _ hr),.rep hr⟩
def ayq{r:ax->aq eO}{b o q i c:ax}{R:eO}(hR:r q=ai R)(hρ:E.ρ q=ai (b,o)){v:aL} (he:v=.pointer (ai ⟨b,o+i*R.z+c,au⟩)):RV φ E r w v (.loc q i c)/\LK st a v (.loc q i c):=by subst he;exact⟨.one _ _ (.loc b o q i c R hR hρ),.scalar aef⟩
def aze(P:bV)(t:bO)(f off:ax):aW:=match P.underlying t with
 |some (.struct fs)=>(match fs[f]? with|some fd=>fd.offset==off&&(match P.info? fd.type with|some i=>i.size !=0|none=>aA)|none=>aA)
 |_=>aA
def aiV{t:bO}{f off:ax}(h:aze P t f off=aB)(b o:ax): (arO t (.pointer (ai ⟨b,o,au⟩)) f).run P w=.ok (.pointer (ai ⟨b,o+off,au⟩)) w:=by
 unfold aze at h;split at h
 .rename_i fs hfs;split at h;·rename_i fd hfd;simp only[az,cS]at h;obtain⟨rfl,h⟩:=h;split at h;(·rename_i i hi;simp at h;simp[arO,underlying,hfs,hfd,acQ,fieldPlace,sizeOf,typeInfo,hi,h,Oj]);·cases h
  .cases h
 .cases h
def aLB{t:bO}{f off:ax}{x:ej}{x':dI}(h:oR φ w0 L E st a w)(hx:db φ x x'=aB)(hc:aze P t f off=aB){r:A}
 (hr:(match x'.v st with
  |.loc q i c=>(st.r q).map λ_=>A.loc q i (c+off)
  |.ptr cs c=>ai (.ptr cs (c+off))
  |_=>au)=ai r):Val P φ E st a w (arO t (a.eval x) f) r:=by
 have vx:=(eM h hx).1
 split at hr
 .rename_i q i c e
  obtain⟨R,hR,rfl⟩:=aM.1 hr
  rw[e]at vx
  obtain⟨b,o,hρ,ev⟩:=vx.KW.abK hR
  rw[ev]
  exact⟨_,aiV hc _ _,ayq hR hρ (by simp[jS])⟩
 .rename_i cs c e
  simp only[aC]at hr;subst hr
  rw[e]at vx
  obtain⟨b,o,vs,ev,hb,hrs,oz⟩:=vx.alI.aFa
  rw[ev]
  exact⟨_,aiV hc _ _,ayr hb hrs oz (by simp[jS])⟩
 .cases hr
def anZ{t:bO}{n:aq ax}(hn:adf P t n=aB){r:ax->aq eO}{c:ax}{vs:ah aL}{cs:ah A}(hl:hJ (lL φ E r w) vs cs) {x:A} (hx:lB cs c n=ai x):∃v,(part t vs.toArray c).run P w=.ok v w/\RV φ E r w v x/\∀k b,Tk v x k b->Tk (.agg vs.toArray) (.agg cs) k b:=by unfold adf at hn;cases n with|none=>simp only[lB]at hx;obtain⟨v,hv1,hp⟩:=hl.get hx;(have rh:∀d,P.underlying t=ai d->(∀fs,d≠ .struct fs)->(∀n e,d≠ .array n e)->∃v,(part t vs.toArray c).run P w=.ok v w/\RV φ E r w v x/\∀k b,Tk v x k b->Tk (.agg vs.toArray) (.agg cs) k b:=by intro d hd h1 h2;refine⟨v,atb hd h1 h2 hv1,.one _ _ hp,λk b ht=> ?_⟩;cases ht with|one _ _ _ _ ht=>exact .agg vs cs c k b v x hv1 hx ht|xv=>(cases hp with|data _ _ h=>cases h)|agg us ys j k b v' a' rW ha' ht=>generalize hu:vt us.toArray=u at hp;cases hp with|data _ _ h=>subst hu;exact bG (.agg us ys j k b v' a' rW ha' ht) (Tk.rm h));split at hn;(·split at hn<;>simp at hn);(·split at hn<;>simp at hn);(·rename_i d h1 h2 hd;exact rh d hd (λfs e=>h1 fs e) (λn e e'=>h2 n e e'));·cases hn|some m=>simp only[lB]at hx;split at hx;(·rename_i hcm;simp only[aC]at hx;subst hx;(have rh:∀d i,P.underlying t=ai d->P.info? t=ai i->(∃fs,d=.struct fs)\/(∃n e,d=.array n e)->m=i.size-> ∃v,(part t vs.toArray c).run P w=.ok v w/\RV φ E r w v (.agg (((cs.drop c).take m).map vM))/\∀k b,Tk v (.agg (((cs.drop c).take m).map vM)) k b->Tk (.agg vs.toArray) (.agg cs) k b:=by intro d i hd hi hk hm;(have hg:(isAgg t).run P w=.ok aB w:=by simp only[isAgg,underlying,eP,WD,cZ,hd];rcases hk with ⟨fs,rfl⟩|⟨n,e,rfl⟩<;>rfl);refine⟨.agg ((vs.drop c).take m).toArray,?_,.agg _ _ ((hl.WT c m).map λv x hh=>hh.norm),λk b ht=> ?_⟩;(·simp only[part,eP,hg,cZ,aK,sizeOf,typeInfo,WD,hi,mg];rw[<-hm];congr 2;apply aa7;simp[List.take_drop]);·generalize hu:vt ((vs.drop c).take m).toArray=u at ht;cases ht with|one _ _ _ _ ht=>cases ht|agg us ys j k b v' a' rW ha' ht=>simp at hu;subst hu;simp only[cC,aM]at ha';obtain⟨a0,ha0,rfl⟩:=ha';rw[sq]at rW ha0;split at rW;(·rename_i hj;rw[aQ hj]at ha0;refine .agg vs cs (c+j) k b v' a0 (by simpa using rW) (by simpa using ha0) ?_;cases a0<;>first|exact ht|(simp only[vM]at ht;cases ht));·cases rW);split at hn;(·rename_i fs hd;split at hn;(·rename_i i hi;simp at hn;exact rh _ i hd hi (.inl ⟨_,rfl⟩) hn);·cases hn);(·rename_i len e hd;split at hn;(·rename_i i hi;simp at hn;exact rh _ i hd hi (.inr ⟨_,_,rfl⟩) hn);·cases hn);(·simp at hn);·cases hn);·cases hx
def azf(P:bV)(t:bO)(z:ax):aW:=match P.underlying t with
 |some (.slice e)=>(match P.info? e with|some i=>i.size==z|none=>aA)
 |_=>aA
def run_indexAt_slice{t:bO}{z:ax}(h:azf P t z=aB){k:aLN}{n:aw}{len cap b o:ax}(h0:0<=n)(hn:n<(len:aw)): (Je t (.slice (ai ⟨b,o,au⟩) len cap) (.int k n)).run P w=.ok (.pointer (ai ⟨b,o+n.toNat*z,au⟩)) w:=by
 unfold azf at h;split at h
 .rename_i e he;split at h;·rename_i i hi;simp only[cS]at h;simp[Je,asIntOf,underlying,he,h0,hn,sizeOf,typeInfo,hi,Oj,h]
  .cases h
 .cases h
def azq{xs:ah A}{z:ax}(hz:∀x∈xs,ae x.cells=z){i:ax}{y:A}(hy:xs[i]? =ai y):y.cells=((xs.flatMap A.cells).drop (i*z)).take (ae y.cells):=by rw[<-su hz,ba (mC.1 hy).1,(mC.1 hy).2,cr,List.take_left]
def dp.elem{ok:ax->Prop}{xs:ah A}{z:ax}(hz:∀x∈xs,ae x.cells=z){vs:ah aL}(h:dp φ w ok vs (xs.flatMap A.cells)){i:ax}{y:A}(hy:xs[i]? =ai y): dp φ w ok ((vs.drop (i*z)).take (ae y.cells)) y.cells:=by have:=(h.drop (i*z)).take (ae y.cells);rwa[<-azq hz hy]at this
def aLC{t:bO}{z:ax}{x i:ej}{x' i':dI}(h:oR φ w0 L E st a w)(hx:db φ x x'=aB)(hi:db φ i i'=aB)(hc:azf P t z=aB){r:A}
 (hr:(match i'.v st,x'.v st with
  |.int _ n,.view q off len=>
   af (st.r q) λR=>if 0<=n/\n<(len:aw)/\R.z=z then ai (A.loc q (off+n.toNat) 0)else au
  |.int _ n,.sl z' xs=>if 0<=n/\z'=z then(xs[n.toNat]?).map λx=>.ptr x.cells 0 else au
  |_,_=>au)=ai r):Val P φ E st a w (Je t (a.eval x) (a.eval i)) r:=by
 have vx:=(eM h hx).1
 have vi:=(eM h hi).1
 generalize a.eval x=vv at vx⊢
 split at hr
 .rename_i k n q off len e1 e2
  rw[e1]at vi;rw[e2]at vx
  rw[vi.pG]
  obtain⟨R,hR,hr⟩:=aI.1 hr
  split at hr
  .rename_i gF
   obtain⟨h0,hn,hz⟩:=gF
   simp only[aC]at hr;subst hr
   cases vx.FB with
   |data _ _ h1=>cases h1
   |pz _ _ _ _ h1=>rw[h1]at hR;cases hR
   |pP ad q off R h1 hb hn'=>omega
   |view b o cap q off n' R' h1 hb hn' ajb hc0 hρ hm=>
    rw[h1]at hR;cases hR
    exact⟨_,run_indexAt_slice hc h0 hn,ayq h1 hρ (by rw[hz,V3,Nat.add_zero,jS])⟩
  .cases hr
 .rename_i k n z' xs e1 e2
  rw[e1]at vi;rw[e2]at vx
  rw[vi.pG]
  split at hr
  .rename_i gF
   obtain⟨h0,hz⟩:=gF
   obtain⟨y,hy,rfl⟩:=aM.1 hr
   have dE:n.toNat<ae xs:=(mC.1 hy).1
   cases vx.an2 with
   |Rx ad cap z=>simp at hy
   |sl b o cap z xs vs hb Qz ajb hrs oz=>
    subst hz
    refine⟨_,run_indexAt_slice hc h0 (by omega),ayr hb (hrs.elem Qz hy) ((oz.drop _).take _) (by simp)⟩
  .cases hr
 .cases hr
def ar8(P:bV)(t:bO)(len z:ax):aW:=match P.underlying t with
 |some (.array n e)=>n==len&&(match P.info? e with|some i=>i.size==z|none=>aA)
 |_=>aA
def run_indexAt_array{t:bO}{len z:ax}(h:ar8 P t len z=aB){k:aLN}{n:aw}{b o:ax}(h0:0<=n)(hn:n<(len:aw)): (Je t (.pointer (ai ⟨b,o,au⟩)) (.int k n)).run P w=.ok (.pointer (ai ⟨b,o+n.toNat*z,au⟩)) w:=by
 unfold ar8 at h;split at h
 .rename_i m e he;simp only[az,cS]at h;obtain⟨rfl,h⟩:=h;split at h;·rename_i i hi;simp only[cS]at h;simp[Je,asIntOf,underlying,he,h0,hn,acQ,sizeOf,typeInfo,hi,Oj,h]
  .cases h
 .cases h
def aIr{t:bO}{len z:ax}{x i:ej}{x' i':dI}(h:oR φ w0 L E st a w)(hx:db φ x x'=aB)(hi:db φ i i'=aB)(hc:ar8 P t len z=aB){r:A}
 (hr:(match i'.v st,x'.v st with
  |.int _ n,.loc q j c=>if 0<=n/\n<(len:aw)then(st.r q).map λ_=>A.loc q j (c+n.toNat*z)else au
  |.int _ n,.ptr cs c=>if 0<=n/\n<(len:aw)then ai (.ptr cs (c+n.toNat*z))else au
  |_,_=>au)=ai r):Val P φ E st a w (Je t (a.eval x) (a.eval i)) r:=by
 have vx:=(eM h hx).1
 have vi:=(eM h hi).1
 split at hr
 .rename_i k n q j c e1 e2
  rw[e1]at vi;rw[e2]at vx
  rw[vi.pG]
  split at hr
  .rename_i gF
   obtain⟨R,hR,rfl⟩:=aM.1 hr
   obtain⟨b,o,hρ,ev⟩:=vx.KW.abK hR
   rw[ev]
   exact⟨_,run_indexAt_array hc gF.1 gF.2,ayq hR hρ (by simp[jS])⟩
  .cases hr
 .rename_i k n cs c e1 e2
  rw[e1]at vi;rw[e2]at vx
  rw[vi.pG]
  split at hr
  .rename_i gF
   simp only[aC]at hr;subst hr
   obtain⟨b,o,vs,ev,hb,hrs,oz⟩:=vx.alI.aFa
   rw[ev]
   exact⟨_,run_indexAt_array hc gF.1 gF.2,ayr hb hrs oz (by simp[jS])⟩
  .cases hr
 .cases hr
def aLD{t:bO}{x i:ej}{x' i':dI}(h:oR φ w0 L E st a w)(hx:db φ x x'=aB)(hi:db φ i i'=aB)(ht:P.underlying t=ai .string){r:A}
 (hr:(match i'.v st,x'.v st with
  |.int _ n,.str s=>if 0<=n then(s[n.toNat]?).map λb=>A.int .u8 b.toNat else au
  |_,_=>au)=ai r):Val P φ E st a w (alm t (a.eval x) (a.eval i)) r:=by
 have vx:=(eM h hx).1
 have vi:=(eM h hi).1
 split at hr
 .rename_i k n s e1 e2
  rw[e1]at vi;rw[e2]at vx
  rw[vi.pG,vx.Zf]
  split at hr
  .rename_i h0
   obtain⟨y,hy,rfl⟩:=aM.1 hr
   refine jh (v:=.int .u8 y.toNat) ?_ (.int _ _)
   have:(pQ s.toArray)[n.toNat]? =ai y:=by obtain⟨dE,hy'⟩:=mC.1 hy;(have Aq:n.toNat<(pQ s.toArray).size:=by simpa[aAp]using dE);rw[getElem?_pos (pQ s.toArray) n.toNat Aq];exact wE ai hy'
   simp[alm,asIntOf,underlying,ht,h0,this]
  .cases hr
 .cases hr
def aIs{t:bO}{len z:ax}{n:aq ax}{x i:ej}{x' i':dI}(h:oR φ w0 L E st a w)(hx:db φ x x'=aB)(hi:db φ i i'=aB){e:bO}
 (ht:P.underlying t=ai (.array len e)) {ti:WJ} (hti:P.info? e=ai ti) (hz:ti.size=z) (hn:adf P e n=aB) {r:A}
 (hr:(match i'.v st,x'.v st with
  |.int _ j,.agg cs=>if 0<=j/\j<(len:aw)then lB cs (j.toNat*z) n else au
  |_,_=>au)=ai r):Val P φ E st a w (alm t (a.eval x) (a.eval i)) r:=by
 have hco:=eM h hx
 have vi:=(eM h hi).1
 split at hr
 .rename_i k j cs e1 e2
  rw[e1]at vi;rw[e2]at hco
  rw[vi.pG]
  obtain⟨vs,ev,hvs⟩:=hco.1.OQ
  rw[ev]at hco⊢
  split at hr
  .rename_i h0
   obtain⟨v,jn,hv,htk⟩:=anZ (P:=P) (w:=w) hn hvs hr
   refine⟨v,?_,hv,λk b hk=>hco.2 k b (htk k b hk)⟩
   simp[alm,asIntOf,underlying,ht,h0.1,h0.2,sizeOf,typeInfo,hti,hz,jn]
  .cases hr
 .cases hr
end
end Go.Ab
namespace Go.Ab
section
variable {P:bV} {φ:ax->ax} {w0:aU} {L:nU} {E:Env} {st:St} {a:alk} {w:aU}
def BU{t e:bO}{i:WJ}(ht:P.underlying t=ai (.slice e))(hi:P.info? e=ai i){ad:aq afQ}{len cap l h:ax}{lo hi:aq aL} (hlo:(lo=au/\l=0)\/∃k,lo=ai (.int k l)) (hhi:(hi=au/\h=len)\/∃k,hi=ai (.int k h)) (h1:l<=h) (h2:h<=cap): (wS t (.slice ad len cap) lo hi au).run P w=.ok (.slice (if cap=l then ad else ad.map (·.add (l*i.size))) (h-l) (cap-l)) w:=by
 have c1:(0:aw)<=(l:aw)/\(l:aw)<=(h:aw):=by omega
 have c2:(0:aw)<=(h:aw)/\(h:aw)<=(cap:aw):=by omega
 rcases hlo with ⟨rfl,rfl⟩|⟨k,rfl⟩<;>rcases hhi with ⟨rfl,rfl⟩|⟨k',rfl⟩<;> simp[wS,aLM,underlying,ht,aCr,aC0,asIntOf,sizeOf,typeInfo,hi,c1,c2,h1,h2]
def VI{t:bO}(ht:P.underlying t=ai .string){s:ah ay}{l h:ax}{lo hi:aq aL} (hlo:(lo=au/\l=0)\/∃k,lo=ai (.int k l)) (hhi:(hi=au/\h=ae s)\/∃k,hi=ai (.int k h)) (h1:l<=h) (h2:h<=ae s): (wS t (.string ⟨s.toArray⟩) lo hi au).run P w=.ok (.string ⟨((s.take h).drop l).toArray⟩) w:=by
 have Aq:(pQ s.toArray).size=ae s:=by show s.toArray.size=_;simp
 have c1:(0:aw)<=(l:aw)/\(l:aw)<=(h:aw):=by omega
 have c2:(0:aw)<=(h:aw)/\(h:aw)<=(ae s:aw):=by omega
 have hex:(pQ s.toArray).extract l h=⟨((s.take h).drop l).toArray⟩:=by apply YU;simp[List.extract_eq_take_drop,List.drop_take]
 rcases hlo with ⟨rfl,rfl⟩|⟨k,rfl⟩<;>rcases hhi with ⟨rfl,rfl⟩|⟨k',rfl⟩<;> simp[wS,aLM,underlying,ht,aCr,aC0,asIntOf,Aq,c1,c2,h1,h2,hex]<;>simpa using hex
def Jk(φ:ax->ax):aq ej->aq dI->aW |none,au=>aB |some x,ai y=>db φ x y |_,_=>aA
def ahe(h:oR φ w0 L E st a w){lo:aq ej}{lo':aq dI}(hx:Jk φ lo lo'=aB){k:aLN}{l:aw}(hl:(lo'.map (dI.v st)).getD (.int .i64 0)=.int k l)(h0:0<=l): (lo.map a.eval=au/\l.toNat=0)\/∃k,lo.map a.eval=ai (.int k (l.toNat:ax)):=by
 unfold Jk at hx;split at hx;·simp at hl;exact .inl ⟨rfl,by omega⟩
 .rename_i x y;simp at hl;have:=(eM h hx).1;rw[hl]at this;exact .inr ⟨k,by simp[this.pG];omega⟩
 .cases hx
def aE3(h:oR φ w0 L E st a w){hi:aq ej}{Vj:aq dI}(hx:Jk φ hi Vj=aB): (Vj.map (dI.v st)=au->hi.map a.eval=au)/\∀k m,Vj.map (dI.v st)=ai (.int k m)->hi.map a.eval=ai (.int k m):=by
 unfold Jk at hx;split at hx;·exact⟨λ_=>rfl,λk m hm=>by simp at hm⟩
 .rename_i x y;refine⟨λhm=>by simp at hm,λk m hm=> ?_⟩;simp at hm;have:=(eM h hx).1;rw[hm]at this;simp[this.pG]
 .cases hx
def aFQ{t:bO}{x:ej}{x':dI}{lo hi:aq ej}{lo' Vj:aq dI}(h:oR φ w0 L E st a w)(hx:db φ x x'=aB)(hl:Jk φ lo lo'=aB)(hh:Jk φ hi Vj=aB)
 (ht:P.underlying t=ai .string) {r:A}
 (hr:(match(lo'.map (dI.v st)).getD (.int .i64 0),Vj.map (dI.v st),x'.v st with
  |.int _ l,ai (.int _ h),.str s=>if 0<=l/\l<=h/\h<=(ae s:aw)then ai (A.str ((s.take h.toNat).drop l.toNat))else au
  |.int _ l,au,.str s=>if 0<=l/\l<=(ae s:aw)then ai (.str (s.drop l.toNat))else au
  |_,_,_=>au)=ai r):Val P φ E st a w (wS t (a.eval x) (lo.map a.eval) (hi.map a.eval) au) r:=by
 have vx:=(eM h hx).1
 have vh:=aE3 h hh
 split at hr
 .rename_i k l k' m s e1 e2 e3
  split at hr
  .rename_i hc
   simp only[aC]at hr;subst hr
   rw[e3]at vx
   rw[vx.Zf]
   refine jh (VI ht (ahe h hl e1 hc.1) (.inr ⟨k',?_⟩) (by omega) (by omega)) (.str _)
   rw[vh.2 _ _ e2];simp;omega
  .cases hr
 .rename_i k l s e1 e2 e3
  split at hr
  .rename_i hc
   simp only[aC]at hr;subst hr
   rw[e3]at vx
   rw[vx.Zf]
   have:=VI (P:=P) (w:=w) (s:=s) ht (ahe h hl e1 hc.1) (.inl ⟨vh.1 e2,rfl⟩) (by omega) (bx _)
   rw[bc]at this
   exact jh this (.str _)
  .cases hr
 .cases hr
def apQ{ok:ax->Prop}{b o cap z l h:ax}{xs:ah A}{vs:ah aL}(hb:ok b)(hz:∀x∈xs,ae x.cells=z)(hc:ae xs<=cap) (hr:dp φ w ok vs (xs.flatMap A.cells)) (hv:dw w b o vs) (h1:l<=h) (h2:h<=ae xs): gY φ w ok (.slice (if cap=l then ai ⟨b,o,au⟩else(ai (⟨b,o,au⟩:afQ)).map (·.add (l*z))) (h-l) (cap-l)) (.sl z ((xs.take h).drop l)):=by
 have eJ:ae ((xs.take h).drop l)=h-l:=by simp;omega
 by_cases he:h-l=0;·have:(xs.take h).drop l=[]:=fQ (by omega);rw[this,he];exact .Rx _ _ _
 .have iS:¬cap=l:=by omega
  rw[aP iS,aS,Oj,<-eJ];have hz1:∀x∈xs.take h,ae x.cells=z:=λx hx=>hz x (jO hx);refine .sl b (o+l*z) (cap-l) z _ ((vs.take (h*z)).drop (l*z)) hb (λx hx=>hz1 x (dk hx)) (by omega) ?_ ((hv.take _).drop _);rw[su hz1,Dc hz];exact(hr.take _).drop _
def aIv{t e:bO}{i:WJ}{x:ej}{x':dI}{lo hi:aq ej}{lo' Vj:aq dI}(h:oR φ w0 L E st a w)(hx:db φ x x'=aB)(hl:Jk φ lo lo'=aB)(hh:Jk φ hi Vj=aB)
 (ht:P.underlying t=ai (.slice e)) (hi0:P.info? e=ai i) {z:ax} (hz0:i.size=z) {r:A}
 (hr:(match(lo'.map (dI.v st)).getD (.int .i64 0),Vj.map (dI.v st),x'.v st with
  |.int _ l,ai (.int _ h),.sl z' xs=>if 0<=l/\l<=h/\h<=(ae xs:aw)/\z'=z then ai (A.sl z' ((xs.take h.toNat).drop l.toNat))else au
  |.int _ l,au,.sl z' xs=>if 0<=l/\l<=(ae xs:aw)/\z'=z then ai (.sl z' (xs.drop l.toNat))else au
  |.int _ l,ai (.int _ h),.view q off n=>af (st.r q) λR=>if 0<=l/\l<=h/\h<=(n:aw)/\R.z=z then ai (.view q (off+l.toNat) (h.toNat-l.toNat))else au
  |.int _ l,au,.view q off n=>af (st.r q) λR=>if 0<=l/\l<=(n:aw)/\R.z=z then ai (.view q (off+l.toNat) (n-l.toNat))else au
  |_,_,_=>au)=ai r):Val P φ E st a w (wS t (a.eval x) (lo.map a.eval) (hi.map a.eval) au) r:=by
 have vx:=(eM h hx).1
 have vh:=aE3 h hh
 have kv:∀(v:aL) (q off n l m:ax) (R:eO),lL φ E st.r w v (.view q off n)->st.r q=ai R->R.z=z->l<=m->m<=n->
  ((lo.map a.eval=au/\l=0)\/∃k,lo.map a.eval=ai (.int k (l:ax)))->((hi.map a.eval=au/\m=n)\/∃k,hi.map a.eval=ai (.int k (m:ax)))->
  Val P φ E st a w (wS t v (lo.map a.eval) (hi.map a.eval) au) (.view q (off+l) (m-l)):=by
  intro v q off n l m R hv hR hz h1 h2 hlo hhi
  cases hv with
  |data _ _ h=>cases h
  |pz _ _ _ _ h1=>rw[h1]at hR;cases hR
  |pP ad q off R' hq1 hb hn=>
   obtain rfl:m=0:=by omega
   obtain rfl:l=0:=by omega
   refine⟨_,BU ht hi0 hlo hhi (bx _) (bx _),?_,.scalar GZ⟩
   exact .one _ _ (.pP _ _ _ R' hq1 hb (by simpa using hn))
  |view b o cap q off n R' h1' hb hn hc h0 hρ hm=>
   rw[h1']at hR;cases hR
   refine⟨_,BU ht hi0 hlo hhi h1 (by omega),?_,.scalar GZ⟩
   by_cases he:cap=l
   .obtain rfl:l=cap:=he.symm
    obtain rfl:m=l:=by omega
    simp only[Qu]
    exact .one _ _ (.pP _ _ _ R h1' hb (by omega))
   .rw[aP he,aS,Oj,hz0,<-hz,show o+off*R.z+l*R.z=o+(off+l)*R.z from by rw[V3];omega]
    refine .one _ _ (.view b o (cap-l) q (off+l) (m-l) R h1' hb (by omega) (by omega) (by omega) hρ ?_)
    rw[show off+l+(cap-l)=off+cap from by omega]
    exact hm
 have ks:∀(v:aL) (z' l m:ax) (xs:ah A),gY φ w E.ok v (.sl z' xs)->z'=z->l<=m->m<=ae xs->
  ((lo.map a.eval=au/\l=0)\/∃k,lo.map a.eval=ai (.int k (l:ax)))->((hi.map a.eval=au/\m=ae xs)\/∃k,hi.map a.eval=ai (.int k (m:ax)))->
  Val P φ E st a w (wS t v (lo.map a.eval) (hi.map a.eval) au) (.sl z' ((xs.take m).drop l)):=by
  intro v z' l m xs hv hz h1 h2 hlo hhi
  cases hv with
  |Rx ad cap z=>
   obtain rfl:m=0:=by simpa using h2
   obtain rfl:l=0:=by omega
   exact jh (BU ht hi0 hlo hhi (bx _) (by omega)) (by simpa using .Rx _ _ _)
  |sl b o cap z xs vs hb Qz hc hrs oz=>
   subst hz
   refine jh (BU ht hi0 hlo hhi h1 (by omega)) ?_
   rw[hz0]
   exact apQ hb Qz hc hrs oz h1 h2
 split at hr
 .rename_i k l k' m z' xs e1 e2 e3
  split at hr
  .rename_i hc
   simp only[aC]at hr;subst hr
   rw[e3]at vx
   refine ks _ z' l.toNat m.toNat xs vx.an2 hc.2.2.2 (by omega) (by omega) (ahe h hl e1 hc.1) (.inr ⟨k',?_⟩)
   rw[vh.2 _ _ e2];simp;omega
  .cases hr
 .rename_i k l z' xs e1 e2 e3
  split at hr
  .rename_i hc
   simp only[aC]at hr;subst hr
   rw[e3]at vx
   have:=ks _ z' l.toNat (ae xs) xs vx.an2 hc.2.2 (by omega) (bx _) (ahe h hl e1 hc.1) (.inl ⟨vh.1 e2,rfl⟩)
   rwa[bc]at this
  .cases hr
 .rename_i k l k' m q off n e1 e2 e3
  obtain⟨R,hR,hr⟩:=aI.1 hr
  split at hr
  .rename_i hc
   simp only[aC]at hr;subst hr
   rw[e3]at vx
   refine kv _ q off n l.toNat m.toNat R vx.FB hR hc.2.2.2 (by omega) (by omega) (ahe h hl e1 hc.1) (.inr ⟨k',?_⟩)
   rw[vh.2 _ _ e2];simp;omega
  .cases hr
 .rename_i k l q off n e1 e2 e3
  obtain⟨R,hR,hr⟩:=aI.1 hr
  split at hr
  .rename_i hc
   simp only[aC]at hr;subst hr
   rw[e3]at vx
   exact kv _ q off n l.toNat n R vx.FB hR hc.2.2 (by omega) (bx _) (ahe h hl e1 hc.1) (.inl ⟨vh.1 e2,rfl⟩)
  .cases hr
 .cases hr
def kt(φ:ax->ax):ah ej->ah dI->aW | [],[]=>aB |x::xs,y::ys=>db φ x y&&kt φ xs ys |_,_=>aA
def aBQ{f:A->A->aq A}{g:aL->aL->Sem aL}(hfg:∀(v u:aL) (x y z:A),RV φ E st.r w v x->RV φ E st.r w u y->f x y=ai z->∃v',(g v u).run P w=.ok v' w/\gY φ w E.ok v' z) (h:oR φ w0 L E st a w):∀(xs:ah ej) (ys:ah dI) (v:aL) (x:A) (r:A),kt φ xs ys=aB->RV φ E st.r w v x->ys≠ []->adp f x (ys.map (dI.v st))=ai r-> ∃v',((xs.map a.eval).foldlM g v:Sem aL).run P w=.ok v' w/\gY φ w E.ok v' r:=by
 intro xs
 induction xs with
 |nil=>intro ys v x r hc _ iS _;cases ys with
  |nil=>exact bG rfl iS
  |cons y ys=>simp[kt]at hc
 |cons o xs ih=>
  intro ys v x r hc hv _ hf;cases ys with|nil=>simp[kt]at hc|cons y ys=>simp only[kt,az]at hc;simp only[aY,adp]at hf;obtain⟨c,hc1,hf⟩:=aI.1 hf;obtain⟨v1,Zx,hp1⟩:=hfg v _ x _ c hv (eM h hc.1).1 hc1;simp only[aY,List.foldlM_cons,eP,Zx,cZ];cases ys with|nil=>(cases xs with|nil=>simp[adp]at hf;subst hf;exact⟨v1,rfl,hp1⟩|cons o2 xs=>simp[kt]at hc)|cons y2 ys=>exact ih _ v1 c r hc.2 (.one _ _ (.data _ _ hp1)) (by simp) hf
def aHI(v u:aL)(x y z:A)(hv:RV φ E st.r w v x)(hu:RV φ E st.r w u y)(h:avk x y=ai z):∃v',(aGG v u).run P w=.ok v' w/\gY φ w E.ok v' z:=by
 unfold avk at h;split at h
 .rw[hv.pG,hu.pG];split at h;·simp only[aC]at h;subst h;exact⟨_,rfl,.int _ _⟩
  .cases h
 .cases h
def aHJ(v u:aL)(x y z:A)(hv:RV φ E st.r w v x)(hu:RV φ E st.r w u y)(h:avl x y=ai z):∃v',(aGH v u).run P w=.ok v' w/\gY φ w E.ok v' z:=by
 unfold avl at h;split at h
 .rw[hv.pG,hu.pG];split at h;·simp only[aC]at h;subst h;exact⟨_,rfl,.int _ _⟩
  .cases h
 .cases h
def awl{f:A->A->aq A}{g:aL->aL->Sem aL}(hfg:∀(v u:aL) (x y z:A),RV φ E st.r w v x->RV φ E st.r w u y->f x y=ai z->∃v',(g v u).run P w=.ok v' w/\gY φ w E.ok v' z) (h:oR φ w0 L E st a w) {o:ej} {os:ah ej} {y:dI} {ys:ah dI} (h1:db φ o y=aB) (h2:kt φ os ys=aB) (iS:ys≠ []) {r:A} (hr:adp f (y.v st) (ys.map (dI.v st))=ai r):Val P φ E st a w ((os.map a.eval).foldlM g (a.eval o)) r:=by obtain⟨v,jn,Dx⟩:=aBQ hfg h os ys _ _ r h2 (eM h h1).1 iS hr;exact jh jn Dx
def aIq{x:ej}{x':dI}{i:ax}(h:oR φ w0 L E st a w)(hx:db φ x x'=aB){r:A}(hr:(match x'.v st with|.xv xs=>xs[i]? |_=>au)=ai r):
 Val P φ E st a w (aII (a.eval x) i) r:=by
 have hco:=eM h hx
 split at hr
 .rename_i xs e
  rw[e]at hco
  obtain⟨vs,ev,hvs⟩:=hco.1.atl
  rw[ev]at hco⊢
  obtain⟨v,hv,hp⟩:=hvs.get hr
  refine⟨v,by simp[aII,hv],.one _ _ hp,λk b ht=> ?_⟩
  cases ht with
  |one _ _ _ _ ht=>exact hco.2 k b (.xv vs xs i k b v r hv hr ht)
  |xv=>cases hp with|data _ _ h=>cases h
  |agg us ys j k b v' a' rW ha' ht=>
   generalize hu:vt us.toArray=u at hp
   cases hp with
   |data _ _ h=>subst hu;exact bG (.agg us ys j k b v' a' rW ha' ht) (Tk.rm h)
 .cases hr
end
end Go.Ab
namespace Go.Ab
section
variable {P:bV} {φ:ax->ax} {w0:aU} {L:nU} {E:Env} {st:St} {a:alk} {w:aU}
def aDj(P:bV)(φ:ax->ax)(w0:aU)(L:nU)(E:Env)(st:St)(a:alk)(w:aU)(S:Sem aL)(x:A):Prop:=∃v w' E',S.run P w=.ok v w'/\Ext w w'/\E.Le E' w w'/\RV φ E' st.r w' v x/\WM w0 L E' st a w' v x
def Val.two(h:oR φ w0 L E st a w){S:Sem aL}{x:A}:Val P φ E st a w S x->aDj P φ w0 L E st a w S x |⟨v,h1,h2,h3⟩=>⟨v,w,E,h1,.refl w,.refl E w w,h2,h3.tok h⟩
def ato{s d:bO}{k:aLN}{ds:aGN}{x:ej}{x':dI}(h:oR φ w0 L E st a w)(hx:db φ x x'=aB)(hs:P.underlying s=ai ds)(hd:P.underlying d=ai (.int k)){r:A} (hr:(match x'.v st with|.int _ n=>ai (A.int k (k.wrap n))|_=>au)=ai r):Val P φ E st a w (convert s d (a.eval x)) r:=by
 have vx:=(eM h hx).1;split at hr;·rename_i j n e;simp only[aC]at hr;subst hr;rw[e]at vx;rw[vx.pG];exact jh (by simp[convert,jN hs,jN hd];rfl) (.int _ _)
 .cases hr
def auz{v:aL}{x:A}{z:ax}{xs:ah A}(hr:∀q R,st.r q=ai R->pS φ E st.r w q R)(hv:RV φ E st.r w v x)(hx:elems st.r x=ai (z,xs)): ∃ad cap,v=.slice ad (ae xs) cap/\ae xs<=cap/\(xs=[]\/∃b o vs,ad=ai ⟨b,o,au⟩/\dp φ w E.ok vs (xs.flatMap A.cells)/\dw w b o vs/\(∀y∈xs,ae y.cells=z)):=by
 unfold elems at hx;split at hx<;>(try(cases hx;done))
 .simp only[aC,bS]at hx;obtain⟨rfl,rfl⟩:=hx;cases hv.an2 with|Rx ad cap z=>exact⟨ad,cap,rfl,jJ _,.inl rfl⟩|sl b o cap z xs vs hb hz hc h LC=>exact⟨_,cap,rfl,hc,.inr ⟨b,o,vs,rfl,h,LC,hz⟩⟩
 .simp only[aC,bS]at hx;obtain⟨rfl,rfl⟩:=hx;cases hv.Zh with|data _ _ h=>cases h|Ls ad k z=>exact⟨ad,0,rfl,jJ _,.inl rfl⟩|tok b o cap k z xs vs hc h0 hz h LC hm=>exact⟨_,cap,rfl,hc,.inr ⟨b,o,vs,rfl,h,LC,hz⟩⟩
 .simp only[aC,bS]at hx;obtain⟨rfl,rfl⟩:=hx;exact⟨au,0,hv.SN,jJ _,.inl rfl⟩
 .rename_i q off n;obtain⟨R,hR,hx⟩:=aM.1 hx;simp only[bS]at hx;obtain⟨rfl,rfl⟩:=hx;cases hv.FB with|data _ _ h=>cases h|pz _ _ _ _ h1=>rw[h1]at hR;cases hR|pP ad q off R' h1 hb hn=>exact⟨ad,0,by simp,by simp,.inl (by simp)⟩|view b o cap q off n R' h1 hb hn hc h0 hρ hm=>rw[h1]at hR;cases hR;(have eJ:ae ((R.xs.drop off).take n)=n:=by simp;omega);refine⟨_,cap,by rw[eJ],by omega,?_⟩;have hro:=hr q R h1;cases hro with|empty z h=>exact .inl (by simp)|sl b' o' z xs vs iA hz h rW hr'=>rw[hρ]at iA;cases iA;refine .inr ⟨b,_,(vs.drop (off*z)).take (n*z),rfl,?_,(rW.drop _).take _,λy hy=>hz y (dk (jO hy))⟩;rw[Dc (λx hx=>hz x (dk hx)),su hz];exact(h.drop _).take _|box=>cases hb
def adb{x:A}{xs:ah A}{l:ah ay}(h:bytesOf (x::xs)=ai l):∃n l',x=.int .u8 n/\bytesOf xs=ai l'/\l=dW n.toNat::l':=by
 unfold bytesOf at h;split at h;·rename_i e;cases e
 .rename_i n l0 e;cases e;obtain⟨l',hl',rfl⟩:=aM.1 h;exact⟨n,l',rfl,hl',rfl⟩
 .cases h
def alZ:∀{xs:ah A} {l:ah ay} {vs:ah aL},bytesOf xs=ai l->dp φ w E.ok vs xs->
 ∃ns:ah aw,vs=ns.map (fq .u8)/\l=ns.map (λn=>dW n.toNat)
 | [],l,vs,hl,h=>by cases h;simp[bytesOf]at hl;subst hl;exact⟨[],rfl,rfl⟩
 |x::xs,l,vs,hl,h=>by(obtain⟨n,l',rfl,hl',rfl⟩:=adb hl;cases h with|cons v _ vs _ hv ht=>obtain⟨ns,rfl,rfl⟩:=alZ hl' ht;cases hv;exact⟨n::ns,rfl,rfl⟩)
def alY:∀{xs:ah A} {l:ah ay},bytesOf xs=ai l->xs.flatMap A.cells=xs
 | [],l,hl=>rfl
 |x::xs,l,hl=>by obtain⟨n,l',rfl,hl',rfl⟩:=adb hl;rw[cr,alY hl'];rfl
def foldl_push(ns:ah aw):∀jx:nD,ns.foldl (λr n=>r.push (dW n.toNat)) jx=⟨(jx.data.toList++ns.map λn=>dW n.toNat).toArray⟩:=by induction ns with|nil=>intro jx;apply YU;simp|cons n ns ih=>intro jx;rw[arU,ih];apply YU;simp
def aoH{s d e:bO}{x:ej}{x':dI}(h:oR φ w0 L E st a w)(hx:db φ x x'=aB)(hs:P.underlying s=ai (.slice e))(he:P.underlying e=ai (.int .u8)) (hd:P.underlying d=ai .string) {r:A} (hr:(af (elems st.r (x'.v st)) λ(z,xs)=>if z=1 then(bytesOf xs).map A.str else au)=ai r):Val P φ E st a w (convert s d (a.eval x)) r:=by
 have vx:=(eM h hx).1;obtain⟨⟨z,xs⟩,hel,hr⟩:=aI.1 hr;simp only at hr;split at hr
 .rename_i hz;obtain⟨l,hl,rfl⟩:=aM.1 hr;obtain⟨ad,cap,ev,hc,Mc⟩:=auz h.roots vx hel;rw[ev];refine jh (v:=.string ⟨l.toArray⟩) ?_ (.str _);rw[run_convert_bytes_string w s d e ad _ cap hs he hd];rcases Mc with rfl|⟨b,o,vs,rfl,hrs,oz,Qz⟩
  .simp[bytesOf]at hl;subst hl;cases ad with|none=>rfl|some ad=>simp[Conv.bytesToString,loadCells,loadCellsFrom];rfl
  .rw[alY hl]at hrs;obtain⟨ns,rfl,rfl⟩:=alZ hl hrs;have eJ:=hrs.length;have hlc:=run_loadCells_list (P:=P) (w:=w) ⟨b,o,au⟩ _ (λj v hj=>by rw[World.nf];exact oz j v hj);rw[run_bytesToString w ⟨b,o,au⟩ (ae xs) cap ns (by rw[<-eJ];exact hlc),foldl_push];simp
 .cases hr
end
end Go.Ab
namespace Go.Ab
section
variable {P:bV} {φ:ax->ax} {w0:aU} {L:nU} {E:Env} {st:St} {a:alk} {w w':aU}
def L9{C:kZ aL}{e:bO}(hh:w'.heap=w.heap.push (.cells C e))(he:w'.os=w.os/\w'.output=w.output):Ext w w':=
 ⟨by rw[hh];simp,λb hb=>by rw[hh,Array.getElem?_push,aP (by omega)],he⟩
def He{z:ax}{C:kZ aL}{e:bO}(hh:w'.heap=w.heap.push (.cells C e)):hZ z w' w.heap.size C.size:=
 ⟨C,e,(0,0),by rw[hh];simp,bx _,λoff _=>by simp[yT,hh]⟩
def uw{C:kZ aL}{e:bO}(hh:w'.heap=w.heap.push (.cells C e)):dw w' w.heap.size 0 C.toList:=λj v hj=>by simp only[b9,hh,DC];simpa using hj
def aEQ(h:oR φ w0 L E st a w){m:ax}(he:Ext w w')(Aq:w.heap.size<w'.heap.size){k z cap:ax}(qP:hZ z w' w.heap.size m){xs:ah A}{vs:ah aL}(hz:∀x∈xs,ae x.cells=z) (hr:dp φ w E.ok vs (xs.flatMap A.cells)) (hv:dw w' w.heap.size 0 vs) (hc:ae xs<=cap) (hs:cap*z<=m): RV φ E st.r w' (.slice (ai ⟨w.heap.size,0,au⟩) (ae xs) cap) (.tok k z xs)/\WM w0 L E st a w' (.slice (ai ⟨w.heap.size,0,au⟩) (ae xs) cap) (.tok k z xs):=by
 have aR5:¬E.ok w.heap.size:=λhk=>xB _ (h.okz _ hk);have hr':dp φ w' E.ok vs (xs.flatMap A.cells):=hr.mono (λb hb=>he.same b (h.okz b hb)) (λ_ hb=>hb);by_cases h0:cap=0
 .subst h0;obtain rfl:xs=[]:=fQ (by omega);have hno:∀k' b,¬Tk (.slice (ai ⟨w.heap.size,0,au⟩) (ae ([]:ah A)) 0) (.tok k z []) k' b:=by intro k' b ht;cases ht with|one _ _ _ _ ht=>cases ht;contradiction
  exact⟨.one _ _ (.Ls _ _ _),⟨λk' b ht=>(hno k' b ht).elim,λi k1 k2 b b' ht=>(hno _ _ ht).elim,λk1 k2 b b' ht=>(hno _ _ ht).elim⟩⟩
 .have hb:∀k' b,Tk (.slice (ai ⟨w.heap.size,0,au⟩) (ae xs) cap) (.tok k z xs) k' b->b=w.heap.size/\k'=k:=by intro k' b ht;cases ht with|one _ _ _ _ ht=>cases ht;exact⟨rfl,rfl⟩
  refine⟨.one _ _ (.tok w.heap.size 0 cap k z xs vs hc h0 hz hr' hv (qP.le (by omega))),⟨λk' b ht=> ?_,λi k1 k2 b b' ht ht' _=> ?_,λk1 k2 b b' ht ht' iS=> ?_⟩⟩;·obtain⟨rfl,rfl⟩:=hb _ _ ht;exact⟨⟨aR5,.inl h.grow,Aq⟩,λq b' o hq hρ e=>by have:=(h.rz q b' o hq hρ).2.2;omega⟩
  .obtain⟨rfl,rfl⟩:=hb _ _ ht;have:=(h.tz i k2 b' ht').1.2.2;omega
  .obtain⟨_,rfl⟩:=hb _ _ ht;obtain⟨_,rfl⟩:=hb _ _ ht';exact bG rfl iS
def asI(h:oR φ w0 L E st a w){C:kZ aL}{e:bO}(hh:w'.heap=w.heap.push (.cells C e))(hev:w'.os=w.os/\w'.output=w.output){k z cap:ax}{xs:ah A}{vs:ah aL}(hz:∀x∈xs,ae x.cells=z)
 (hr:dp φ w E.ok vs (xs.flatMap A.cells)) (hv:dw w' w.heap.size 0 vs) (hc:ae xs<=cap) (hs:cap*z<=C.size):
 RV φ E st.r w' (.slice (ai ⟨w.heap.size,0,au⟩) (ae xs) cap) (.tok k z xs)/\WM w0 L E st a w' (.slice (ai ⟨w.heap.size,0,au⟩) (ae xs) cap) (.tok k z xs):=
 aEQ h (L9 hh hev) (by rw[hh];simp) (He hh) hz hr hv hc hs
def awk(h:oR φ w0 L E st a w){S:Sem aL}{C:kZ aL}{e:bO}(hh:w'.heap=w.heap.push (.cells C e))(hev:w'.os=w.os/\w'.output=w.output){k z cap:ax}{xs:ah A}{vs:ah aL}(hz:∀x∈xs,ae x.cells=z) (jn:S.run P w=.ok (.slice (ai ⟨w.heap.size,0,au⟩) (ae xs) cap) w') (hr:dp φ w E.ok vs (xs.flatMap A.cells)) (hv:dw w' w.heap.size 0 vs) (hc:ae xs<=cap) (hs:cap*z<=C.size):aDj P φ w0 L E st a w S (.tok k z xs):=by obtain⟨h1,h2⟩:=asI (k:=k) h hh hev hz hr hv hc hs;exact⟨_,w',E,jn,L9 hh hev,.refl E w w',h1,h2⟩
def asa(P:bV)(e:bO)(z:ax)(zero:A):aW:=match P.info? e with
 |some i=>i.size==z&&(match i.zero with|some v=>adg v.cells.toList zero.cells&&v.cells.size==z|none=>aA)
 |none=>aA
def YZ{e:bO}{z:ax}{zero:A}(h:asa P e z zero=aB):∃i v,P.info? e=ai i/\i.size=z/\i.zero=ai v/\adg v.cells.toList zero.cells=aB/\v.cells.size=z:=by
 unfold asa at h;split at h
 .rename_i i hi;simp only[az,cS]at h;obtain⟨h1,h2⟩:=h;split at h2;·rename_i v hv;simp only[az,cS]at h2;exact⟨i,v,hi,h1,hv,h2.1,h2.2⟩
  .cases h2
 .cases h
def se(z:kZ aL):∀c:ax,(madeCells z (c*z.size)).toList=(bK c z.toList).flatten
 |0=>by simp[madeCells]
 |c+1=>by
  have ih:=se z c;rw[List.replicate_succ',aAw,<-ih];simp only[madeCells,Array.toList_map,Array.toList_range,eK,List.range_add,dP,Ax,WK,List.flatten_nil,cD];congr 1;apply List.ext_getElem?;intro i;by_cases hi:i<z.size;·simp[hi,Nat.mod_eq_of_lt hi]
  .simp[hi]
def EI{ok:ax->Prop}{vs:ah aL}{zero:A}(h:dp φ w ok vs zero.cells):∀c:ax,dp φ w ok (bK c vs).flatten ((bK c zero).flatMap A.cells)
 |0=>.nil
 |c+1=>by simpa[List.replicate_succ]using h.append (EI h c)
def aIu{t e:bO}{z d bytes:ax}{zero:A}{l c:ej}{l' c':dI}(h:oR φ w0 L E st a w)(hl:db φ l l'=aB)(hc:db φ c c'=aB)(ht:P.underlying t=ai (.slice e))
 (hz:asa P e z zero=aB) (hb:∀i,P.info? e=ai i->i.bytes=bytes) {r:A}
 (hr:(match l'.v st,c'.v st with
  |.int .i64 n,.int .i64 m=>
   if 0<=n/\n<=m/\m<(lim:aw)/\bytes<=256/\ae zero.cells=z then ai (A.tok (8*d) z (bK n.toNat zero))else au
  |_,_=>au)=ai r):aDj P φ w0 L E st a w (Instr.makeSlice t (a.eval l) (a.eval c)) r:=by
 have vl:=(eM h hl).1
 have vc:=(eM h hc).1
 split at hr
 .rename_i n m e1 e2
  rw[e1]at vl;rw[e2]at vc
  rw[vl.pG,vc.pG]
  split at hr
  .rename_i gF
   obtain⟨h0,hnm,hm,aUk,hzl⟩:=gF
   simp only[aC]at hr;subst hr
   obtain⟨i,v,hi,Aq,ady,oz,hvz⟩:=YZ hz
   have hbi:=hb i hi
   have fm:m<1099511627776:=by simpa[lim]using hm
   have aKy:(i.bytes:aw)*m<=281474976710656:=by rw[hbi];(have h1:(bytes:aw)<=256:=by omega);have h2:(bytes:aw)*m<=256*m:=gT h1 (by omega);omega
   have jn:=run_make w t e i v ht hi ady .i64 .i64 n m h0 hnm aKy (by omega)
   have eJ:ae (bK n.toNat zero)=n.toNat:=by simp
   have auW:(madeCells v.cells (m.toNat*i.size)).toList=(bK m.toNat v.cells.toList).flatten:=by rw[Aq,<-hvz];exact se _ _
   have j7:=uw (w:=w) (w':=w.alloc (.cells (madeCells v.cells (m.toNat*i.size)) e)) rfl
   rw[auW]at j7
   have axJ:(bK m.toNat v.cells.toList).flatten=(bK n.toNat v.cells.toList).flatten++(bK (m.toNat-n.toNat) v.cells.toList).flatten:=by rw[<-aAw,List.replicate_append_replicate];congr 2;omega
   rw[axJ]at j7
   refine awk (w':=w.alloc (.cells (madeCells v.cells (m.toNat*i.size)) e)) h rfl ⟨rfl,rfl⟩ (λx hx=>by rw[V2 hx];exact hzl) (by rw[eJ];exact jn) (EI (Cx oz) _) j7.left (by rw[eJ];omega) (by rw[size_madeCells,Aq];exact bx _)
  .cases hr
 .cases hr
def aA2(off:ax):∀(vs:ah aL) (j:ax) (cs:kZ aL),off+j+ae vs<=cs.size-> ((vs.zipIdx j).foldl (λcs (p:aL×ax)=>cs.setIfInBounds (off+p.2) p.1) cs).toList=cs.toList.take (off+j)++vs++cs.toList.drop (off+j+ae vs):=by intro vs;induction vs with|nil=>intro j cs h;simp|cons v vs ih=>intro j cs h;simp only[bl]at h;rw[List.zipIdx_cons,arU,ih (j+1) _ (by simp;omega)];(have dE:off+j<ae cs.toList:=by simp;omega);simp only[Array.toList_setIfInBounds,bl];rw[show off+(j+1)=(off+j)+1 from by omega,List.take_set,List.drop_set,aQ (by omega),show off+j+1+ae vs=off+j+(ae vs+1)from by omega];congr 1;(have ajd:off+j<cs.size:=by simpa using dE);rw[jo dE,List.set_append];simp[cO,acK (Nat.le_of_lt ajd)]
def Q3{place:ax->aq (ax×ax)}{cells:kZ aL}{i off:ax}{v:aL}{rest:ah (ax×aL)}(hp:place i=ai (off,v.cells.size))(hb:off+v.cells.size<=cells.size): ∃jq,jq.toList=cells.toList.take off++v.cells.toList++cells.toList.drop (off+v.cells.size)/\afR place cells ((i,v)::rest)=afR place jq rest:=by
 refine⟨v.cells.zipIdx.foldl (λcs (c,j)=>cs.setIfInBounds (off+j) c) cells,?_,?_⟩;·rw[<-Array.foldl_toList,Array.toList_zipIdx];have:=aA2 off v.cells.toList 0 cells (by simpa using hb);simpa using this
 .simp only[afR,hp];rw[aP];simp;omega
def hJ.set{p:aL->A->Prop}{vs us:ah aL}{cs ds:ah A}(h:hJ p vs cs)(hu:hJ p us ds){off:ax}{Vc:ah A}(hs:setCells cs off ds=ai Vc): hJ p (vs.take off++us++vs.drop (off+ae us)) Vc/\off+ae us<=ae vs/\ae Vc=ae cs:=by
 unfold setCells at hs;split at hs
 .rename_i wi;simp only[aC]at hs;subst hs;have hul:=hu.1;refine⟨?_,by rw[h.1,hul];exact wi,by simp;omega⟩;have h1:hJ p (vs.take off) (cs.take off):=by simpa using h.WT 0 off
  have h2:hJ p (vs.drop (off+ae us)) (cs.drop (off+ae ds)):=by have:=h.WT (off+ae us) (ae vs);rw[cH (by simp),cH (by simp[h.1])]at this;rwa[hul]at this⊢
  exact(h1.append hu).append h2
 .cases hs
def PC(φ:ax->ax)(E:Env)(st:St)(a:alk)(w:aU)(v:aL)(x:A):Prop:=lL φ E st.r w v x/\∀k b,RJ v x k b->∃i,Tk (a.eval (.tmp i)) (st.t i) k b
def A.Ly{x:A}(h:∀cs,x≠ .agg cs):x.cells=[x]:=by cases x<;>first|rfl|exact bG rfl (h _)
def ahr{v:aL}{x:A}(hv:RV φ E st.r w v x)(hs:nS st.r x=aB)(hx:∀cs,x≠ .agg cs):lL φ E st.r w v x/\v.cells= #[v]:=by
 have dat:gY φ w E.ok v x->lL φ E st.r w v x/\v.cells= #[v]:=by intro h1;have h4:=h1.Ul hx;exact⟨.data _ _ h1,by cases v<;>first|rfl|exact bG rfl (h4.1 _)⟩
 cases hv with
 |one _ _ h1=>cases h1 with
  |any=>simp[nS,ek]at hs
  |undef=>simp[nS,ek]at hs
  |data _ _ h1=>exact dat h1
  |Ls=>exact⟨.Ls _ _ _,rfl⟩
  |tok b o cap k z xs vs LC h0 hz h rW hr=>exact⟨.tok b o cap k z xs vs LC h0 hz h rW hr,rfl⟩
  |pz _ _ _ _ h1=>simp[nS,h1]at hs
  |pP ad q off R h1 hb hn=>exact⟨.pP ad q off R h1 hb hn,rfl⟩
  |view b o cap q off n R h1 hb hn LC h0 hρ hr=>exact⟨.view b o cap q off n R h1 hb hn LC h0 hρ hr,rfl⟩
  |Uf _ _ _ _ h1=>simp[nS,h1]at hs
  |loc b o q i c R h1 hρ=>exact⟨.loc b o q i c R h1 hρ,rfl⟩
 |xv=>simp[nS,ek]at hs
 |agg=>exact bG rfl (hx _)
 |fn f vs xs h1=>
  simp only[nS,ek,aGo]at hs;subst hs;have:=h1.1;simp at this;subst this;exact⟨.data _ _ (.fn f [] [] .nil),rfl⟩
def X8{v:aL}{x:A}(hv:RV φ E st.r w v x)(hc:LK st a v x)(hs:x.cells.all (nS st.r)=aB):hJ (PC φ E st a w) v.cells.toList x.cells:=by
 by_cases hx:∃cs,x=.agg cs;·obtain⟨cs,rfl⟩:=hx;obtain⟨vs,rfl,h⟩:=hv.OQ;refine⟨by simpa[aoZ,A.cells]using h.1,λj v x rW hx=> ?_⟩;simp only[aoZ,A.cells]at rW hx;exact⟨h.2 j v x rW hx,λk b ht=>hc k b (.agg vs cs j k b v x rW hx ht)⟩
 .have TL:∀cs,x≠ .agg cs:=λcs e=>hx ⟨cs,e⟩;rw[A.Ly TL]at hs⊢;simp only[eQ,Il,Bool.and_true]at hs;obtain⟨h1,h2⟩:=ahr hv hs TL;rw[h2];exact .cons ⟨h1,λk b ht=>hc k b (.one _ _ _ _ ht)⟩ .nil
def RR(φ:ax->ax)(place:ax->aq (ax×ax)):ah (ax×ej)->ah (ax×ax×dI)->aW | [],[]=>aB |(i,x)::l,(off,z,y)::m=>place i==ai (off,z)&&db φ x y&&RR φ place l m |_,_=>aA
def aBN(h:oR φ w0 L E st a w){place:ax->aq (ax×ax)}:∀(l:ah (ax×ej)) (m:ah (ax×ax×dI)) (cells:kZ aL) (cs Vc:ah A),RR φ place l m=aB-> hJ (PC φ E st a w) cells.toList cs->JY st cs m=ai Vc->∃jq,afR place cells (l.map λp=>(p.1,a.eval p.2))=ai jq/\hJ (PC φ E st a w) jq.toList Vc:=by intro l;induction l with|nil=>(intro m cells cs Vc hc hv hf;cases m with|nil=>simp[JY]at hf;subst hf;exact⟨cells,rfl,hv⟩|cons=>simp[RR]at hc)|cons p l ih=>intro m cells cs Vc hc hv hf;obtain⟨i,x⟩:=p;cases m with|nil=>simp[RR]at hc|cons q m=>obtain⟨off,z,y⟩:=q;simp only[RR,az,cS]at hc;obtain⟨⟨hp,hx⟩,hc⟩:=hc;simp only[JY]at hf;split at hf;(·rename_i gF;obtain⟨hzl,aEp⟩:=gF;obtain⟨cs1,hs,hf⟩:=aI.1 hf;have ho:=eM h hx;have jy:=X8 ho.1 ho.2 aEp;(have Aq:(a.eval x).cells.size=z:=by have:=jy.1;simp at this;omega);obtain⟨h1,h2,h3⟩:=hv.set jy hs;simp only[ai4]at h1 h2;obtain⟨jq,hc1,hc2⟩:=Q3 (place:=place) (cells:=cells) (i:=i) (v:=a.eval x) (rest:=l.map λp=>(p.1,a.eval p.2)) (by rw[hp,Aq]) h2;simp only[aY];rw[hc2];exact ih m jq cs1 Vc hc (by rw[hc1];exact h1) hf);·cases hf
end
end Go.Ab
namespace Go.Ab
section
variable {P:bV} {φ:ax->ax} {w0:aU} {L:nU} {E:Env} {st:St} {a:alk} {w w':aU}
def lL.ek{v:aL}{x:A}{r:ax->aq eO}(h:lL φ E r w v x)(hp:Ab.ek x=aB):gY φ w E.ok v x:=by cases h with|data _ _ h=>exact h|_=>simp[Ab.ek]at hp
def RV.aDQ{v:aL}{f:ax}{r:ax->aq eO}(h:RV φ E r w v (.fn f [])):gY φ w E.ok v (.fn f []):=by obtain⟨vs,rfl,hv⟩:=h.ame;have:=hv.1;simp at this;subst this;exact .fn f [] [] .nil
def RV.ek{v:aL}{x:A}{r:ax->aq eO}(h:RV φ E r w v x)(hp:Ab.ek x=aB):gY φ w E.ok v x:=by cases x with|fn f caps=>simp only[Ab.ek,aGo]at hp;subst hp;exact h.aDQ|agg=>simp[Ab.ek]at hp|xv=>simp[Ab.ek]at hp|_=>cases h with|one _ _ h=>exact h.ek hp
def azi{v:aL}{x y:A}{r:ax->aq eO}(h:RV φ E r w v x)(hd:dat x=ai y):gY φ w E.ok v y:=by
 unfold dat at hd;split at hd
 .rename_i hp;simp only[aC]at hd;subst hd;by_cases hx:∃cs,x=.agg cs;·obtain⟨cs,rfl⟩:=hx;obtain⟨vs,rfl,hv⟩:=h.OQ;simp only[Ab.pure,bz]at hp;refine .agg _ _ (dp.norm (hJ.ahn ⟨hv.1,λj v x rW hx=>(hv.2 j v x rW hx).ek (hp x (cq hx))⟩))
  ·(have hp':Ab.ek x=aB:=by cases x<;>first|exact hp|exact bG ⟨_,rfl⟩ hx);(have hn:aq1 x=vM x:=by cases x<;>first|rfl|exact bG ⟨_,rfl⟩ hx);rw[hn];exact(h.ek hp').norm
 .cases hd
def run_places{fs:kZ Field}(h:fs.toList.all (λf=>(P.info? f.type).isSome)=aB): (fs.mapM λf=>(do Rv (f.offset,<-sizeOf f.type):Sem (ax×ax))).run P w=.ok (fs.map λf=>(f.offset,P.cellsOf f.type)) w:=by
 rw[Array.mapM_eq_mapM_toList];have rh:∀l:ah Field,l.all (λf=>(P.info? f.type).isSome)=aB->(l.mapM λf=>(do Rv (f.offset,<-sizeOf f.type):Sem (ax×ax))).run P w=.ok (l.map λf=>(f.offset,P.cellsOf f.type)) w:=by intro l;induction l with|nil=>intro _;rfl|cons f l ih=>intro h;simp only[eQ,az]at h;obtain⟨i,hi⟩:=iM.1 h.1;(have e1:(sizeOf f.type).run P w=.ok (P.cellsOf f.type) w:=by simp[sizeOf,typeInfo,hi,aCs]);simp only[List.mapM_cons,eP,mg,cZ,e1,ih h.2,aY]
 have:=rh fs.toList h;have e:(ky (λf:Field=>(f.offset,P.cellsOf f.type)) fs.toList).toArray=fs.map λf=>(f.offset,P.cellsOf f.type):=by apply aa7;simp
 rw[Sem.run_map,this,cZ,e]
def placeOf(P:bV)(t:bO)(i:ax):aq (ax×ax):=match P.underlying t with
 |some (.struct fs)=>(fs[i]?).map λf=>(f.offset,P.cellsOf f.type)
 |some (.array _ e)=>ai (i*P.cellsOf e,P.cellsOf e)
 |_=>au
def al3(P:bV)(φ:ax->ax)(t:bO)(parts:ah (ax×ej))(zero:ah A)(ps:ah (ax×ax×dI)):aW:=(match P.info? t with|some i=>(match i.zero with|some v=>adg v.cells.toList zero|none=>aA)|none=>aA)&& (match P.underlying t with|some (.struct fs)=>fs.toList.all (λf=>(P.info? f.type).isSome)|some (.array _ e)=>(P.info? e).isSome|_=>aA)&& RR φ (placeOf P t) parts ps
def PC.rm{v:aL}{x:A}(h:gY φ w E.ok v x):PC φ E st a w v x:=⟨.data _ _ h,λk b ht=>(RJ.rm h ht).elim⟩
def aCa{t:bO}{parts:kZ (ax×ej)}{zero:ah A}{ps:ah (ax×ax×dI)}(h:oR φ w0 L E st a w)(hc:al3 P φ t parts.toList zero ps=aB){r:A} (hr:(JY st zero ps).map A.agg=ai r):Val P φ E st a w (aLL t (parts.map λp=>(p.1,a.eval p.2))) r:=by
 obtain⟨Vc,hf,rfl⟩:=aM.1 hr;simp only[al3,az]at hc;obtain⟨⟨hz,ht⟩,hp⟩:=hc;split at hz
 .rename_i i hi;split at hz;·rename_i z ady;have h0:hJ (PC φ E st a w) z.cells.toList zero:=(hJ.ml (Cx hz)).imp λv x hh=>PC.rm hh;obtain⟨jq,JZ,lO⟩:=aBN h parts.toList ps z.cells zero Vc hp h0 hf;(have WX:(parts.map λp=>(p.1,a.eval p.2)).toList=parts.toList.map λp=>(p.1,a.eval p.2):=by simp);(have aNK:RV φ E st.r w (.agg jq) (.agg Vc)/\LK st a (.agg jq) (.agg Vc):=by obtain⟨l,rfl⟩:∃l:ah aL,jq=l.toArray:=⟨jq.toList,by simp⟩;refine⟨.agg _ _ (lO.imp λv x hh=>hh.1),λk b htk=> ?_⟩;generalize hu:vt l.toArray=u at htk;cases htk with|one _ _ _ _ htk=>cases htk|agg us xs j k b v x hv hx htk=>simp at hu;subst hu;exact(lO.2 j v x (by simpa using hv) hx).2 k b htk);(have hzv:(zeroValue t).run P w=.ok z w:=by simp[zeroValue,typeInfo,hi,ady]);refine⟨_,?_,aNK.1,aNK.2⟩;simp only[aLL,eP,hzv,cZ];cases hd:P.underlying t with|none=>simp[hd]at ht|some d=>rw[jN hd];(cases d<;>simp only[hd]at ht<;>(try(cases ht;done)));(·rename_i len e;obtain⟨ei,hei⟩:=iM.1 ht;(have e1:(sizeOf e).run P w=.ok (P.cellsOf e) w:=by simp[sizeOf,typeInfo,hei,aCs]);(have Md:placeOf P t=λi=>ai (i*P.cellsOf e,P.cellsOf e):=by funext i;simp[placeOf,hd]);rw[Md]at JZ;simp only[cZ,eP,e1,WX,JZ,mg]);·rename_i fs;(have Md:placeOf P t=λi=>(fs.map λf=>(f.offset,P.cellsOf f.type))[i]? :=by funext i;simp[placeOf,hd]);rw[Md]at JZ;simp only[cZ,eP,run_places ht,WX,JZ,mg]
  .cases hz
 .cases hz
def amd{xs:ah A}{z:ax}(hz:∀x∈xs,ae x.cells=z){v:A}(hv:ae v.cells=z):∀{i:ax},i<ae xs-> (xs.set i v).flatMap A.cells=(xs.flatMap A.cells).take (i*z)++v.cells++(xs.flatMap A.cells).drop (i*z+z):=by induction xs with|nil=>intro i h;simp at h|cons x xs ih=>intro i h;have hx:=hz x (cI ..);cases i with|zero=>simp only[aGT,cr,Nat.zero_mul,LS,cJ,dL];rw[On,hx,br (by omega),Qu,cL,cJ]|succ i=>(have h1:(i+1)*z-ae x.cells=i*z:=by rw[hx,eK];omega);have h2:x.cells.take ((i+1)*z)=x.cells:=cH (by rw[hx,eK];omega);(have h3:(i+1)*z+z-ae x.cells=i*z+z:=by rw[hx,eK];omega);have h4:x.cells.drop ((i+1)*z+z)=[]:=br (by rw[hx,eK];omega);simp only[List.set_cons_succ,cr];rw[ih (λy hy=>hz y (bm _ hy)) (by simpa using h),aGp,On,h1,h2,h3,h4];simp
def pW(φ:ax->ax):ah (ax×ej)->ah (ax×dI)->aW | [],[]=>aB |(i,x)::l,(j,y)::m=>i==j&&db φ x y&&pW φ l m |_,_=>aA
def aBP(h:oR φ w0 L E st a w){z:ax}:∀(l:ah (ax×ej)) (m:ah (ax×dI)) (cells:kZ aL) (xs xs':ah A),pW φ l m=aB->(∀x∈xs,ae x.cells=z)-> dp φ w E.ok cells.toList (xs.flatMap A.cells)->RX st z xs m=ai xs'-> ∃jq,afR (λi=>ai (i*z,z)) cells (l.map λp=>(p.1,a.eval p.2))=ai jq/\dp φ w E.ok jq.toList (xs'.flatMap A.cells)/\(∀x∈xs',ae x.cells=z)/\ae xs'=ae xs:=by intro l;induction l with|nil=>(intro m cells xs xs' hc hz hv hf;cases m with|nil=>simp[RX]at hf;subst hf;exact⟨cells,rfl,hv,hz,rfl⟩|cons=>simp[pW]at hc)|cons p l ih=>intro m cells xs xs' hc hz hv hf;obtain⟨i,x⟩:=p;cases m with|nil=>simp[pW]at hc|cons q m=>obtain⟨j,y⟩:=q;simp only[pW,az,cS]at hc;obtain⟨⟨rfl,hx⟩,hc⟩:=hc;simp only[RX]at hf;obtain⟨v,hd,hf⟩:=aI.1 hf;split at hf;(·rename_i gF;obtain⟨hvz,dE⟩:=gF;have Dx:=azi (eM h hx).1 hd;have j7:=Dx.cells;(have Aq:(a.eval x).cells.size=z:=by have:=j7.length;simp at this;omega);have hfl:=ke hz;(have Ao:cells.size=ae xs*z:=by have:=hv.length;rw[hfl]at this;simpa using this);(have wi:i*z+z<=ae xs*z:=by have:(i+1)*z<=ae xs*z:=dh z dE;rw[eK]at this;exact this);obtain⟨jq,hc1,hc2⟩:=Q3 (place:=λi=>ai (i*z,z)) (cells:=cells) (i:=i) (v:=a.eval x) (rest:=l.map λp=>(p.1,a.eval p.2)) (by rw[Aq]) (by rw[Aq,Ao];exact wi);simp only[aY];rw[hc2];(have hz':∀y∈xs.set i v,ae y.cells=z:=by intro y hy;(rcases WE hy with h'|rfl);(·exact hz y h');·exact hvz);obtain⟨c2,h1,h2,h3,h4⟩:=ih m jq (xs.set i v) xs' hc hz' (by rw[hc1,Aq,amd hz hvz dE];exact((hv.take _).append j7).append (hv.drop _)) hf;exact⟨c2,h1,h2,h3,by simpa using h4⟩);·cases hf
def aIo{t e:bO}{n z d:ax}{parts:kZ (ax×ej)}{zero:A}{ps:ah (ax×dI)}(h:oR φ w0 L E st a w)(ht:P.underlying t=ai (.slice e))(hz:asa P e z zero=aB) (hc:pW φ parts.toList ps=aB) {r:A} (hr:(if n*z<=16777216/\ae zero.cells=z then(RX st z (bK n zero) ps).map λxs=>A.tok (8*d) z xs else au)=ai r): aDj P φ w0 L E st a w (AR t n (parts.map λp=>(p.1,a.eval p.2))) r:=by
 split at hr
 .rename_i gF;obtain⟨xs,hf,rfl⟩:=aM.1 hr;obtain⟨i,v,hi,Aq,ady,oz,hvz⟩:=YZ hz;have auW:(madeCells v.cells (n*z)).toList=(bK n v.cells.toList).flatten:=by rw[<-hvz];exact se _ _
  have h0:dp φ w E.ok (madeCells v.cells (n*z)).toList ((bK n zero).flatMap A.cells):=by rw[auW];exact EI (Cx oz) n
  obtain⟨jq,h1,h2,h3,h4⟩:=aBP h parts.toList ps _ _ xs hc (λx hx=>by rw[V2 hx];exact gF.2) h0 hf;have hxl:ae xs=n:=by simpa using h4
  have WX:(parts.map λp=>(p.1,a.eval p.2)).toList=parts.toList.map λp=>(p.1,a.eval p.2):=by simp
  have fm:¬n*z>16777216:=by omega
  have Ao:jq.size=n*z:=by have:=h2.length;rw[ke h3,hxl]at this;simpa using this
  have jn:(AR t n (parts.map λp=>(p.1,a.eval p.2))).run P w=.ok (.slice (ai ⟨w.heap.size,0,au⟩) n n) {w with heap:=w.heap.push (.cells jq e)}:=by(have e1:(sizeOf e).run P w=.ok z w:=by simp[sizeOf,typeInfo,hi,Aq]);(have hzv:(zeroValue e).run P w=.ok v w:=by simp[zeroValue,typeInfo,hi,ady]);by_cases hn:n*z=0;(·(have hm0:madeCells v.cells (n*z)= #[]:=by rw[hn];simp[madeCells,ai5]);rw[hm0]at h1;(have hm1:((aAo (n*z)).map ((#[]:kZ aL)[· %(#[]:kZ aL).size]!))= #[]:=by rw[hn];simp[ai5]);simp only[AR,eP,jN ht,cZ,e1,aGL,hn,aK,mg,WX,show¬(0>2^24)from by decide,aJ];simp only[hn]at hm1;simp only[hm1,h1];simp[newRow]);·simp only[AR,eP,jN ht,cZ,e1,fm,aGL,aJ,hn,hzv,mg,WX];have hm1:((aAo (n*z)).map (v.cells[· %v.cells.size]!))=madeCells v.cells (n*z):=rfl;simp only[hm1,h1];simp[newRow]
  refine awk (w':={w with heap:=w.heap.push (.cells jq e)}) h (C:=jq) (e:=e) (cap:=n) (vs:=jq.toList) rfl ⟨rfl,rfl⟩ h3 (by rw[hxl];exact jn) h2 (uw rfl) (by omega) (by rw[Ao];exact bx _)
 .cases hr
end
end Go.Ab
namespace Go.Ab
inductive eL(φ:ax->ax)(w:aU)(K:ax->Prop):aL->ax->ah A->aq ax->Prop
 |empty (ad:aq afQ) (z:ax):eL φ w K (.slice ad 0 0) z [] au
 |mk (b o cap z:ax) (xs:ah A) (vs:ah aL) (hc:ae xs<=cap) (h0:cap≠0) (hz:∀x∈xs,ae x.cells=z)
   (h:dp φ w K vs (xs.flatMap A.cells)) (hv:dw w b o vs) (hr:hZ z w b (o+cap*z)):eL φ w K (.slice (ai ⟨b,o,au⟩) (ae xs) cap) z xs (ai b)
inductive BB(φ:ax->ax)(w:aU)(K:ax->Prop):aL->A->aq ax->Prop
 |data (v:aL) (a:A) (h:gY φ w K v a) (ha:∀cs,a≠ .agg cs):BB φ w K v a au
 |own (v:aL) (z:ax) (xs:ah A) (b:aq ax) (h:eL φ w K v z xs b):BB φ w K v (.own z xs) b
inductive dK(φ:ax->ax)(w:aU)(K:ax->Prop):ah aL->ah A->ah ax->Prop
 |nil:dK φ w K [] [] []
 |cons (v:aL) (a:A) (b:aq ax) (vs:ah aL) (ab:ah A) (bs:ah ax) (h:BB φ w K v a b) (t:dK φ w K vs ab bs):dK φ w K (v::vs) (a::ab) (b.toList++bs)
inductive kE(φ:ax->ax)(w:aU)(K:ax->Prop):aL->ax->A->ah ax->Prop
 |mk (b o z:ax) (x:A) (vs:ah aL) (bs:ah ax) (h:dK φ w K vs x.cells bs) (hv:dw w b o vs) (hr:hZ z w b (o+z)) (hz:ae x.cells=z):kE φ w K (.pointer (ai ⟨b,o,au⟩)) z x (b::bs)
inductive Qt(φ:ax->ax)(w:aU)(K:ax->Prop):aL->A->ah ax->Prop
 |data (v:aL) (a:A) (h:gY φ w K v a):Qt φ w K v a []
 |iU (v:aL) (z:ax) (x:A) (bs:ah ax) (h:kE φ w K v z x bs):Qt φ w K v (.iU z [x]) bs
 |l7 (v:aL) (z:ax) (xs:ah A) (b:aq ax) (h:eL φ w K v z xs b):Qt φ w K v (.l7 z xs) b.toList
inductive gy(φ:ax->ax)(w:aU)(K:ax->Prop):ah aL->ah A->ah ax->Prop
 |nil:gy φ w K [] [] []
 |cons (v:aL) (a:A) (b:ah ax) (vs:ah aL) (ab:ah A) (bs:ah ax) (h:Qt φ w K v a b) (t:gy φ w K vs ab bs):gy φ w K (v::vs) (a::ab) (b++bs)
inductive xD(φ:ax->ax)(w:aU)(K:ax->Prop):aL->A->ah ax->Prop
 |data (v:aL) (a:A) (h:gY φ w K v a):xD φ w K v a []
 |tok (v:aL) (j z:ax) (xs:ah A) (b:aq ax) (h:eL φ w K v z xs b):xD φ w K v (.tok j z xs) b.toList
 |iU (v:aL) (z:ax) (x:A) (bs:ah ax) (h:kE φ w K v z x bs):xD φ w K v (.iU z [x]) bs
 |str (v:aL) (vs:ah aL) (cs:ah A) (bs:ah ax) (e:v=.agg vs.toArray) (h:dK φ w K vs cs bs):xD φ w K v (.agg cs) bs
inductive gz(φ:ax->ax)(w:aU)(K:ax->Prop):ah aL->ah A->ah ax->Prop
 |nil:gz φ w K [] [] []
 |cons (v:aL) (a:A) (b:ah ax) (vs:ah aL) (ab:ah A) (bs:ah ax) (h:xD φ w K v a b) (t:gz φ w K vs ab bs):gz φ w K (v::vs) (a::ab) (b++bs)
inductive jF(φ:ax->ax)(w:aU)(K:ax->Prop):ah aL->ah A->ah A->ah ax->Prop
 |nil:jF φ w K [] [] [] []
 |data (v:aL) (a:A) (vs:ah aL) (ab os:ah A) (bs:ah ax) (ha:(∀z xs,a≠ .iU z xs)/\∀z xs,a≠ .l7 z xs) (t:jF φ w K vs ab os bs):jF φ w K (v::vs) (a::ab) os bs
 |iU (v:aL) (z:ax) (x y:A) (b:ah ax) (vs:ah aL) (ab os:ah A) (bs:ah ax) (h:kE φ w K v z y b) (t:jF φ w K vs ab os bs):
   jF φ w K (v::vs) (.iU z [x]::ab) (.iU z [y]::os) (b++bs)
 |l7 (v:aL) (z:ax) (xs ys:ah A) (b:aq ax) (vs:ah aL) (ab os:ah A) (bs:ah ax) (h:eL φ w K v z ys b) (hl:ae ys=ae xs) (t:jF φ w K vs ab os bs):
   jF φ w K (v::vs) (.l7 z xs::ab) (.l7 z ys::os) (b.toList++bs)
 |gone (v:aL) (z:ax) (xs:ah A) (vs:ah aL) (ab os:ah A) (bs:ah ax) (t:jF φ w K vs ab os bs):jF φ w K (v::vs) (.l7 z xs::ab) (.any::os) bs
def IQ:ah aL->aL | [v]=>v |vs=>.tuple vs.toArray
structure aJI(φ:ax->ax)(w:aU)(K:ax->Prop)(vs:ah aL)(args res outs:ah A)(bs:ah ax)(v:aL)(w':aU):Prop where
 grow:w.heap.size<=w'.heap.size
 frame:∀b,b<w.heap.size->b∉bs->w'.heap[b]? =w.heap[b]?
 env:w'.os=w.os/\w'.output=w.output
 fr:∀b off,b<w.heap.size->w'.frozen? ⟨b,off,au⟩=w.frozen? ⟨b,off,au⟩
 room:∀{z:ax} b n,hZ z w b n->hZ z w' b n
 rest:∃qQ K' rb ob,v=IQ qQ/\(∀b,K b->K' b)/\(∀b,K' b->K b\/b∈bs\/(w.heap.size<=b/\b<w'.heap.size))/\gz φ w' K' qQ res rb/\jF φ w' K' vs args outs ob/\
  (rb++ob).Nodup/\∀b∈rb++ob,¬K' b/\b<w'.heap.size/\(b∈bs\/w.heap.size<=b)
def zH:String:= "internal/strconv.uint64pow10"
def adm:ah String:=["strconv.ErrSyntax","strconv.ErrRange"]
structure Dv(P:bV)(K:ax->Prop)(w:aU):Prop where
 sh:∃W:aU,W.ShapedOpen P/\∀g,g<P.globals.size->g<W.heap.size->K g/\w.heap[g]? =W.heap[g]?
 tab:∀g,P.globalNamed zH=ai g->K g/\Lib.TabIs P w zH .u64 aC2
 err:∀n,adm.contains n=aB->∀g,P.globalNamed n=ai g->K g/\∃u v,w.var? P n=ai #[.iface u v]
def arB{P:bV}{n:String}{g:ax}(hg:P.globalNamed n=ai g){w w':aU}(h:w'.heap[g]? =w.heap[g]?):w'.var? P n=w.var? P n:=by unfold World.var?;rw[hg];simp only[ag];rw[h]
def aAb{P:bV}{n:String}{g:ax}(hg:P.globalNamed n=ai g){w:aU}{cs:kZ aL}(h:w.var? P n=ai cs):g<w.heap.size:=by
 unfold World.var? at h;rw[hg]at h;simp only[ag]at h;rcases bL g w.heap.size with h'|h'
 .exact h'
 .rw[qd h']at h;cases h
def Dv.on{P:bV}{K K':ax->Prop}{w w':aU}(h:Dv P K w)(hK:∀b,K b->K' b)(hw:∀b,K b->w'.heap[b]? =w.heap[b]?):Dv P K' w' where
 sh:=by obtain⟨W,h1,h2⟩:=h.sh;exact⟨W,h1,λg hg hs=>⟨hK g (h2 g hg hs).1,(hw g (h2 g hg hs).1).trans (h2 g hg hs).2⟩⟩
 tab g hg:=by obtain⟨h1,h2⟩:=h.tab g hg;refine⟨hK g h1,?_⟩;unfold Lib.TabIs at h2⊢;rw[arB hg (hw g h1)];exact h2
 err n hn g hg:=by obtain⟨h1,u,v,h2⟩:=h.err n hn g hg;exact⟨hK g h1,u,v,by rw[arB hg (hw g h1)];exact h2⟩
def Dv.start{P:bV}{W:aU}(h:W.ShapedOpen P)(ht:∀g,P.globalNamed zH=ai g->Lib.TabIs P W zH .u64 aC2)
 (he:∀n,adm.contains n=aB->∀g,P.globalNamed n=ai g->∃u v,W.var? P n=ai #[.iface u v]):Dv P (λb=>b<W.heap.size) W where
 sh:=⟨W,h,λg _ hs=>⟨hs,rfl⟩⟩
 tab g hg:=⟨aAb hg (ht g hg),ht g hg⟩
 err n hn g hg:=by obtain⟨u,v,h2⟩:=he n hn g hg;exact⟨aAb hg h2,u,v,h2⟩
def dx(P:bV)(φ:ax->ax)(f:ax)(args res outs:ah A):Prop:=∀(w:aU) (K:ax->Prop) (vs:ah aL) (bs:ah ax),gy φ w K vs args bs->bs.Nodup->(∀b∈bs,¬K b)->(∀b,K b->b<w.heap.size)->Dv P K w->fF P (φ f) vs.toArray w λe w'=>∃v,e=.returned v/\aJI φ w K vs args res outs bs v w'
def lA(P:bV)(f:FuncId):Prop:=∃fn,P.funcs[f]? =ai fn∧fn.name≠ "runtime.NumGoroutine" ∧fn.body.isSome=aB
def aJL(P:bV)(φ:ax->ax)(cf:CF):Prop:=∀f args res outs,cf f args=ai (res,outs)->lA P (φ f)/\dx P φ f args res outs
def Gl(P:bV)(w0:aU)(L:nU):Prop:=Dv P L.K0 w0/\∀b,L.K0 b->b<w0.heap.size/\¬L.blk b
def Gl.at{P:bV}{φ:ax->ax}{w0:aU}{L:nU}{E:Env}{st:St}{ev:ax->aL}{w:aU}(hG:Gl P w0 L)(h:dC φ w0 L E st ev w){K:ax->Prop}(hK:∀b,E.ok b->K b):Dv P K w:=hG.1.on (λb hb=>hK b (h.okU b hb)) λb hb=>h.frame b (hG.2 b hb).1 (hG.2 b hb).2
def CfG(P:bV)(φ:ax->ax)(w0:aU)(L:nU)(cf:CF):Prop:=aJL P φ cf/\Gl P w0 L
section
variable {P:bV} {φ:ax->ax} {w0:aU} {L:nU} {E:Env} {st:St} {a:alk} {w:aU}
def Ut{f:FuncId}(h:lA P f)(args:kZ aL):(callFunc f args).run P w=.ok (.enter f args) w:=by obtain⟨fn,h1,h2,h3⟩:=h;obtain⟨c,hc⟩:=iM.1 h3;simp[callFunc,h1,h2,hc]
def avX{o:Zp}{c:Call}{x:ej}(ho:o.op=.call c)(hc:c.callee=.value x){f:FuncId}{caps:kZ aL}(hx:a.eval x=.func (.func f) #[] caps)(h:lA P f): (gS a.eval o).run P w=.ok (.enter f (c.args.map a.eval++caps)) w:=by simp only[gS,ho,resolve,hc,hx,Deferred.ofValue,eP,mg,cZ,invoke,Array.empty_append];exact Ut h _
def aKd(w:aU)(b:ax):Prop:=b<w.heap.size
structure Zn(E:Env)(st:St)(K:ax->Prop):Prop where
 ok:∀b,E.ok b->K b
 root:∀q b o,(st.r q).isSome->E.ρ q=ai (b,o)->K b
def Zn.all{ev:ax->aL}(h:dC φ w0 L E st ev w):Zn E st (aKd w):=⟨h.okz,λq b o h1 h2=>(h.rz q b o h1 h2).2.2⟩
def aqu{ev:ax->aL}(h:dC φ w0 L E st ev w){K:ax->Prop}(hK:Zn E st K){v:aL}{x y:A}(hv:lL φ E st.r w v x)(ht:∀k b,RJ v x k b->K b)(hc:wU st.r x=ai y): gY φ w K v y:=by
 have hm:∀{v:aL} {x:A},gY φ w E.ok v x->gY φ w K v x:=λh=>h.mono (λ_ _=>rfl) hK.ok;unfold wU at hc;split at hc;·rename_i q off n;obtain⟨R,hR,rfl⟩:=aM.1 hc;cases hv with|data _ _ h=>cases h|pz _ _ _ _ h1=>rw[h1]at hR;cases hR|pP ad q off R' h1 hb hn=>rw[LS];exact .Rx _ _ _|view b o cap q off n R' h1 hb hn LC h0 hρ hm'=>rw[h1]at hR;cases hR;(have eJ:ae ((R.xs.drop off).take n)=n:=by simp;omega);have hro:=h.roots q R h1;cases hro with|empty z h=>simp at hn;obtain⟨rfl,rfl⟩:=hn;exact .Rx _ _ _|sl b' o' z xs vs iA hz hh rW hr'=>rw[hρ]at iA;cases iA;have:=gY.sl (φ:=φ) (w:=w) (ok:=K) b (o+off*z) cap z ((xs.drop off).take n) ((vs.drop (off*z)).take (n*z)) (hK.root q b o (by rw[h1];rfl) hρ) (λy hy=>hz y (dk (jO hy))) (by rw[eJ];omega) (by rw[Dc (λx hx=>hz x (dk hx)),su hz];exact((hh.mono (λ_ _=>rfl) hK.ok).drop _).take _) ((rW.drop _).take _);rw[eJ]at this;exact this|box=>cases hb
 .rename_i k z xs;simp only[aC]at hc;subst hc;cases hv with|data _ _ h=>cases h|Ls=>exact .Rx _ _ _|tok b o cap k z xs vs LC h0 hz hh rW hr=>exact .sl b o cap z xs vs (ht _ _ (.mk _ _ _ _ _ _ h0)) hz LC (hh.mono (λ_ _=>rfl) hK.ok) rW
 .split at hc;·rename_i hp;simp only[aC]at hc;subst hc;exact(hm (hv.ek hp)).norm
  .cases hc
def TJ{ev:ax->aL}(h:dC φ w0 L E st ev w){K:ax->Prop}(hK:Zn E st K):∀{vs:ah aL} {xs ys:ah A},hJ (λv x=>lL φ E st.r w v x/\∀k b,RJ v x k b->K b) vs xs->AW st.r xs=ai ys->
 dp φ w K vs ys
 | [],[],ys,_,hc=>by simp[AW]at hc;subst hc;exact .nil
 | [],_::_,_,h',_=>by have:=h'.1;simp at this
 |_::_,[],_,h',_=>by have:=h'.1;simp at this
 |v::vs,x::xs,ys,h',hc=>by obtain⟨u,us,he,h1,h2⟩:=h'.YL;cases he;simp only[AW]at hc;obtain⟨y,hy,hc⟩:=aI.1 hc;obtain⟨ys',OU,rfl⟩:=aM.1 hc;exact .cons _ _ _ _ (aqu h hK h1.1 h1.2 hy) (TJ h hK h2 OU)
def aiZ{ev:ax->aL}(h:dC φ w0 L E st ev w){K:ax->Prop}(hK:Zn E st K){v:aL}{x y:A}(hv:RV φ E st.r w v x)(ht:∀k b,Tk v x k b->K b)(hc:nr st.r x=ai y): gY φ w K v y:=by
 unfold nr at hc;split at hc;·rename_i q i c;obtain⟨R,hR,hc⟩:=aI.1 hc;obtain⟨e,he,hc⟩:=aI.1 hc;obtain⟨cs,oz,rfl⟩:=aM.1 hc;obtain⟨b,o,hρ,rfl⟩:=hv.KW.abK hR;have hKb:K b:=hK.root q b o (by rw[hR];rfl) hρ;have hro:=h.roots q R hR;cases hro with|empty z h=>simp at he|sl b' o' z xs vs iA hz hh rW hr'=>rw[hρ]at iA;cases iA;simp only at he;have hel:=hh.elem hz he;have lO:hJ (λv x=>lL φ E st.r w v x/\∀k b,RJ v x k b->K b) ((vs.drop (i*z)).take (ae e.cells)) e.cells:= (hJ.ml hel).imp λv x hr=>⟨.data _ _ hr,λk b hk=>(RJ.rm hr hk).elim⟩;exact .ptr b (o+i*z) c cs _ hKb (TJ h hK lO oz) ((rW.drop _).take _)|box b' o' z x vs iA hz dE hl jy rW hr'=>rw[hρ]at iA;cases iA;cases i with|succ i=>simp at he|zero=>simp at he;subst he;have lO:hJ (λv x=>lL φ E st.r w v x/\∀k b,RJ v x k b->K b) vs x.cells:= ⟨hl,λj v y hv hy=>⟨(jy j v y hv hy).rv,λk b hk=>((jy j v y hv hy).aOA k b hk).elim⟩⟩;have:=gY.ptr (φ:=φ) (w:=w) (ok:=K) b o c cs vs hKb (TJ h hK lO oz) rW;simpa using this
 .rename_i cs;obtain⟨ds,hds,rfl⟩:=aM.1 hc;obtain⟨vs,rfl,hvs⟩:=hv.OQ;refine .agg _ _ (TJ h hK ⟨hvs.1,λj v x hv hx=>⟨hvs.2 j v x hv hx,λk b hk=>ht k b (.agg vs cs j k b v x hv hx hk)⟩⟩ hds)
 .rename_i Gy hna;have hv1:lL φ E st.r w v x\/∃f,x=.fn f []:=by cases hv with|one _ _ h=>exact .inl h|xv=>simp[wU,ek]at hc|agg=>exact bG rfl (hna _)|fn f vs xs h1=>cases xs with|nil=>exact .inr ⟨f,rfl⟩|cons=>simp[wU,ek]at hc
  rcases hv1 with hv1|⟨f,rfl⟩
  .exact aqu h hK hv1 (λk b hk=>ht k b (.one _ _ _ _ hk)) hc
  .simp[wU,ek,vM]at hc;subst hc;exact hv.aDQ.mono (λ_ _=>rfl) hK.ok
def afA{ev:ax->aL}(h:dC φ w0 L E st ev w){K:ax->Prop}(hK:Zn E st K):∀{vs:ah aL} {xs ys:ah A},hJ (λv x=>RV φ E st.r w v x/\∀k b,Tk v x k b->K b) vs xs->Cs st.r xs=ai ys->
 dp φ w K vs ys
 | [],[],ys,_,hc=>by simp[Cs]at hc;subst hc;exact .nil
 | [],_::_,_,h',_=>by have:=h'.1;simp at this
 |_::_,[],_,h',_=>by have:=h'.1;simp at this
 |v::vs,x::xs,ys,h',hc=>by obtain⟨u,us,he,h1,h2⟩:=h'.YL;cases he;simp only[Cs]at hc;obtain⟨y,hy,hc⟩:=aI.1 hc;obtain⟨ys',OU,rfl⟩:=aM.1 hc;exact .cons _ _ _ _ (aiZ h hK h1.1 h1.2 hy) (afA h hK h2 OU)
def aqq{ev:ax->aL}(h:dC φ w0 L E st ev w){K:ax->Prop}(hK:Zn E st K){vs:ah aL}{xs ys:ah A}(hv:hJ (lL φ E st.r w) vs xs)(hn:xs.any uu=aA)(hc:Cs st.r xs=ai ys):
 dp φ w K vs ys:=
 afA h hK ⟨hv.1,λj v x rW hx=>⟨.one _ _ (hv.2 j v x rW hx),λk b hk=>by(have hx1:uu x=aA:=by have:=LP.1 hn x (cq hx);simpa using this);have hr:=hv.2 j v x rW hx;cases hk with|one _ _ _ _ hk=>cases hk;simp[uu]at hx1|xv=>(cases hr with|data _ _ h=>cases h)|agg us zs j k b v' a' hv1 ha1 hk=>generalize hu:vt us.toArray=u at hr;cases hr with|data _ _ h1=>subst hu;exact bG (.agg us zs j k b v' a' hv1 ha1 hk) (Tk.rm h1)⟩⟩ hc
def aoD{ev:ax->aL}(h:dC φ w0 L E st ev w){K:ax->Prop}(hK:Zn E st K){v:aL}{x y:A}(hv:RV φ E st.r w v x)(ht:∀k b,Tk v x k b->K b)(hc:Hu st.r x=ai y): gY φ w K v y:=by
 unfold Hu at hc;split at hc
 .rename_i f caps;split at hc;·cases hc
  .rename_i Oq;obtain⟨ds,hds,rfl⟩:=aM.1 hc;obtain⟨vs,rfl,hvs⟩:=hv.ame;exact .fn f ds vs (aqq h hK hvs (by simpa using Oq) hds)
 .exact aiZ h hK hv ht hc
end
end Go.Ab
namespace Go.Ab
section
variable {P:bV} {φ:ax->ax} {w0:aU} {L:nU} {E:Env} {st:St} {a:alk} {w w':aU} {r:ax->aq eO} {ok:ax->Prop}
def gY.wU{v:aL}{x y:A}(h:gY φ w ok v x)(hc:Ab.wU r x=ai y):gY φ w ok v y:=by
 unfold Ab.wU at hc;split at hc;·cases h
 .cases h
 .split at hc;·simp only[aC]at hc;subst hc;exact h.norm
  .cases hc
def dp.AW:∀{vs:ah aL} {xs ys:ah A},dp φ w ok vs xs->Ab.AW r xs=ai ys->dp φ w ok vs ys
 |_,_,ys,.nil,hc=>by simp[Ab.AW]at hc;subst hc;exact .nil
 |_,_,ys,.cons v x vs xs h t,hc=>by simp only[Ab.AW]at hc;obtain⟨y,hy,hc⟩:=aI.1 hc;obtain⟨ys',OU,rfl⟩:=aM.1 hc;exact .cons _ _ _ _ (h.wU hy) (t.AW OU)
def gY.nr{v:aL}{x y:A}(h:gY φ w ok v x)(hc:Ab.nr r x=ai y):gY φ w ok v y:=by
 unfold Ab.nr at hc;split at hc;·cases h
 .obtain⟨ds,hds,rfl⟩:=aM.1 hc;cases h with|agg vs cs h=>exact .agg _ _ (h.AW hds)
 .exact h.wU hc
def lL.free{v:aL}{x y:A}(h:lL φ E r w v x)(ho:M3 x=aA)(hc:Ab.nr r x=ai y):gY φ w E.ok v y:=by cases h with|data _ _ h=>exact h.nr hc|any=>simp[Ab.nr,Ab.wU,Ab.ek]at hc|undef=>simp[Ab.nr,Ab.wU,Ab.ek]at hc|_=>simp[M3]at ho
def hJ.free:∀{vs:ah aL} {xs ys:ah A},hJ (lL φ E r w) vs xs->xs.any M3=aA->Cs r xs=ai ys->dp φ w E.ok vs ys
 | [],[],ys,_,_,hc=>by simp[Cs]at hc;subst hc;exact .nil
 | [],_::_,_,h',_,_=>by have:=h'.1;simp at this
 |_::_,[],_,h',_,_=>by have:=h'.1;simp at this
 |v::vs,x::xs,ys,h',ho,hc=>by obtain⟨u,us,he,h1,h2⟩:=h'.YL;cases he;simp only[Cs]at hc;obtain⟨y,hy,hc⟩:=aI.1 hc;obtain⟨ys',OU,rfl⟩:=aM.1 hc;simp only[oy,so]at ho;exact .cons _ _ _ _ (h1.free ho.1 hy) (h2.free ho.2 OU)
def al6:∀{vs:ah aL} {xs ys:ah A},hJ (lL φ E r w) vs xs->xs.any M3=aA->Ab.AW r xs=ai ys->dp φ w E.ok vs ys
 | [],[],ys,_,_,hc=>by simp[Ab.AW]at hc;subst hc;exact .nil
 | [],_::_,_,h',_,_=>by have:=h'.1;simp at this
 |_::_,[],_,h',_,_=>by have:=h'.1;simp at this
 |v::vs,x::xs,ys,h',ho,hc=>by(obtain⟨u,us,he,h1,h2⟩:=h'.YL;cases he;simp only[Ab.AW]at hc;obtain⟨y,hy,hc⟩:=aI.1 hc;obtain⟨ys',OU,rfl⟩:=aM.1 hc;simp only[oy,so]at ho;refine .cons _ _ _ _ ?_ (al6 h2 ho.2 OU);cases h1 with|data _ _ h=>exact h.wU hy|any=>simp[Ab.wU,Ab.ek]at hy|undef=>simp[Ab.wU,Ab.ek]at hy|_=>simp[M3]at ho)
def RV.free{v:aL}{x y:A}(h:RV φ E r w v x)(ho:owned x=aA)(hc:Ab.Hu r x=ai y):gY φ w E.ok v y:=by
 unfold Ab.Hu at hc;split at hc
 .rename_i f caps;split at hc;·cases hc
  .obtain⟨ds,hds,rfl⟩:=aM.1 hc;obtain⟨vs,rfl,hvs⟩:=h.ame;exact .fn f ds vs (hvs.free ho hds)
 .rename_i hnf;by_cases hx:∃cs,x=.agg cs;·obtain⟨cs,rfl⟩:=hx;simp only[Ab.nr]at hc;obtain⟨ds,hds,rfl⟩:=aM.1 hc;obtain⟨vs,rfl,hvs⟩:=h.OQ;exact .agg _ _ (al6 hvs ho hds)
  ·(have ho':M3 x=aA:=by cases x<;>first|exact ho|exact bG ⟨_,rfl⟩ hx|exact bG rfl (hnf _ _));cases h with|one _ _ h=>exact h.free ho' hc|xv=>simp[Ab.nr,Ab.wU,Ab.ek]at hc|agg=>exact bG ⟨_,rfl⟩ hx|fn=>exact bG rfl (hnf _ _)
mutual
def gY.plain{ok':ax->Prop}:∀{v:aL} {x:A},gY φ w ok v x->x.plain=aB->gY φ w ok' v x
 |_,_,.bool b,_=>.bool b
 |_,_,.int k n,_=>.int k n
 |_,_,.str s,_=>.str s
 |_,_,.agg vs cs h,hp=>.agg vs cs (dp.plain h (by simpa[A.plain]using hp))
 |_,_,.lz z,hp=>by simp[A.plain]at hp
 |_,_,.cst v h,hp=>by simp[A.plain]at hp
 |_,_,.Rx ..,hp=>by simp[A.plain]at hp
 |_,_,.sl ..,hp=>by simp[A.plain]at hp
 |_,_,.ptr ..,hp=>by simp[A.plain]at hp
 |_,_,.fn ..,hp=>by simp[A.plain]at hp
def dp.plain{ok':ax->Prop}:∀{vs:ah aL} {xs:ah A},dp φ w ok vs xs->A.yx xs=aB->dp φ w ok' vs xs
 |_,_,.nil,_=>.nil
 |_,_,.cons v x vs xs h t,hp=>by simp only[A.yx,az]at hp;exact .cons _ _ _ _ (gY.plain h hp.1) (dp.plain t hp.2)
end
def aaQ:∀{xs ys:ah A},A.yx xs=aB->A.yx ys=aB->A.yx (xs++ys)=aB
 | [],ys,_,h=>h
 |x::xs,ys,h,h'=>by simp only[A.yx,az,Am]at h⊢;exact⟨h.1,aaQ h.2 h'⟩
def avH{x:A}(h:x.plain=aB):A.yx x.cells=aB:=by cases x<;>simp[A.plain,A.cells,A.yx]at h⊢<;>exact h
def Io:∀{xs:ah A},xs.all A.plain=aB->A.yx (xs.flatMap A.cells)=aB
 | [],_=>rfl
 |x::xs,h=>by simp only[eQ,az]at h;rw[cr];exact aaQ (avH h.1) (Io h.2)
def gy.ml{K:ax->Prop}:∀{vs:ah aL} {xs:ah A},dp φ w K vs xs->gy φ w K vs xs [] |_,_,.nil=>.nil |_,_,.cons v x vs xs h t=>.cons v x [] vs xs [] (.data v x h) (gy.ml t)
def gz.mem{K:ax->Prop}:∀{vs:ah aL} {xs:ah A} {bs:ah ax},gz φ w K vs xs bs->∀{i:ax} {v:aL} {k z k' b:ax} {ys:ah A},vs[i]? =ai v->xs[i]? =ai (.tok k z ys)->
 ∀j,RJ v (.tok j z ys) k' b->b∈bs
 |_,_,_,.nil,i,_,_,_,_,_,_,h,_,_,_=>by simp at h
 |_,_,_,.cons v x b vs xs bs h t,0,u,k,z,k',b',ys,hu,hx,j,ht=>by
  simp at hu hx;subst hu;subst hx
  refine dZ _ ?_
  cases h with
  |data _ h=>cases h
  |tok _ _ _ ob h=>cases h with
   |empty=>cases ht;contradiction
   |mk=>cases ht;simp
 |_,_,_,.cons v x b vs xs bs h t,i+1,u,k,z,k',b',ys,hu,hx,j,ht=>
  bN _ (t.mem (by simpa using hu) (by simpa using hx) j ht)
def gz.head_mem{K:ax->Prop}{v:aL}{k z k' b:ax}{ys:ah A}{bs:ah ax}(h:xD φ w K v (.tok k z ys) bs){j:ax}(ht:RJ v (.tok j z ys) k' b):b∈bs:=by
 cases h with
 |data _ h=>cases h
 |tok _ _ _ ob h=>cases h with
  |empty=>cases ht;contradiction
  |mk=>cases ht;simp
def gz.sep{K:ax->Prop}:∀{vs:ah aL} {xs:ah A} {bs:ah ax},gz φ w K vs xs bs->bs.Nodup->
 ∀{i j:ax} {v u:aL} {k z l y k1 k2 b c:ax} {ys zs:ah A},vs[i]? =ai v->xs[i]? =ai (.tok k z ys)->vs[j]? =ai u->xs[j]? =ai (.tok l y zs)->i≠j->
  ∀{p q:ax},RJ v (.tok p z ys) k1 b->RJ u (.tok q y zs) k2 c->b≠c
 |_,_,_,.nil,_,i,j,_,_,_,_,_,_,_,_,_,_,_,_,h,_,_,_,_,_,_,_,_=>by simp at h
 |_,_,_,.cons v x b vs xs bs h t,hn,i,j,v1,u1,k,z,l,y,k1,k2,b1,c1,ys,zs,hv,hx,hu,hy,hij,p,q,ht1,ht2=>by(obtain⟨hn1,hn2,hn3⟩:=dX.1 hn;cases i with|zero=>(cases j with|zero=>exact bG rfl hij|succ j=>simp at hv hx;subst hv;subst hx;exact hn3 _ (gz.head_mem h ht1) _ (t.mem (by simpa using hu) (by simpa using hy) q ht2))|succ i=>cases j with|zero=>simp at hu hy;subst hu;subst hy;exact arY (hn3 _ (gz.head_mem h ht2) _ (t.mem (by simpa using hv) (by simpa using hx) p ht1))|succ j=>exact t.sep hn2 (by simpa using hv) (by simpa using hx) (by simpa using hu) (by simpa using hy) (by omega) ht1 ht2)
def Us(d:ax):∀(j:ax) (l:ah A),ae (rN d j l)=ae l
 |_,[]=>rfl
 |j,.tok k z xs::l=>by simp[rN,Us d (j+1) l]
 |j,.any::l|j,.undef::l|j,.bool _::l|j,.int _ _::l|j,.str _::l|j,.agg _::l|j,.sl _ _::l|j,.lz _::l|j,.cst _::l|j,.view _ _ _::l|j,.loc _ _ _::l
 |j,.ptr _ _::l|j,.fn _ _::l|j,.xv _::l|j,.own _ _::l|j,.iU _ _::l|j,.l7 _ _::l=>by simp[rN,Us d (j+1) l]
def S7(d:ax):∀(l:ah A) (j i:ax) {x:A},(rN d j l)[i]? =ai x->∃y,l[i]? =ai y/\((∃k z xs,y=.tok k z xs/\x=.tok (8*d+(j+i)) z xs)\/((∀k z xs,y≠ .tok k z xs)/\x=y/\∀cs,y=.agg cs->cs.any agB=aA)\/x=.any)
 | [],j,i,x,h=>by simp[rN]at h
 |y::l,j,i,x,h=>by
  cases i with
  |zero=>
   refine⟨y,rfl,?_⟩;by_cases hy:∃cs,y=.agg cs;·obtain⟨cs,rfl⟩:=hy;simp only[rN,aD,aC]at h;split at h;(·exact .inr (.inr h.symm));·rename_i hn;exact .inr (.inl ⟨(λ_ _ _ e=>by cases e),h.symm,λVc e=>by cases e;simpa using hn⟩)
   .cases y<;>first
     |(simp[rN]at h;subst h;exact .inl ⟨_,_,_,rfl,rfl⟩)
     |(simp[rN]at h;subst h;exact .inr (.inl ⟨(λ_ _ _ e=>by cases e),rfl,λcs e=>by cases e⟩))
     |exact bG ⟨_,rfl⟩ hy
  |succ i=>
   (have h':(rN d (j+1) l)[i]? =ai x:=by cases y<;>simpa[rN]using h);obtain⟨y',hy,hc⟩:=S7 d l (j+1) i h';rw[show j+1+i=j+(i+1)from by omega]at hc;exact⟨y',by simpa using hy,hc⟩
def dK.ahn{w:aU}{K:ax->Prop}:∀{vs:ah aL} {cs:ah A} {bs:ah ax},dK φ w K vs cs bs->cs.any agB=aA->dp φ w K vs cs
 |_,_,_,.nil,_=>.nil
 |_,_,_,.cons v x ob vs xs bs h t,hp=>by(simp only[oy,so]at hp;refine .cons _ _ _ _ ?_ (dK.ahn t hp.2);cases h with|data _ h ha=>exact h|own=>simp[agB]at hp)
def eL.mono{w:aU}{K K':ax->Prop}(hk:∀b,K b->K' b){v:aL}{z:ax}{xs:ah A}{ob:aq ax}(h:eL φ w K v z xs ob):eL φ w K' v z xs ob:=by cases h with|empty=>exact .empty _ _|mk b o cap z xs vs hc h0 hz h hv hr=>exact .mk b o cap z xs vs hc h0 hz (h.mono (λ_ _=>rfl) hk) hv hr
def dK.mono{w:aU}{K K':ax->Prop}(hk:∀b,K b->K' b):∀{vs:ah aL} {xs:ah A} {bs:ah ax},dK φ w K vs xs bs->dK φ w K' vs xs bs
 |_,_,_,.nil=>.nil
 |_,_,_,.cons v x ob vs xs bs h t=>by(refine .cons v x ob vs xs bs ?_ (t.mono hk);cases h with|data _ h ha=>exact .data _ _ (h.mono (λ_ _=>rfl) hk) ha|own _ _ _ h=>exact .own _ _ _ _ (h.mono hk))
def dK.plain{K K':ax->Prop}{w':aU}:∀{vs:ah aL} {xs:ah A} {bs:ah ax},dK φ w' K vs xs bs->A.yx xs=aB->dK φ w' K' vs xs bs
 |_,_,_,.nil,_=>.nil
 |_,_,_,.cons v x ob vs xs bs h t,hp=>by(simp only[A.yx,az]at hp;refine .cons v x ob vs xs bs ?_ (dK.plain t hp.2);cases h with|data _ h ha=>exact .data _ _ (h.plain hp.1) ha|own=>simp[A.plain]at hp)
def aiS{K:ax->Prop}{w':aU}{d:ax}:∀{vs:ah aL} {cs:ah A} {j:ax},dp φ w' K vs cs->wO d j cs=cs
 |_,_,_,.nil=>rfl
 |_,_,j,.cons v a vs ab h t=>by
  have:=aiS (d:=d) (j:=j+1) t
  cases a<;>first
   |(simp only[wO,this];done)
   |cases h
def al2{E':Env}{r:ax->aq eO}{w':aU}{d:ax}:∀{vs:ah aL} {cs:ah A} {bs:ah ax} {j:ax},dK φ w' E'.ok vs cs bs->
 hJ (lL φ E' r w') vs (wO d j cs)/\(∀(i:ax) v x k b,vs[i]? =ai v->(wO d j cs)[i]? =ai x->RJ v x k b->b∈bs/\k=8*d+(j+i))/\
  (bs.Nodup->∀(i i':ax) v v' x x' k k' b b',vs[i]? =ai v->(wO d j cs)[i]? =ai x->RJ v x k b->vs[i']? =ai v'->(wO d j cs)[i']? =ai x'->RJ v' x' k' b'->i≠i'->b≠b')
 |_,_,_,j,.nil=>⟨hJ.nil,λi v x k b h=>by simp at h,λ_ i i' v v' x x' k k' b b' h=>by simp at h⟩
 |_,_,_,j,.cons v x ob vs xs bs h t=>by
  obtain⟨h1,h2,h3⟩:=al2 (r:=r) (d:=d) (j:=j+1) t
  have hd:∃y,wO d j (x::xs)=y::wO d (j+1) xs/\lL φ E' r w' v y/\∀k b,RJ v y k b->b∈ob.toList/\k=8*d+j:=by
   cases h with
   |data _ hr ha=>
    refine⟨x,(by cases x<;>first|rfl|cases hr),.data _ _ hr,λk b ht=>bG ht (RJ.rm hr)⟩
   |own z ys _ ho=>
    refine⟨_,rfl,?_,λk b ht=> ?_⟩
    .cases ho with
     |empty ad=>exact .Ls _ _ _
     |mk b o cap _ _ vs LC h0 hz hh rW qP=>exact .tok b o cap _ _ _ vs LC h0 hz hh rW qP
    .cases ho with
     |empty ad=>cases ht;contradiction
     |mk=>cases ht;simp
  obtain⟨y,e,hy,ht⟩:=hd
  rw[e]
  refine⟨hJ.cons hy h1,λi u z k b hu hz hk=> ?_,λhn i i' u u' z z' k k' b b' hu hz hk hu' hz' hk' iS=> ?_⟩
  .cases i with
   |zero=>
    simp at hu hz;subst hu;subst hz
    exact⟨dZ _ (ht k b hk).1,(ht k b hk).2⟩
   |succ i=>
    obtain⟨g1,g2⟩:=h2 i u z k b (by simpa using hu) (by simpa using hz) hk
    exact⟨bN _ g1,by omega⟩
  .obtain⟨n1,n2,n3⟩:=dX.1 hn
   cases i with
   |zero=>
    simp at hu hz;subst hu;subst hz
    cases i' with
    |zero=>exact bG rfl iS
    |succ i'=>exact n3 _ (ht k b hk).1 _ (h2 i' u' z' k' b' (by simpa using hu') (by simpa using hz') hk').1
   |succ i=>
    cases i' with
    |zero=>
     simp at hu' hz';subst hu';subst hz'
     exact arY (n3 _ (ht k' b' hk').1 _ (h2 i u z k b (by simpa using hu) (by simpa using hz) hk).1)
    |succ i'=>exact h3 n2 i i' u u' z z' k k' b b' (by simpa using hu) (by simpa using hz) hk (by simpa using hu') (by simpa using hz') hk' (by omega)
def aEE{E':Env}{K':ax->Prop}{qQ:ah aL}{rs:ah A}{rb:ah ax}(hr:gz φ w' K' qQ rs rb)(hn:rb.Nodup) (af9:∀b∈rb,(¬E'.ok b/\ac8 w0 L b/\b<w'.heap.size)/\∀q b' o,(st.r q).isSome->E'.ρ q=ai (b',o)->b'≠b) (au1:∀b∈rb,∀i k b',Tk (a.eval (.tmp i)) (st.t i) k b'->b'≠b) (hio:rs.any aaD=aA) (hd:∀x∈rs,(∀v,gY φ w' K' v x->gY φ w' E'.ok v x)) (hdt:∀k z xs,A.tok k z xs∈rs->∀vs,dp φ w' K' vs (xs.flatMap A.cells)->dp φ w' E'.ok vs (xs.flatMap A.cells)) (hna:∀cs,rs≠ [.agg cs]) (d:ax): RV φ E' st.r w' (IQ qQ) (Ge d rs)/\WM w0 L E' st a w' (IQ qQ) (Ge d rs):=by
 have eJ:∀{vs:ah aL} {xs:ah A} {bs:ah ax},gz φ w' K' vs xs bs->ae vs=ae xs:=by intro vs xs bs hh;induction hh with|nil=>rfl|cons _ _ _ _ _ _ _ _ ih=>simp[ih]
 have Zv:∀{vs:ah aL} {xs:ah A} {bs:ah ax},gz φ w' K' vs xs bs->∀(i:ax) v x,vs[i]? =ai v->xs[i]? =ai x->∃c,xD φ w' K' v x c:=by intro vs xs bs hh;induction hh with|nil=>intro i v x h;simp at h|cons v0 x0 b0 vs xs bs h0 t ih=>intro i v x hv hx;cases i with|zero=>simp at hv hx;subst hv;subst hx;exact⟨_,h0⟩|succ i=>exact ih i v x (by simpa using hv) (by simpa using hx)
 have lO:hJ (lL φ E' st.r w') qQ (rN d 0 rs):=by
  refine⟨by rw[Us,eJ hr],λj v x hv hx=> ?_⟩;obtain⟨y,hy,hc⟩:=S7 d rs 0 j hx;obtain⟨c,V7⟩:=Zv hr j v y hv hy;rcases hc with ⟨k,z,xs,rfl,rfl⟩|⟨Oq,rfl,hno⟩|rfl
  .cases V7 with
   |data _ h=>cases h
   |tok _ _ _ ob ho=>cases ho with
    |empty ad=>exact .Ls _ _ _
    |mk b o cap z xs vs LC h0 hz hh rW qP=>exact .tok b o cap _ z xs vs LC h0 hz (hdt _ _ _ (cq hy) _ hh) rW qP
  .cases V7 with|data _ hh=>exact .data _ _ (hd x (cq hy) v hh)|tok k z xs=>exact bG rfl (Oq _ _ _)|str vs cs bs e hc=>exact .data _ _ (hd _ (cq hy) v (by rw[e];exact .agg _ _ (hc.ahn (hno _ rfl))))|iU=>have:=LP.1 hio _ (cq hy);simp[aaD]at this
  .exact .any _
 have aEt:∀(j:ax) v x k b,qQ[j]? =ai v->(rN d 0 rs)[j]? =ai x->RJ v x k b->b∈rb/\k=8*d+j:=by intro j v x k b hv hx ht;obtain⟨y,hy,hc⟩:=S7 d rs 0 j hx;(rcases hc with ⟨k0,z,xs,rfl,rfl⟩|⟨Oq,rfl,_⟩|rfl);(·refine⟨hr.mem hv hy _ ht,?_⟩;cases ht;simp);(·cases ht;exact bG rfl (Oq _ _ _));·cases ht
 have aSs:∀(i j:ax) v u x y k l b c,qQ[i]? =ai v->(rN d 0 rs)[i]? =ai x->qQ[j]? =ai u->(rN d 0 rs)[j]? =ai y->RJ v x k b->RJ u y l c->k≠l->b≠c:=by intro i j v u x y k l b c hv hx hu hy h1 h2 hkl;(have hij:i≠j:=by rintro rfl;exact hkl ((aEt i v x k b hv hx h1).2.trans (aEt i u y l c hu hy h2).2.symm));obtain⟨x',TL,hcx⟩:=S7 d rs 0 i hx;obtain⟨y',hy',hcy⟩:=S7 d rs 0 j hy;(rcases hcx with ⟨k0,z,xs,rfl,rfl⟩|⟨Oq,rfl,_⟩|rfl);(·(rcases hcy with ⟨l0,z',ys,rfl,rfl⟩|⟨Oq,rfl,_⟩|rfl);(·exact hr.sep hn hv TL hu hy' hij h1 h2);(·cases h2;exact bG rfl (Oq _ _ _));·cases h2);(·cases h1;exact bG rfl (Oq _ _ _));·cases h1
 have Mc:(∃v x,qQ=[v]/\rN d 0 rs=[x]/\IQ qQ=v/\Ge d rs=x)\/(IQ qQ=.tuple qQ.toArray/\Ge d rs=.xv (rN d 0 rs)):=by have hl:=lO.1;(have hpk:Ge d rs=(match rN d 0 rs with| [a]=>a|l=>.xv l):=by unfold Ge;split;(·exact bG rfl (hna _));·rfl);rw[hpk];match qQ,hrt:rN d 0 rs,hl with| [],[],_=>exact .inr ⟨rfl,rfl⟩| [v],[x],_=>exact .inl ⟨v,x,rfl,rfl,rfl,rfl⟩|v::u::vs,x::y::xs,_=>exact .inr ⟨rfl,rfl⟩| [],_::_,h=>simp at h|_::_,[],h=>simp at h| [_],_::_::_,h=>simp at h|_::_::_,[_],h=>simp at h
 rcases Mc with ⟨v,x,rfl,hrt,hpv,hpr⟩|⟨hpv,hpr⟩
 .rw[hpv,hpr];have h1:lL φ E' st.r w' v x:=lO.2 0 v x rfl (by rw[hrt];rfl);have hTk:∀k b,Tk v x k b->b∈rb/\k=8*d:=by intro k b ht;cases ht with|one _ _ _ _ ht=>simpa using aEt 0 v x k b rfl (by rw[hrt];rfl) ht|xv=>(cases h1 with|data _ _ h=>cases h)|agg us ys j k b v' a' rW ha' ht=>generalize hu:vt us.toArray=u at h1;cases h1 with|data _ _ h=>subst hu;exact bG (.agg us ys j k b v' a' rW ha' ht) (Tk.rm h)
  refine⟨.one _ _ h1,⟨λk b ht=>af9 b (hTk k b ht).1,λi k k' b b' ht ht' _=> ?_,λk k' b b' ht ht' iS=>bG ((hTk k b ht).2.trans (hTk k' b' ht').2.symm) iS⟩⟩;exactλe=>au1 b (hTk k b ht).1 i k' b' ht' e.symm
 .rw[hpv,hpr];have hTk:∀k b,Tk (.tuple qQ.toArray) (.xv (rN d 0 rs)) k b->∃(j:ax) (v:aL) (x:A),qQ[j]? =ai v/\(rN d 0 rs)[j]? =ai x/\RJ v x k b:=by intro k b ht;generalize hu:Value.tuple qQ.toArray=u at ht;cases ht with|one _ _ _ _ ht=>cases ht|xv us ys j k b v x hv hx ht=>simp at hu;subst hu;exact⟨j,v,x,hv,hx,ht⟩
  refine⟨.xv _ _ lO,⟨λk b ht=> ?_,λi k k' b b' ht ht' _=> ?_,λk k' b b' ht ht' iS=> ?_⟩⟩;·obtain⟨j,v,x,hv,hx,ht⟩:=hTk k b ht;exact af9 b (aEt j v x k b hv hx ht).1
  .obtain⟨j,v,x,hv,hx,ht⟩:=hTk k b ht;exactλe=>au1 b (aEt j v x k b hv hx ht).1 i k' b' ht' e.symm
  .obtain⟨j,v,x,hv,hx,ht⟩:=hTk k b ht;obtain⟨j',v',x',rW,TL,ht'⟩:=hTk k' b' ht';exact aSs j j' v v' x x' k k' b b' hv hx rW TL ht ht' iS
def azH{E':Env}{K':ax->Prop}{qQ:ah aL}{rs:ah A}{rb:ah ax}(hr:gz φ w' K' qQ rs rb)(hn:rb.Nodup) (af9:∀b∈rb,(¬E'.ok b/\ac8 w0 L b/\b<w'.heap.size)/\∀q b' o,(st.r q).isSome->E'.ρ q=ai (b',o)->b'≠b) (au1:∀b∈rb,∀i k b',Tk (a.eval (.tmp i)) (st.t i) k b'->b'≠b) (hio:rs.any aaD=aA) (hd:∀x∈rs,(∀v,gY φ w' K' v x->gY φ w' E'.ok v x)) (hdt:∀k z xs,A.tok k z xs∈rs->∀vs,dp φ w' K' vs (xs.flatMap A.cells)->dp φ w' E'.ok vs (xs.flatMap A.cells)) (hds:∀cs,A.agg cs∈rs->∀vs bs,dK φ w' K' vs cs bs->dK φ w' E'.ok vs cs bs) (d:ax): RV φ E' st.r w' (IQ qQ) (Ge d rs)/\WM w0 L E' st a w' (IQ qQ) (Ge d rs):=by
 by_cases hna:∃cs,rs=[.agg cs];·obtain⟨cs,rfl⟩:=hna;cases hr with|cons v _ b vs _ bs h t=>cases t;rw[cD]at hn af9 au1;show RV φ E' st.r w' v (.agg (wO d 0 cs))/\WM w0 L E' st a w' v (.agg (wO d 0 cs));cases h with|data _ h=>have h':=hd _ (aT.2 rfl) _ h;(have e:wO d 0 cs=cs:=by cases h with|agg vs _ h3=>exact aiS h3);rw[e];exact⟨.one _ _ (.data _ _ h'),⟨λk b ht=>bG ht (Tk.rm h'),λi k k' b b' ht=>bG ht (Tk.rm h'),λk k' b b' ht=>bG ht (Tk.rm h')⟩⟩|str vs _ _ e hc=>subst e;obtain⟨h1,h2,h3⟩:=al2 (r:=st.r) (d:=d) (j:=0) (hds _ (aT.2 rfl) _ _ hc);(have hTk:∀k b,Tk (.agg vs.toArray) (.agg (wO d 0 cs)) k b->∃(j:ax) (v:aL) (x:A),vs[j]? =ai v/\(wO d 0 cs)[j]? =ai x/\RJ v x k b:=by intro k b ht;generalize hu:vt vs.toArray=u at ht;cases ht with|one _ _ _ _ ht=>cases ht|agg us ys j k b v x hv hx ht=>simp at hu;subst hu;exact⟨j,v,x,hv,hx,ht⟩);refine⟨.agg _ _ h1,⟨λk b ht=> ?_,λi k k' b b' ht ht' _=> ?_,λk k' b b' ht ht' iS=> ?_⟩⟩;(·obtain⟨j,v,x,hv,hx,ht⟩:=hTk k b ht;exact af9 b (h2 j v x k b hv hx ht).1);(·obtain⟨j,v,x,hv,hx,ht⟩:=hTk k b ht;exactλe=>au1 b (h2 j v x k b hv hx ht).1 i k' b' ht' e.symm);·obtain⟨j,v,x,hv,hx,ht⟩:=hTk k b ht;obtain⟨j',v',x',rW,TL,ht'⟩:=hTk k' b' ht';exact h3 hn j j' v v' x x' k k' b b' hv hx ht rW TL ht' λe=>iS (by rw[(h2 j v x k b hv hx ht).2,(h2 j' v' x' k' b' rW TL ht').2,e])
 .exact aEE hr hn af9 au1 hio hd hdt (λcs e=>hna ⟨cs,e⟩) d
def alU(h:oR φ w0 L E st a w):∀{os:ah ej} {ys:ah dI} {ab:ah A},kt φ os ys=aB->(ys.map (dI.v st)).any owned=aA->LX st ys=ai ab->dp φ w E.ok (os.map a.eval) ab
 | [],[],ab,_,_,hc=>by simp[LX]at hc;subst hc;exact .nil
 | [],_::_,_,h',_,_=>by simp[kt]at h'
 |_::_,[],_,h',_,_=>by simp[kt]at h'
 |o::os,y::ys,ab,h',ho,hc=>by simp only[kt,az]at h';simp only[LX]at hc;obtain⟨x,hx,hc⟩:=aI.1 hc;obtain⟨xs,LD,rfl⟩:=aM.1 hc;simp only[aY,oy,so]at ho;exact .cons _ _ _ _ ((eM h h'.1).1.free ho.1 hx) (alU h h'.2 ho.2 LD)
def aqn(h:oR φ w0 L E st a w):∀{os:ah ej} {ys:ah dI} {ab:ah A},kt φ os ys=aB->LX st ys=ai ab->dp φ w (aKd w) (os.map a.eval) ab
 | [],[],ab,_,hc=>by simp[LX]at hc;subst hc;exact .nil
 | [],_::_,_,h',_=>by simp[kt]at h'
 |_::_,[],_,h',_=>by simp[kt]at h'
 |o::os,y::ys,ab,h',hc=>by simp only[kt,az]at h';simp only[LX]at hc;obtain⟨x,hx,hc⟩:=aI.1 hc;obtain⟨xs,LD,rfl⟩:=aM.1 hc;have ho:=eM h h'.1;exact .cons _ _ _ _ (aoD h.todC (.all h.todC) ho.1 (λk b ht=>by obtain⟨i,hi⟩:=ho.2 k b ht;exact(h.tz i k b hi).1.2.2) hx) (aqn h h'.2 LD)
def anG{K K':ax->Prop}:∀{vs:ah aL} {ab os:ah A} {bs:ah ax},dp φ w K vs ab->jF φ w' K' vs ab os bs->os=[]/\bs=[]
 |_,_,_,_,.nil,h=>by cases h;exact⟨rfl,rfl⟩
 |_,_,_,_,.cons v x vs ab h t,ho=>by(cases ho with|data _ _ _ _ _ _ ha t'=>exact anG t t'|iU=>cases h|l7=>cases h|gone=>cases h)
def oR.iW(h:oR φ w0 L E st a w){d:aq ax}(hd:∀i,d=ai i->i<a.tmps.size){v:aL}{x:A}(hv:RV φ E st.r w v x)(ht:WM w0 L E st a w v x): oR φ w0 L E (st.put d x) (a.put d v) w:=by cases d with|none=>exact h|some d=>exact h.put (hd d rfl) hv ht
def auk(h:oR φ w0 L E st a w){o:Zp}{c:Call}{x:ej}(ho:o.op=.call c)(hcx:c.callee=.value x){g:ax}{caps:ah aL}(hx:a.eval x=.func (.func (φ g)) #[] caps.toArray) {cf:CF} (hcf:CfG P φ w0 L cf) {ab rs outs:ah A} (hr:cf g ab=ai (rs,outs)) {K:ax->Prop} (hK:∀b,K b->b<w.heap.size) (hKE:∀b,E.ok b->K b) (ui:dp φ w K (c.args.toList.map a.eval++caps) ab) (Mc:(∀b,K b->E.ok b)\/rs.all aeZ=aB) (hio:rs.any aaD=aA) (hd:∀i,o.dst=ai i->i<a.tmps.size) {next:alk->aU->Prop} {Q:Exit->alk->aU->Prop} (hn:∀E' v w',oR φ w0 L E' (st.put o.dst (Ge (o.dst.getD 0) rs)) (a.put o.dst v) w'->next (a.put o.dst v) w'): o.wp P a w next Q:=by
 obtain⟨aKF,Ap⟩:=hcf.1 g ab rs outs hr;unfold Jf;rw[avX ho hcx hx aKF,Oper.upon_enter];have hvs:(c.args.map a.eval++caps.toArray)=(c.args.toList.map a.eval++caps).toArray:=by apply aa7;simp
 rw[hvs];refine(Ap w K _ [] (gy.ml ui) ib (λb hb=>by cases hb) hK (hcf.2.at h.todC hKE)).mono λe w' ⟨v,he,Mb⟩=> ?_;subst he;obtain⟨qQ,K',rb,ob,rfl,hKK,hK',V7,amn,Jg,hbl⟩:=Mb.rest;obtain⟨rfl,rfl⟩:=anG ui amn;rw[cD]at Jg hbl;have af8:Ext w w':=⟨Mb.grow,λb hb=>Mb.frame b hb (by simp),Mb.env⟩;let E':Env:=⟨λb=>E.ok b\/(K' b/\w.heap.size<=b/\b<w'.heap.size),E.ρ⟩
 have wi:E.Le E' w w':=⟨rfl,λb hb=>.inl hb,λb hb=>hb.imp id λh=>h.2⟩;have auX:∀b∈rb,w.heap.size<=b:=λb hb=>(hbl b hb).2.2.resolve_left (by simp)
 have hlr:=azH (w0:=w0) (L:=L) (st:=st) (a:=a) (E':=E') V7 Jg (λb hb=>by obtain⟨h1,h2,h3⟩:=hbl b hb;refine⟨⟨λhk=> ?_,.inl (dQ h.grow (auX b hb)),h2⟩,λq b' o hq hq'=> ?_⟩;(·(rcases hk with h4|h4);(·have:=h.okz b h4;have:=auX b hb;omega);·exact h1 h4.1);·have:=(h.rz q b' o hq hq').2.2;have:=auX b hb;omega) (λb hb i k b' ht'=>by have:=auX b hb;have:=(h.tz i k b' ht').1.2.2;omega) hio (λy hy u hu=>by
  rcases Mc with hKE|hst
  .refine hu.mono (λ_ _=>rfl) λb hb=> ?_
   rcases hK' b hb with h1|h1
   .exact .inl (hKE b h1)
   .exact .inr ⟨hb,h1.resolve_left (by simp)⟩
  .have hy1:=bz.1 hst y hy
   cases y<;>first
    |exact hu.plain hy1
    |(simp[aeZ]at hy1;done)
    |cases hu) (λk z xs hm vs hu=>by
  rcases Mc with hKE|hst
  .refine hu.mono (λ_ _=>rfl) λb hb=> ?_
   rcases hK' b hb with h1|h1
   .exact .inl (hKE b h1)
   .exact .inr ⟨hb,h1.resolve_left (by simp)⟩
  .exact hu.plain (Io (bz.1 hst _ hm))) (λcs hm vs bs hu=>by
  rcases Mc with hKE|hst
  .refine hu.mono λb hb=> ?_
   rcases hK' b hb with h1|h1
   .exact .inl (hKE b h1)
   .exact .inr ⟨hb,h1.resolve_left (by simp)⟩
  .exact hu.plain (bz.1 hst _ hm)) (o.dst.getD 0)
 exact hn E' _ w' ((h.ext af8 wi).iW hd hlr.1 hlr.2)
end
end Go.Ab
namespace Go.Ab
def ayw(P:bV)(t:bO)(z:ax):aW:=match P.info? t with|some i=>i.size==z|none=>aA
def ar7(P:bV)(s d:bO):Conv->aW
 |.int k=>(match P.underlying s,P.underlying d with|some _,ai (.int j)=>j==k|_,_=>aA)
 |.RN=>(match P.underlying s,P.underlying d with|some (.slice e),ai .string=>(match P.underlying e with|some (.int .u8)=>aB|_=>aA)|_,_=>aA)
def abh(P:bV)(φ:ax->ax)(b:Builtin)(args:ah ej)(tys:ah bO)(x:O):aW:=match b,args,tys,x with
 |.len,[y],[t],.len y'=>db φ y y'&&(match P.underlying t with|some (.slice _)=>aB|_=>aA)
 |.len,[y],[t],.lens y'=>db φ y y'&&(match P.underlying t with|some .string=>aB|_=>aA)
 |.len,[_],[t],.mv (.c (.int .i64 n))=>(match P.underlying t with|some (.array m _)=>n==(m:aw)|_=>aA)
 |.max,y::ys,_,.max (y'::ys')=>db φ y y'&&kt φ ys ys'&& !ys'.isEmpty
 |.min,y::ys,_,.min (y'::ys')=>db φ y y'&&kt φ ys ys'&& !ys'.isEmpty
 |.append,[s,y],[t,u],.app z bytes s' y'=>db φ s s'&&db φ y y'&& (match P.underlying t,P.underlying u with|some (.slice e),ai (.slice _)=>(match P.info? e with|some i=>i.size==z&&i.bytes==bytes&&(match i.zero with|some v=>v.cells.size==z|none=>aA)|none=>aA)|_,_=>aA)
 |_,_,_,_=>aA
def aDD(P:bV)(φ:ax->ax)(op:Go.Op)(x:O):aW:=match op,x with
 |.move y,.mv z=>db φ y z
 |.assign y,.asg z=>db φ y z
 |.assign y,.mv z=>db φ y z
 |.pick c a b,.pick c' a' b'=>db φ c c'&&db φ a a'&&db φ b b'
 |.alloc t,.alloc z zero=>asa P t z zero
 |.box _ y,.box _ y'=>db φ y y'
 |.build t ps,.build zero qs=>al3 P φ t ps.toList zero qs
 |.buildSlice t n ps,.bsl z zero m qs=>n==m&&(match P.underlying t with|some (.slice e)=>asa P e z zero|_=>aA)&&pW φ ps.toList qs
 |.load t y,.ld n y'=>db φ y y'&&adf P t n
 |.store t y v,.sto n y' v'=>db φ y y'&&db φ v v'&&ayw P t n
 |.nilCheck y,.aed y'=>db φ y y'
 |.binOp op t y z _,.bin op' y' z'=>op==op'&&db φ y y'&&db φ z z'
 |.binOp op t y z _,.eqb neq y' z'=>op==(if neq then .neq else .eql)&&db φ y y'&&db φ z z'&&(match P.underlying t with|some .bool=>aB|_=>aA)
 |.unOp op _ y,.un op' y'=>op==op'&&db φ y y'
 |.convert s d y,.conv k y'=>db φ y y'&&ar7 P s d k
 |.fieldAddr t y f,.fa off y'=>db φ y y'&&aze P t f off
 |.indexAddr t y i,.ia z y' i'=>db φ y y'&&db φ i i'&&azf P t z
 |.indexAddr t y i,.iaa len z y' i'=>db φ y y'&&db φ i i'&&ar8 P t len z
 |.index t y i,.ix y' i'=>db φ y y'&&db φ i i'&&(match P.underlying t with|some .string=>aB|_=>aA)
 |.index t y i,.ixa len z n y' i'=>db φ y y'&&db φ i i'&&(match P.underlying t with|some (.array m e)=>m==len&&ayw P e z&&adf P e n|_=>aA)
 |.slice t y lo hi au,.slc z y' lo' Vj=>db φ y y'&&Jk φ lo lo'&&Jk φ hi Vj&&(match P.underlying t with|some (.slice e)=>ayw P e z|_=>aA)
 |.slice t y lo hi au,.atc y' lo' Vj=>db φ y y'&&Jk φ lo lo'&&Jk φ hi Vj&&(match P.underlying t with|some .string=>aB|_=>aA)
 |.makeSlice t l c,.mks z bytes zero l' c'=>db φ l l'&&db φ c c'&&(match P.underlying t with|some (.slice e)=>asa P e z zero&&(match P.info? e with|some i=>i.bytes==bytes|none=>aA)|_=>aA)
 |.makeFunc (.func f) first caps,.mkf g aDB=>φ g==f&&first.size==0&&kt φ caps.toList aDB
 |.extract y i,.ext y' j=>db φ y y'&&i==j
 |.call ⟨.builtin b,args,tys⟩,x=>abh P φ b args.toList tys.toList x
 |.call ⟨.value f,args,_⟩,.call f' alT=>db φ f f'&&kt φ args.toList alT
 |_,_=>aA
section
variable {P:bV} {φ:ax->ax} {w0:aU} {L:nU} {E:Env} {st:St} {a:alk} {w w':aU}
def Qv{α β γ:Type}(x:Result α)(f:α->aU->Result β)(g:β->aU->Result γ):
 (x.andThen f).andThen g=x.andThen λa w'=>(f a w').andThen g:=by cases x<;>rfl
def ahY{t:bO}{z:ax}(h:ayw P t z=aB):∃i,P.info? t=ai i/\i.size=z:=by
 unfold ayw at h;split at h;·rename_i i hi;exact⟨i,hi,by simpa using h⟩
 .cases h
def acH(h:oR φ w0 L E st a w){o:Zp}{S:Sem aL}{r:A}(hv:aDj P φ w0 L E st a w S r)(he:(gS a.eval o).run P w=(S.run P w).andThen λv w'=>.ok (.value v) w') (hd:∀i,o.dst=ai i->i<a.tmps.size) {next:alk->aU->Prop} {Q:Exit->alk->aU->Prop} (hn:∀E' v w',oR φ w0 L E' (st.put o.dst r) (a.put o.dst v) w'->next (a.put o.dst v) w'): o.wp P a w next Q:=by obtain⟨v,w',E',jn,af8,wi,hrv,htk⟩:=hv;unfold Jf;rw[he,jn,cZ,xw];exact hn E' v w' ((h.ext af8 wi).iW hd hrv htk)
def fX(h:oR φ w0 L E st a w){o:Zp}{S:Sem aL}{r:A}(hv:Val P φ E st a w S r)(he:(gS a.eval o).run P w=(S.run P w).andThen λv w'=>.ok (.value v) w') (hd:∀i,o.dst=ai i->i<a.tmps.size) {next:alk->aU->Prop} {Q:Exit->alk->aU->Prop} (hn:∀E' v w',oR φ w0 L E' (st.put o.dst r) (a.put o.dst v) w'->next (a.put o.dst v) w'): o.wp P a w next Q:=acH h (hv.two h) he hd hn
def aqS{α:Type}{xs:kZ α}{y:α}(h:xs.toList=[y]):xs= #[y]:=by apply aa7;simpa using h
def aJs{α:Type}{xs:kZ α}{y z:α}(h:xs.toList=[y,z]):xs= #[y,z]:=by apply aa7;simpa using h
def aH9{o:Zp}{f:FuncId}{first caps:kZ ej}(ho:o.op=.makeFunc (.func f) first caps)(h0:first.size=0): (gS a.eval o).run P w=.ok (.value (.func (.func f) #[] (caps.map a.eval))) w:=by obtain rfl:first= #[]:=Array.eq_empty_of_size_eq_zero h0;simp[gS,ho,Instr.makeFunc]
def ahd(h:oR φ w0 L E st a w):∀{os:ah ej} {ys:ah dI},kt φ os ys=aB->hJ (λv x=>RV φ E st.r w v x/\LK st a v x) (os.map a.eval) (ys.map (dI.v st))
 | [],[],_=>.nil
 | [],_::_,h'=>by simp[kt]at h'
 |_::_,[],h'=>by simp[kt]at h'
 |o::os,y::ys,h'=>by simp only[kt,az]at h';exact .cons (eM h h'.1) (ahd h h'.2)
def auD{cf:CF}(hcf:CfG P φ w0 L cf){io:ax->ah aW}(h:oR φ w0 L E st a w){o:Zp}{x:O}(hc:aDD P φ o.op x=aB)(hd:∀i,o.dst=ai i->i<a.tmps.size){r:A} (he:ef cf io o.dst st x=ai r) {next:alk->aU->Prop} {Q:Exit->alk->aU->Prop} (hn:∀E' v w',oR φ w0 L E' (st.put o.dst r) (a.put o.dst v) w'->next (a.put o.dst v) w'):o.wp P a w next Q:=by
 obtain⟨dst,op,ty,pos,after,guard⟩:=o;simp only at hc hd he hn;unfold aDD at hc;split at hc<;>(try(cases hc;done))<;>(try simp only[az]at hc)<;>simp only[ef]at he
 .simp only[aC]at he;subst he;exact fX h (.pure (eM h hc)) (by simp[gS]) hd hn
 .have:Val P φ E st a w (Rv (a.eval _)) r:=.pure (by split at he<;>(try(cases he;done))<;>simp only[aC]at he<;>subst he<;>exact eM h hc);exact fX h this (by simp[gS]) hd hn
 .simp only[aC]at he;subst he;exact fX h (.pure (eM h hc)) (by simp[gS]) hd hn
 .split at he;·rename_i t ht;simp only[aC]at he;subst he;exact fX h (aFO h hc.1.1 hc.1.2 hc.2 ht) (by simp[gS,Qv]) hd hn
  .cases he
 .cases he
 .cases he
 .exact fX h (aCa h hc he) (by simp[gS]) hd hn
 .split at he;·rename_i d;obtain⟨⟨hnm,hz⟩,hp⟩:=hc;simp only[cS]at hnm;subst hnm;split at hz;(·rename_i e ht;exact acH h (aIo h ht hz hp he) (by simp[gS]) hd hn);·cases hz
  .cases he
 .exact fX h (aFK h hc.1 hc.2 he) (by simp[gS]) hd hn
 .cases he
 .rename_i y y';obtain⟨v,jn,hrv,hcp⟩:=aCb (o:=⟨dst,.nilCheck y,ty,pos,after,guard⟩) h hc rfl he;unfold Jf;rw[jn,xw];exact hn E v w (h.iW hd hrv (hcp.tok h))
 .obtain⟨⟨hop,h1⟩,h2⟩:=hc;simp only[cS]at hop;subst hop;exact fX h (aIn (t:=_) (u:=ty) h h1 h2 he) (by simp only[gS,eP,Qv];rfl) hd hn
 .obtain⟨⟨⟨hop,h1⟩,h2⟩,h3⟩:=hc;simp only[cS]at hop;split at h3;·rename_i ht;exact fX h (aIp h hop h1 h2 ht he) (by simp[gS,Qv]) hd hn
  .cases h3
 .obtain⟨hop,h1⟩:=hc;simp only[cS]at hop;subst hop;exact fX h (aLE h h1 he) (by simp[gS]) hd hn
 .rename_i s d y k y';obtain⟨h1,h2⟩:=hc;cases k with|int k=>simp only[ar7]at h2;split at h2;(·rename_i ds j hs hdd;simp only[cS]at h2;subst h2;(have he':(match y'.v st with|.int _ n=>ai (A.int j (j.wrap n))|_=>au)=ai r:=by cases hv:y'.v st<;>rw[hv]at he<;>first|exact he|cases he);exact fX h (ato h h1 hs hdd he') (by simp[gS]) hd hn);·cases h2|RN=>simp only[ar7]at h2;split at h2;(·rename_i e hs hdd;split at h2;(·rename_i hee;exact fX h (aoH h h1 hs hee hdd he) (by simp[gS]) hd hn);·cases h2);·cases h2
 .exact fX h (aLB h hc.1 hc.2 he) (by simp[gS]) hd hn
 .exact fX h (aLC h hc.1.1 hc.1.2 hc.2 he) (by simp[gS]) hd hn
 .exact fX h (aIr h hc.1.1 hc.1.2 hc.2 he) (by simp[gS]) hd hn
 .obtain⟨⟨h1,h2⟩,h3⟩:=hc;split at h3;·rename_i ht;exact fX h (aLD h h1 h2 ht he) (by simp[gS]) hd hn
  .cases h3
 .obtain⟨⟨h1,h2⟩,h3⟩:=hc;split at h3;·rename_i m e ht;simp only[az,cS]at h3;obtain⟨⟨rfl,h4⟩,h5⟩:=h3;obtain⟨i,hi,hz⟩:=ahY h4;exact fX h (aIs h h1 h2 ht hi hz h5 he) (by simp[gS]) hd hn
  .cases h3
 .obtain⟨⟨⟨h1,h2⟩,h3⟩,h4⟩:=hc;split at h4;·rename_i e ht;obtain⟨i,hi,hz⟩:=ahY h4;exact fX h (aIv h h1 h2 h3 ht hi hz he) (by simp[gS]) hd hn
  .cases h4
 .obtain⟨⟨⟨h1,h2⟩,h3⟩,h4⟩:=hc;split at h4;·rename_i ht;exact fX h (aFQ h h1 h2 h3 ht he) (by simp[gS]) hd hn
  .cases h4
 .obtain⟨⟨h1,h2⟩,h3⟩:=hc;split at he;·rename_i d n m e1 e2;split at h3;(·rename_i e ht;simp only[az]at h3;obtain⟨h4,h5⟩:=h3;refine acH h (aIu (d:=d) (bytes:=_) h h1 h2 ht h4 (λi hi=> ?_) (by rw[e1,e2];exact he)) (by simp[gS]) hd hn;rw[hi]at h5;simpa using h5);·cases h3
  .cases he
 .rename_i f first caps g aDB;obtain⟨⟨h1,h2⟩,h3⟩:=hc;simp only[cS]at h1 h2;subst h1;split at he;·rename_i hs;simp only[aC]at he;subst he;unfold Jf;rw[aH9 (o:=⟨dst,.makeFunc (.func (φ g)) first caps,ty,pos,after,guard⟩) rfl h2,xw];have lO:=ahd h h3;(have aRX:caps.map a.eval=(caps.toList.map a.eval).toArray:=by apply aa7;simp);rw[aRX];(have hrv:RV φ E st.r w (.func (.func (φ g)) #[] (caps.toList.map a.eval).toArray) (.fn g (aDB.map (dI.v st))):=by refine .fn g _ _ ⟨lO.1,λj v x hv hx=> ?_⟩ (λx hx=>by have:=bz.1 hs x hx;simp only[az,gj]at this;exact this.2);have hx1:=bz.1 hs x (cq hx);simp only[az]at hx1;have hr:=(lO.2 j v x hv hx).1;by_cases hxa:∃cs,x=.agg cs;(·obtain⟨cs,rfl⟩:=hxa;simp[nS,ek]at hx1);·exact(ahr hr hx1.1 λcs e=>hxa ⟨cs,e⟩).1);exact hn E _ w (h.iW hd hrv ((LK.scalar aHM).tok h))
  .cases he
 .obtain⟨h1,h2⟩:=hc;simp only[cS]at h2;subst h2;exact fX h (aIq h h1 he) (by simp[gS]) hd hn
 .rename_i b args tys x';unfold abh at hc;split at hc<;>(try(cases hc;done))<;>(try simp only[az]at hc)<;>(try simp only[ef]at he)
  .rename_i ui axK;rw[aqS ui,aqS axK];obtain⟨h1,h2⟩:=hc;obtain⟨n,hn1,rfl⟩:=aM.1 he;split at h2;(·rename_i e ht;exact fX h (aIt (ty:=ty) h h1 ht hn1) (by simp[gS,resolve,invoke,builtin]) hd hn);·cases h2
  .rename_i ui axK;rw[aqS ui,aqS axK];obtain⟨h1,h2⟩:=hc;split at h2;(·rename_i ht;exact fX h (aFL (ty:=ty) h h1 ht he) (by simp[gS,resolve,invoke,builtin]) hd hn);·cases h2
  .rename_i ui axK;rw[aqS ui,aqS axK];simp only[dI.v,aC]at he;subst he;split at hc;(·rename_i m e ht;simp only[cS]at hc;subst hc;refine fX (S:=DD #[_] ty #[a.eval _]) h (jh (v:=.int .i64 m) ?_ (.int _ _)) (by simp[gS,resolve,invoke,builtin];rfl) hd hn;simp[DD,jN ht,goInt]);·cases hc
  .rename_i ui;obtain⟨⟨h1,h2⟩,h3⟩:=hc;simp only[aY]at he;(have iS:∀l:ah dI,(!l.isEmpty)=aB->l≠ []:=λl hl e=>by subst e;simp at hl);refine fX h (awl (g:=aGG) aHI h h1 h2 (iS _ h3) he) ?_ hd hn;simp[gS,resolve,invoke,builtin,Builtin.max_,ui]
  .rename_i ui;obtain⟨⟨h1,h2⟩,h3⟩:=hc;simp only[aY]at he;(have iS:∀l:ah dI,(!l.isEmpty)=aB->l≠ []:=λl hl e=>by subst e;simp at hl);refine fX h (awl (g:=aGH) aHJ h h1 h2 (iS _ h3) he) ?_ hd hn;simp[gS,resolve,invoke,builtin,Builtin.min_,ui]
  .cases he
 .rename_i f args tys f' alT;obtain⟨h1,h2⟩:=hc;have hf:=eM h h1;split at he;·rename_i g caps hfv;rw[hfv]at hf;obtain⟨cv,hev,aqG⟩:=hf.1.ame;split at he;(·cases he);·obtain⟨ab,has,he⟩:=aI.1 he;obtain⟨cs,oz,he⟩:=aI.1 he;split at oz;(·cases oz);·rename_i Oq;(have aR7:caps.any uu=aA:=by simpa using Oq);obtain⟨⟨rs,outs⟩,hr,he⟩:=aI.1 he;simp only at he;split at he;(·rename_i gF;simp only[aC]at he;subst he;simp only[az,mZ,gj,so]at gF;obtain⟨gF,hio⟩:=gF;(rcases gF with hst|⟨ho1,ho2⟩);(·exact auk (o:=⟨dst,.call ⟨.value f,args,tys⟩,ty,pos,after,guard⟩) h rfl rfl hev hcf hr (K:=aKd w) (λ_ hb=>hb) h.okz ((aqn h h2 has).append (aqq h.todC (.all h.todC) aqG aR7 oz)) (.inr hst) hio hd hn);·exact auk (o:=⟨dst,.call ⟨.value f,args,tys⟩,ty,pos,after,guard⟩) h rfl rfl hev hcf hr (K:=E.ok) h.okz (λ_ hb=>hb) ((alU h h2 ho1 has).append (aqG.free ho2 oz)) (.inl λ_ hb=>hb) hio hd hn);·cases he
  .cases he
end
end Go.Ab
namespace Go.Ab
section
variable {P:bV} {φ:ax->ax} {w0:aU} {L:nU} {E E':Env} {st st':St} {ev ev':ax->aL} {w w':aU} {r r':ax->aq eO}
def lL.od(Ap:∀b,E.ok b->E'.ok b)(hr:∀q R,r' q=ai R->r q=ai R/\E'.ρ q=E.ρ q){v:aL}{x:A}(h:lL φ E r w v x):lL φ E' r' w v x:=by
 have RZ:∀q,r q=au->r' q=au:=λq hq=>by cases e:r' q with|none=>rfl|some R=>have:=(hr q R e).1;rw[hq]at this;cases this
 have FR:∀q R,r q=ai R->r' q=au\/(r' q=ai R/\E'.ρ q=E.ρ q):=λq R hq=>by cases e:r' q with|none=>exact .inl rfl|some R'=>have:=hr q R' e;rw[hq]at this;obtain⟨h1,h2⟩:=this;cases h1;exact .inr ⟨rfl,h2⟩
 cases h with|any=>exact .any _|undef=>exact .undef|data _ _ h=>exact .data _ _ (h.mono (λ_ _=>rfl) Ap)|Ls=>exact .Ls _ _ _|tok b o cap k z xs vs hc h0 hz h hv hr=>exact .tok b o cap k z xs vs hc h0 hz (h.mono (λ_ _=>rfl) Ap) hv hr|pz _ q off n h=>exact .pz _ _ _ _ (RZ _ h)|pP ad q off R h hb hn=>(rcases FR q R h with h1|⟨h1,h2⟩);(·exact .pz _ _ _ _ h1);·exact .pP ad q off R h1 hb hn|view b o cap q off n R h hb hn hc h0 hq hr=>(rcases FR q R h with h1|⟨h1,h2⟩);(·exact .pz _ _ _ _ h1);·exact .view b o cap q off n R h1 hb hn hc h0 (h2.trans hq) hr|Uf _ q i c h=>exact .Uf _ _ _ _ (RZ _ h)|loc b o q i c R h hq=>(rcases FR q R h with h1|⟨h1,h2⟩);(·exact .Uf _ _ _ _ h1);·exact .loc b o q i c R h1 (h2.trans hq)
def fT.od(Ap:∀b,E.ok b->E'.ok b)(hr:∀q R,r' q=ai R->r q=ai R/\E'.ρ q=E.ρ q){q c:ax}{v:aL}{x:A}(h:fT φ E r w q c v x):fT φ E' r' w q c v x:=by cases h with|data _ h ha=>exact .data _ _ (h.mono (λ_ _=>rfl) Ap) ha|any h=>exact .any _ h|view off n hc h hv=>exact .view _ _ _ hc (h.od Ap hr) hv
def pS.od(Ap:∀b,E.ok b->E'.ok b)(hr:∀q R,r' q=ai R->r q=ai R/\E'.ρ q=E.ρ q){q:ax}{R:eO}(hq:r' q=ai R)(h:pS φ E r w q R):pS φ E' r' w q R:=by have hρ:=(hr q R hq).2;cases h with|empty z h=>exact .empty z (hρ.trans h)|sl b o z xs vs hq' hz h hv qP=>exact .sl b o z xs vs (hρ.trans hq') hz (h.mono (λ_ _=>rfl) Ap) hv qP|box b o z x vs hq' hz dE hl h hv qP=>exact .box b o z x vs (hρ.trans hq') hz dE hl (λc v a h1 h2=>(h c v a h1 h2).od Ap hr) hv qP
def dC.giveUp(h:dC φ w0 L E st ev w){N T:ax->Prop}{ok':ax->Prop}(h1:∀b,E.ok b->ok' b) (h2:∀b,ok' b->E.ok b\/(∃q o,N q/\(st.r q).isSome/\E.ρ q=ai (b,o))\/(∃i k,T k/\Tk (ev i) (st.t i) k b)) (hr:∀q R,st'.r q=ai R->st.r q=ai R/\¬N q) (hs:∀i,RV φ ⟨ok',E.ρ⟩ st'.r w (ev' i) (st'.t i)) (ht:∀i k b,Tk (ev' i) (st'.t i) k b->¬T k/\∃j,Tk (ev j) (st.t j) k b):dC φ w0 L ⟨ok',E.ρ⟩ st' ev' w:=by
 have hsm:∀q,(st'.r q).isSome->(st.r q).isSome/\¬N q:=λq hq=>by obtain⟨R,hR⟩:=iM.1 hq;exact⟨by rw[(hr q R hR).1];rfl,(hr q R hR).2⟩
 exact{
  me:=hs
  roots:=λq R hq=>pS.od (E:=E) (E':=⟨ok',E.ρ⟩) (r:=st.r) h1 (λq R hq=>⟨(hr q R hq).1,rfl⟩) hq (h.roots q R (hr q R hq).1)
  inj:=λq q' b o b' o' a1 a2 a3 a4=>h.inj q q' b o b' o' (hsm q a1).1 (hsm q' a2).1 a3 a4
  rz:=λq b o a1 a2=>by
   have a3:=hsm q a1
   have a4:=h.rz q b o a3.1 a2
   refine⟨λhk=> ?_,a4.2⟩
   rcases h2 b hk with h3|⟨q',o',n1,n2,n3⟩|⟨i,k,n1,n2⟩
   .exact a4.1 h3
   .exact h.inj q q' b o b o' a3.1 n2 a2 n3 (λe=>a3.2 (e▸n1)) rfl
   .exact(h.tz i k b n2).2 q b o a3.1 a2 rfl
  tz:=λi k b a1=>by
   obtain⟨a2,j,a3⟩:=ht i k b a1
   have a4:=h.tz j k b a3
   refine⟨⟨λhk=> ?_,a4.1.2⟩,λq b' o a5 a6=>a4.2 q b' o (hsm q a5).1 a6⟩
   rcases h2 b hk with h3|⟨q',o',n1,n2,n3⟩|⟨i',k',n1,n2⟩
   .exact a4.1.1 h3
   .exact a4.2 q' b o' n2 n3 rfl
   .exact h.td j i' k k' b b a3 n2 (λe=>a2 (e▸n1)) rfl
  td:=λi j k k' b b' a1 a2 a3=>by
   obtain⟨_,i',a4⟩:=ht i k b a1
   obtain⟨_,j',a5⟩:=ht j k' b' a2
   exact h.td i' j' k k' b b' a4 a5 a3
  okz:=λb hk=>by
   rcases h2 b hk with h3|⟨q',o',n1,n2,n3⟩|⟨i,k,n1,n2⟩
   .exact h.okz b h3
   .exact(h.rz q' b o' n2 n3).2.2
   .exact(h.tz i k b n2).1.2.2
  grow:=h.grow,frame:=h.frame,env:=h.env,fr:=h.fr,room:=h.room
  ZO:=λi p a1 a2=>h.ZO i p a1 (hsm i a2).1
  okU:=λb hb=>h1 b (h.okU b hb)
  okL:=λb hk=>by
   rcases h2 b hk with h3|⟨q',o',n1,n2,n3⟩|⟨i,k,n1,n2⟩
   .exact h.okL b h3
   .exact .inr (h.rz q' b o' n2 n3).2.1
   .exact .inr (h.tz i k b n2).1.2.1}
def dC.od(h:dC φ w0 L E st ev w)(hr:∀q R,st'.r q=ai R->st.r q=ai R)(hs:∀i,RV φ E st'.r w (ev' i) (st'.t i)) (ht:∀i k b,Tk (ev' i) (st'.t i) k b->∃j,Tk (ev j) (st.t j) k b):dC φ w0 L E st' ev' w:=h.giveUp (N:=λ_=>JW) (T:=λ_=>JW) (ok':=E.ok) (λ_ h=>h) (λb h=>.inl h) (λq R hq=>⟨hr q R hq,id⟩) hs (λi k b a=>⟨id,ht i k b a⟩)
structure Fd(f:A->A)(G:ax->Prop):Prop where
 tk:∀v x k b,RJ v (f x) k b->RJ v x k b/\G k
 na:∀x,(∀cs,x≠ .agg cs)->(∀cs,x≠ .xv cs)->(∀cs,f x≠ .agg cs)/\(∀cs,f x≠ .xv cs)
 nt:∀x,uu x=aA->uu (f x)=aA
def Tk.gn{f:A->A}{G:ax->Prop}(hf:Fd f G){v:aL}{x:A}{k b:ax}(h:Tk v (Ab.gn f x) k b):Tk v x k b/\G k:=by
 have one:(∀cs,x≠ .agg cs)->(∀cs,x≠ .xv cs)->Tk v (f x) k b->Tk v x k b/\G k:=λh1 h2 h=>by have h3:=hf.na x h1 h2;generalize hy:f x=y at h;cases h with|one _ _ _ _ h=>subst hy;exact⟨.one _ _ _ _ (hf.tk _ _ _ _ h).1,(hf.tk _ _ _ _ h).2⟩|xv=>exact bG hy (h3.2 _)|agg=>exact bG hy (h3.1 _)
 cases x with|agg xs=>(simp only[Ab.gn]at h;generalize hy:A.agg (xs.map f)=y at h;cases h with|one _ _ _ _ h=>subst hy;cases h|xv=>cases hy|agg vs ys j k b v a hv ha ht=>cases hy;simp only[cC,aM]at ha;obtain⟨c,hc,rfl⟩:=ha;exact⟨.agg vs xs j k b v c hv hc (hf.tk _ _ _ _ ht).1,(hf.tk _ _ _ _ ht).2⟩)|xv xs=>(simp only[Ab.gn]at h;generalize hy:A.xv (xs.map f)=y at h;cases h with|one _ _ _ _ h=>subst hy;cases h|agg=>cases hy|xv vs ys j k b v a hv ha ht=>cases hy;simp only[cC,aM]at ha;obtain⟨c,hc,rfl⟩:=ha;exact⟨.xv vs xs j k b v c hv hc (hf.tk _ _ _ _ ht).1,(hf.tk _ _ _ _ ht).2⟩)|fn g xs=>(simp only[Ab.gn]at h;cases h with|one _ _ _ _ h=>cases h)|_=>exact one (λ_ h=>by cases h) (λ_ h=>by cases h) h
def RV.al4{f:A->A}(Oq:∀x,uu x=aA->uu (f x)=aA){v:aL}{x:A}(hf:∀u y,(∀k b,RJ u y k b->Tk v x k b)->lL φ E r w u y->lL φ E' r' w' u (f y))(h:RV φ E r w v x): RV φ E' r' w' v (Ab.gn f x):=by cases x with|agg xs=>obtain⟨vs,rfl,h1⟩:=h.OQ;refine .agg _ _ ⟨by simp[h1.1],λj u y hu hy=> ?_⟩;simp only[cC,aM]at hy;obtain⟨z,hz,rfl⟩:=hy;exact hf u z (λk b ht=>.agg vs xs j k b u z hu hz ht) (h1.2 j u z hu hz)|xv xs=>obtain⟨vs,rfl,h1⟩:=h.atl;refine .xv _ _ ⟨by simp[h1.1],λj u y hu hy=> ?_⟩;simp only[cC,aM]at hy;obtain⟨z,hz,rfl⟩:=hy;exact hf u z (λk b ht=>.xv vs xs j k b u z hu hz ht) (h1.2 j u z hu hz)|fn g xs=>obtain⟨vs,rfl,h1,h2⟩:=h.asl;refine .fn _ _ _ ⟨by simp[h1.1],λj u y hu hy=> ?_⟩ (λx hx=>by obtain⟨y,hy,rfl⟩:=dF.1 hx;exact Oq y (h2 y hy));simp only[cC,aM]at hy;obtain⟨z,hz,rfl⟩:=hy;refine hf u z (λk b ht=> ?_) (h1.2 j u z hu hz);have:=h2 z (cq hz);cases ht;cases this|_=>cases h with|one _ _ h=>exact .one _ _ (hf _ _ (λk b ht=>.one _ _ _ _ ht) h)
def RV.gn{f:A->A}(Oq:∀x,uu x=aA->uu (f x)=aA)(hf:∀v x,lL φ E r w v x->lL φ E' r' w' v (f x)){v:aL}{x:A}(h:RV φ E r w v x):RV φ E' r' w' v (Ab.gn f x):=h.al4 Oq λu y _=>hf u y
def OT(q:ax):Fd (MS q) (λ_=>True) where
 tk:=λv x k b h=>by
  unfold MS at h;split at h;·cases h
  .exact⟨h,trivial⟩
 na:=λx h1 h2=>by unfold MS;split<;>first|exact⟨h1,h2⟩|exact⟨(λ_ h=>by cases h),(λ_ h=>by cases h)⟩
 nt:=λx h=>by unfold MS;split<;>first|exact h|rfl
def Ma(q:ax):Fd (Er q) (λk=>k≠q) where
 tk:=λv x k b h=>by
  unfold Er at h;split at h;·cases h
  .rename_i hn;refine⟨h,λe=>hn ?_⟩;cases h;simp[axQ,e]
 na:=λx h1 h2=>by unfold Er;split<;>first|exact⟨h1,h2⟩|exact⟨(λ_ h=>by cases h),(λ_ h=>by cases h)⟩
 nt:=λx h=>by unfold Er;split<;>first|exact h|rfl
def auG(q:ax):Fd (UZ q) (λk=>k≠q) where
 tk:=λv x k b h=>by
  unfold UZ at h;split at h;·split at h;(·cases h);·rename_i hn;refine⟨h,λe=>hn ?_⟩;cases h;exact e
  .rename_i hn;cases h;exact bG rfl (hn _ _ _)
 na:=λx h1 h2=>by unfold UZ;split<;>(try split)<;>first|exact⟨h1,h2⟩|exact⟨(λ_ h=>by cases h),(λ_ h=>by cases h)⟩
 nt:=λx h=>by unfold UZ;split<;>(try split)<;>first|exact h|rfl
def TK(ks:ah ax):Fd (vu ks) (λk=>k∉ks) where
 tk:=λv x k b h=>by
  unfold vu at h;split at h;·split at h;(·cases h);·rename_i hn;refine⟨h,λe=>hn ?_⟩;cases h;simpa using e
  .rename_i hn;cases h;exact bG rfl (hn _ _ _)
 na:=λx h1 h2=>by unfold vu;split<;>(try split)<;>first|exact⟨h1,h2⟩|exact⟨(λ_ h=>by cases h),(λ_ h=>by cases h)⟩
 nt:=λx h=>by unfold vu;split<;>(try split)<;>first|exact h|rfl
def aqA(q:ax)(R:eO):Fd (Ii q R) (λ_=>True) where
 tk:=λv x k b h=>by
  unfold Ii at h;split at h;·split at h;(·cases h);·exact⟨h,trivial⟩
  .split at h;(·cases h);·exact⟨h,trivial⟩
  .exact⟨h,trivial⟩
 na:=λx h1 h2=>by unfold Ii;split<;>(try split)<;>first|exact⟨h1,h2⟩|exact⟨(λ_ h=>by cases h),(λ_ h=>by cases h)⟩
 nt:=λx h=>by unfold Ii;split<;>(try split)<;>first|exact h|rfl
def dC.map(h:dC φ w0 L E st ev w){f:A->A}{G:ax->Prop}(hf:Fd f G)(hv:∀v x,lL φ E st.r w v x->lL φ E st.r w v (f x)):dC φ w0 L E (st.map (gn f)) ev w:=h.od (λ_ _ h=>h) (λi=>(h.me i).gn hf.nt hv) (λi k b ht=>⟨i,(Tk.gn hf ht).1⟩)
def dC.kill(h:dC φ w0 L E st ev w)(q:ax):dC φ w0 L E (st.kill q) ev w:=
 h.map (OT q) λv x hx=>by unfold MS;split<;>first|exact .any _|exact hx
def dC.eW(h:dC φ w0 L E st ev w)(q:ax):dC φ w0 L E (st.eW q) ev w:=
 h.map (Ma q) λv x hx=>by unfold Er;split<;>first|exact .any _|exact hx
def LH(q:ax)(x:A):refs q (gn (MS q) x)=aA:=by
 have h1:∀y,nM q (MS q y)=aA:=λy=>by unfold MS;split;(·rfl);·rename_i h;simpa using h
 have hl:∀xs:ah A,(xs.map (MS q)).any (nM q)=aA:=λxs=>by rw[LP];intro y hy;obtain⟨z,_,rfl⟩:=dF.1 hy;simp[h1 z]
 cases x<;>first
  |exact hl _
  |(simp only[gn,MS];split<;>first|rfl|(rename_i h;simpa[refs]using h))
def dC.less(h:dC φ w0 L E st ev w){r':ax->aq eO}(hr:∀q R,r' q=ai R->st.r q=ai R):dC φ w0 L E {st with r:=r'} ev w:=h.od hr (λi=>(h.me i).imp λv x hx=>hx.od (λ_ h=>h) (λq R hq=>⟨hr q R hq,rfl⟩)) (λi k b ht=>⟨i,ht⟩)
def dC.YM(h:dC φ w0 L E st ev w)(q:ax):dC φ w0 L E (st.bj q au) ev w:=
 h.less λp R hp=>by
  split at hp;·cases hp
  .exact hp
def lL.root{q:ax}{p:aq (ax×ax)}{R:eO}(hq:r q=au){v:aL}{x:A}(hn:nM q x=aA)(h:lL φ E r w v x): lL φ ⟨E.ok,λi=>if i=q then p else E.ρ i⟩ (λi=>if i=q then ai R else r i) w v x:=by
 have iS:∀p,(p==q)=aA->p≠q:=λp h e=>by simp[e]at h
 cases h with|any=>exact .any _|undef=>exact .undef|data _ _ h=>exact .data _ _ h|Ls=>exact .Ls _ _ _|tok b o cap k z xs vs hc h0 hz h hv hr=>exact .tok b o cap k z xs vs hc h0 hz h hv hr|pz _ q' off n h=>have:=iS _ hn;exact .pz _ _ _ _ (by simp[this,h])|pP ad q' off R' h hb hnn=>have:=iS _ hn;exact .pP ad q' off R' (by simp[this,h]) hb hnn|view b o cap q' off n R' h hb hnn hc h0 hq' hr=>have:=iS _ hn;exact .view b o cap q' off n R' (by simp[this,h]) hb hnn hc h0 (by simp[this,hq']) hr|Uf _ q' i c h=>have:=iS _ hn;exact .Uf _ _ _ _ (by simp[this,h])|loc b o q' i c R' h hq'=>have:=iS _ hn;exact .loc b o q' i c R' (by simp[this,h]) (by simp[this,hq'])
def RV.root{q:ax}{p:aq (ax×ax)}{R:eO}(hq:r q=au){v:aL}{x:A}(hn:refs q x=aA)(h:RV φ E r w v x): RV φ ⟨E.ok,λi=>if i=q then p else E.ρ i⟩ (λi=>if i=q then ai R else r i) w v x:=by have mp:∀{vs:ah aL} {xs:ah A},xs.any (nM q)=aA->hJ (lL φ E r w) vs xs->hJ (lL φ ⟨E.ok,λi=>if i=q then p else E.ρ i⟩ (λi=>if i=q then ai R else r i) w) vs xs:=λh1 h2=> ⟨h2.1,λj v x hv hx=>(h2.2 j v x hv hx).root hq (by have:=LP.1 h1 x (cq hx);simpa using this)⟩;cases x with|agg xs=>obtain⟨vs,rfl,h1⟩:=h.OQ;exact .agg _ _ (mp hn h1)|xv xs=>obtain⟨vs,rfl,h1⟩:=h.atl;exact .xv _ _ (mp hn h1)|fn g xs=>obtain⟨vs,rfl,h1,h2⟩:=h.asl;exact .fn _ _ _ (mp hn h1) h2|_=>cases h with|one _ _ h=>exact .one _ _ (h.root hq hn)
def dC.root(h:dC φ w0 L E st ev w){q:ax}{R:eO}{p:aq (ax×ax)}(hq:st.r q=au)(hn:∀i,refs q (st.t i)=aA) (hc:∀p' R',st.r p'=ai R'->R'.b=aB->∀x∈R'.xs,∀y∈x.cells,nM q y=aA) (hp:∀b o,p=ai (b,o)->(¬E.ok b/\ac8 w0 L b/\b<w.heap.size)/\(∀q' b' o',(st.r q').isSome->E.ρ q'=ai (b',o')->b'≠b)/\∀i k b',Tk (ev i) (st.t i) k b'->b'≠b) (Md:∀p',L.pl q=ai p'->p=ai p') (hR:pS φ ⟨E.ok,λi=>if i=q then p else E.ρ i⟩ (st.bj q (ai R)).r w q R): dC φ w0 L ⟨E.ok,λi=>if i=q then p else E.ρ i⟩ (st.bj q (ai R)) ev w:=by
 have hsm:∀q',q'≠q->((st.bj q (ai R)).r q').isSome->(st.r q').isSome:=λq' iS hs=>by simpa[St.bj,iS]using hs
 exact{
  me:=λi=>(h.me i).root hq (hn i)
  roots:=λq' R' hq'=>by
   by_cases e:q'=q
   .subst e
    simp[St.bj]at hq';subst hq'
    exact hR
   .have hq2:st.r q'=ai R':=by simpa[St.bj,e]using hq'
    have hro:=h.roots q' R' hq2
    cases hro with
    |empty z h=>exact .empty z (by simp[e,h])
    |sl b o z xs vs hρ hz hh hv hr=>exact .sl b o z xs vs (by simp[e,hρ]) hz hh hv hr
    |box b o z x vs hρ hz dE hl hh hv hr=>
     refine .box b o z x vs (by simp[e,hρ]) hz dE hl (λc v a h1 h2=> ?_) hv hr
     have hy:=hc q' _ hq2 rfl x (aT.2 rfl) a (cq h2)
     cases hh c v a h1 h2 with
     |data _ h ha=>exact .data _ _ h ha
     |any h=>exact .any _ h
     |view off n hc h hv=>exact .view _ _ _ hc (h.root hq hy) hv
  inj:=λq1 q2 b o b' o' a1 a2 a3 a4 a5=>by
   by_cases e1:q1=q
   .have e2:q2≠q:=λe=>a5 (e1.trans e.symm)
    simp[e1]at a3
    simp[e2]at a4
    exactλe=>(hp b o a3).2.1 q2 b' o' (hsm q2 e2 a2) a4 e.symm
   .simp[e1]at a3
    by_cases e2:q2=q
    .simp[e2]at a4
     exact(hp b' o' a4).2.1 q1 b o (hsm q1 e1 a1) a3
    .simp[e2]at a4
     exact h.inj q1 q2 b o b' o' (hsm q1 e1 a1) (hsm q2 e2 a2) a3 a4 a5
  rz:=λq1 b o a1 a3=>by
   by_cases e1:q1=q
   .simp[e1]at a3;exact(hp b o a3).1
   .simp[e1]at a3;exact h.rz q1 b o (hsm q1 e1 a1) a3
  tz:=λi k b a1=>⟨(h.tz i k b a1).1,λq1 b' o a2 a3=>by by_cases e1:q1=q;(·simp[e1]at a3;exactλe=>(hp b' o a3).2.2 i k b a1 e.symm);·simp[e1]at a3;exact(h.tz i k b a1).2 q1 b' o (hsm q1 e1 a2) a3⟩
  td:=h.td,okz:=h.okz,grow:=h.grow,frame:=h.frame,env:=h.env,fr:=h.fr,room:=h.room
  ZO:=λi p' a1 a2=>by
   by_cases e:i=q
   .simp[e];exact Md p' (e▸a1)
   .simp[e];exact h.ZO i p' a1 (hsm i e a2)
  okU:=h.okU,okL:=h.okL}
def gY.aJu{ok:ax->Prop}{v:aL}{x:A}(h:gY φ w ok v x)(q:ax):nM q x=aA:=by cases h<;>rfl
def dC.RQ(h:dC φ w0 L E st ev w){p:ax}{R:eO}(hp:st.r p=ai R)(hb:R.b=aB){x y:A}(hx:x∈R.xs)(hy:y∈x.cells){q:ax}(hr:nM q y=aB): ∃(c:ax),c<1000/\q=sub p c/\x.cells[c]? =ai y:=by cases h.roots p R hp with|empty=>cases hb|sl=>cases hb|box b o z e vs hρ hz dE hl hh hv qP=>rw[aT]at hx;subst hx;obtain⟨c,hc⟩:=fO.1 hy;(have hcv:c<ae vs:=by rw[hl];(rcases bL c (ae x.cells)with h'|h');(·exact h');·simp[bU h']at hc);cases hh c vs[c] y (by simp) hc with|data _ h ha=>rw[h.aJu q]at hr;cases hr|any h=>cases hr|view off n hc' h hv=>exact⟨c,hc',by simp[nM]at hr;exact hr.symm,hc⟩
def UW{p c p' c':ax}(h1:c<1000)(h2:c'<1000)(h:sub p c=sub p' c'):p=p'/\c=c':=by simp only[sub]at h;omega
def nU.sub{L:nU}{q c:ax}:L.pl (Ab.sub q c)=au:=by cases h:L.pl (Ab.sub q c)with|none=>rfl|some p=>have:=L.lt _ _ h;simp only[Ab.sub]at this;omega
def YF(p c:ax):1000<=sub p c:=by simp only[sub];omega
structure Wr(w0:aU)(L:nU)(E:Env)(r r':ax->aq eO)(w w':aU)(b:ax):Prop where
 same:∀b',b'≠b->w'.heap[b']? =w.heap[b']?
 size:w'.heap.size=w.heap.size
 env:w'.os=w.os/\w'.output=w.output
 fr:∀off,w'.frozen? ⟨b,off,au⟩=w.frozen? ⟨b,off,au⟩
 room:∀{z:ax} n,hZ z w b n->hZ z w' b n
 nok:¬E.ok b
 aCp:ac8 w0 L b
 sh:∀q R',r' q=ai R'->∃R,r q=ai R/\R'.b=R.b/\R'.z=R.z/\R'.xs.length=ae R.xs
section
variable {b:ax} (W:Wr w0 L E r r' w w' b)
include W
def Wr.ae0{z:ax}{b' n:ax}(qP:hZ z w b' n):hZ z w' b' n:=by
 by_cases e:b'=b;·subst e;exact W.room n qP
 .exact qP.of_block (W.same b' e)
def Wr.rep{v:aL}{x:A}(h:gY φ w E.ok v x):gY φ w' E.ok v x:=h.mono (λb' hk=>W.same b' λe=>W.nok (e▸hk)) (λ_ h=>h)
def Wr.ahn{v:ah aL}{x:ah A}(h:dp φ w E.ok v x):dp φ w' E.ok v x:=h.mono (λb' hk=>W.same b' λe=>W.nok (e▸hk)) (λ_ h=>h)
def Wr.Hf{q:ax}(hq:(r' q).isSome):(r q).isSome:=by obtain⟨R,hR⟩:=iM.1 hq;obtain⟨R1,h1,_⟩:=W.sh q R hR;rw[h1];rfl
def Wr.am9{q:ax}(hq:r q=au):r' q=au:=by cases e:r' q with|none=>rfl|some R=>have:=W.Hf (q:=q) (by rw[e];rfl);rw[hq]at this;cases this
def lL.write{v:aL}{x:A}(Oq:∀k,¬RJ v x k b)(h:lL φ E r w v x):lL φ E r' w' v x:=by
 have FR:∀q R,r q=ai R->r' q=au\/∃R',r' q=ai R'/\R'.b=R.b/\R'.z=R.z/\R'.xs.length=ae R.xs:=λq R hq=>by cases e:r' q with|none=>exact .inl rfl|some R'=>obtain⟨R1,h1,h2⟩:=W.sh q R' e;rw[hq]at h1;cases h1;exact .inr ⟨R',rfl,h2⟩
 cases h with|any=>exact .any _|undef=>exact .undef|data _ _ h=>exact .data _ _ (W.rep h)|Ls=>exact .Ls _ _ _|tok b' o cap k z xs vs hc h0 hz h hv qP=>have hb:b'≠b:=λe=>Oq k (e▸ .mk ⟨b',o,au⟩ _ _ _ _ _ h0);exact .tok b' o cap k z xs vs hc h0 hz (W.ahn h) (hv.of_block (W.same b' hb)) (W.ae0 qP)|pz _ q off n h=>exact .pz _ _ _ _ (W.am9 h)|pP ad q off R h hb hn=>(rcases FR q R h with h1|⟨R',h1,h2,h3,h4⟩);(·exact .pz _ _ _ _ h1);·exact .pP ad q off R' h1 (h2.trans hb) (h4▸hn)|view b' o cap q off n R h hb hn hc h0 hq qP=>(rcases FR q R h with h1|⟨R',h1,h2,h3,h4⟩);(·exact .pz _ _ _ _ h1);·rw[<-h3]at qP⊢;exact .view b' o cap q off n R' h1 (h2.trans hb) (h4▸hn) hc h0 hq (W.ae0 qP)|Uf _ q i c h=>exact .Uf _ _ _ _ (W.am9 h)|loc b' o q i c R h hq=>(rcases FR q R h with h1|⟨R',h1,h2,h3,h4⟩);(·exact .Uf _ _ _ _ h1);·rw[<-h3];exact .loc b' o q i c R' h1 hq
def RV.write{v:aL}{x:A}(Oq:∀k,¬Tk v x k b)(h:RV φ E r w v x):RV φ E r' w' v x:=by cases h with|one _ _ h=>exact .one _ _ (h.write W λk ht=>Oq k (.one _ _ _ _ ht))|xv vs xs h=>exact .xv vs xs ⟨h.1,λj v x hv hx=>(h.2 j v x hv hx).write W λk ht=>Oq k (.xv vs xs j k b v x hv hx ht)⟩|agg vs xs h=>exact .agg vs xs ⟨h.1,λj v x hv hx=>(h.2 j v x hv hx).write W λk ht=>Oq k (.agg vs xs j k b v x hv hx ht)⟩|fn f vs xs h hn=>refine .fn f vs xs ⟨h.1,λj v x hv hx=>(h.2 j v x hv hx).write W λk ht=> ?_⟩ hn;have:=hn x (cq hx);cases ht;cases this
def fT.write{q c:ax}{v:aL}{x:A}(h:fT φ E r w q c v x):fT φ E r' w' q c v x:=by cases h with|data _ h ha=>exact .data _ _ (W.rep h) ha|any h=>exact .any _ h|view off n hc h hv=>exact .view _ _ _ hc (h.write W λk ht=>by cases ht) hv
end
def dC.write(h:dC φ w0 L E st ev w){b:ax}{r':ax->aq eO}(W:Wr w0 L E st.r r' w w' b)(htk:∀i k,¬Tk (ev i) (st.t i) k b) (hr:∀q R',r' q=ai R'->(st.r q=ai R'/\∀o,E.ρ q≠ai (b,o))\/pS φ E r' w' q R'):dC φ w0 L E {st with r:=r'} ev w':=by
 exact{
  me:=λi=>(h.me i).write W (htk i)
  roots:=λq R' hq=>by
   rcases hr q R' hq with ⟨h1,h5⟩|h5
   .have hbl:∀b' o,E.ρ q=ai (b',o)->b'≠b:=λb' o hρ e=>h5 o (e▸hρ)
    cases h.roots q R' h1 with
    |empty z h=>exact .empty z h
    |sl b' o z xs vs hρ hz hh hv qP=>exact .sl b' o z xs vs hρ hz (W.ahn hh) (hv.of_block (W.same _ (hbl _ _ hρ))) (W.ae0 qP)
    |box b' o z x vs hρ hz dE hl hh hv qP=>exact .box b' o z x vs hρ hz dE hl (λc v a h1 h2=>(hh c v a h1 h2).write W) (hv.of_block (W.same _ (hbl _ _ hρ))) (W.ae0 qP)
   .exact h5
  inj:=λq q' b o b' o' a1 a2 a3 a4=>h.inj q q' b o b' o' (W.Hf a1) (W.Hf a2) a3 a4
  rz:=λq b o a1 a2=>by rw[W.size];exact h.rz q b o (W.Hf a1) a2
  tz:=λi k b a1=>by rw[W.size];exact⟨(h.tz i k b a1).1,λq b' o a2 a3=>(h.tz i k b a1).2 q b' o (W.Hf a2) a3⟩
  td:=h.td
  okz:=λb hk=>by rw[W.size];exact h.okz b hk
  grow:=by rw[W.size];exact h.grow
  frame:=λb' h1 h2=>by
   by_cases e:b'=b
   .subst e
    rcases W.aCp with h3|h3
    .omega
    .exact bG h3 h2
   .exact(W.same b' e).trans (h.frame b' h1 h2)
  env:=⟨W.env.1.trans h.env.1,W.env.2.trans h.env.2⟩
  fr:=λb' off hb'=>by
   by_cases e:b'=b
   .subst e;rw[W.fr];exact h.fr b' off hb'
   .rw[kC (W.same b' e)];exact h.fr b' off hb'
  room:=λb n hr=>W.ae0 (h.room b n hr)
  ZO:=λi p a1 a2=>h.ZO i p a1 (W.Hf a2)
  okU:=h.okU,okL:=h.okL}
end
end Go.Ab
namespace Go.Ab
section
variable {P:bV} {φ:ax->ax} {w0:aU} {L:nU} {E E':Env} {st st':St} {ev ev':ax->aL} {w w':aU} {r r':ax->aq eO}
def Bc(st:St)(q:ax)(R:aq eO):(st.bj q au).bj q R=st.bj q R:=by simp only[St.bj];congr 1;funext i;split<;>rfl
structure jZ(w0:aU)(L:nU)(E:Env)(st:St)(ev:ax->aL)(w:aU)(b:ax):Prop where
 z:¬E.ok b/\ac8 w0 L b/\b<w.heap.size
 r:∀q' b' o',(st.r q').isSome->E.ρ q'=ai (b',o')->b'≠b
 t:∀i k b',Tk (ev i) (st.t i) k b'->b'≠b
structure Step(S:ax->Prop)(E:Env)(st:St)(E':Env)(st':St):Prop where
 ok:∀b,E.ok b->E'.ok b
 ρ:∀p,¬S p->E'.ρ p=E.ρ p
 r:∀p,¬S p->st'.r p=st.r p\/st'.r p=au
 b:∀p R,¬S p->st.r p=ai R->R.b=aB->st'.r p=ai R
 s:∀p R,S p->st'.r p=ai R->R.b=aA\/st.r p=ai R
def Step.refl(S:ax->Prop):Step S E st E st:=⟨λ_ h=>h,λ_ _=>rfl,λ_ _=>.inl rfl,λ_ _ _ h _=>h,λ_ _ _ h=>.inr h⟩
def Step.trans{S:ax->Prop}{E1 E2:Env}{st1 st2:St}(h:Step S E st E1 st1)(h':Step S E1 st1 E2 st2):Step S E st E2 st2 where
 ok:=λb hb=>h'.ok b (h.ok b hb)
 ρ:=λp hp=>(h'.ρ p hp).trans (h.ρ p hp)
 r:=λp hp=>by
  rcases h'.r p hp with h1|h1
  .rw[h1];exact h.r p hp
  .exact .inr h1
 b:=λp R hp hR hb=>h'.b p R hp (h.b p R hp hR hb) hb
 s:=λp R hp hR=>by
  rcases h'.s p R hp hR with h1|h1
  .exact .inl h1
  .exact h.s p R hp h1
def Step.mono{S T:ax->Prop}(h:Step S E st E' st')(hST:∀p,S p->T p)(hr:∀p,T p->¬S p->E'.ρ p=E.ρ p):Step T E st E' st' where
 ok:=h.ok
 ρ:=λp hp=>h.ρ p λhs=>hp (hST p hs)
 r:=λp hp=>h.r p λhs=>hp (hST p hs)
 b:=λp R hp=>h.b p R λhs=>hp (hST p hs)
 s:=λp R hp hR=>by
  by_cases hs:S p;·exact h.s p R hs hR
  ·(rcases h.r p hs with h1|h1);(·exact .inr (h1▸hR));·rw[h1]at hR;cases hR
def Step.box{S:ax->Prop}(h:Step S E st E' st'){p:ax}{R:eO}(hR:st'.r p=ai R)(hb:R.b=aB):st.r p=ai R:=by
 by_cases hs:S p
 .rcases h.s p R hs hR with h1|h1
  .rw[hb]at h1;cases h1
  .exact h1
 .rcases h.r p hs with h1|h1
  .exact h1▸hR
  .rw[h1]at hR;cases hR
def dC.as8(h:dC φ w0 L E st ev w){v:aL}{k z:ax}{xs:ah A}(hv:lL φ E st.r w v (.tok k z xs))(ht:∀b,RJ v (.tok k z xs) k b->∃i,Tk (ev i) (st.t i) k b){q:ax}(Md:L.pl q=au) (hc:∀p' R',st.r p'=ai R'->R'.b=aB->∀x∈R'.xs,∀y∈x.cells,nM q y=aA): ∃E',dC φ w0 L E' (((st.eW k).kill q).bj q (ai ⟨aA,z,xs⟩)) ev w/\Step (· =q) E st E' (((st.eW k).kill q).bj q (ai ⟨aA,z,xs⟩))/\ lL φ E' (((st.eW k).kill q).bj q (ai ⟨aA,z,xs⟩)).r w v (.view q 0 (ae xs)):=by
 have h1:=(((h.eW k).kill q).YM q);rw[<-Bc];have hn:∀i,refs q ((((st.eW k).kill q).bj q au).t i)=aA:=λi=>LH q _;have hq0:((((st.eW k).kill q).bj q au).r q)=au:=by simp[St.bj]
 have hc':∀p' R',(((st.eW k).kill q).bj q au).r p'=ai R'->R'.b=aB->∀x∈R'.xs,∀y∈x.cells,nM q y=aA:=λp' R' hp hb=>by simp only[St.bj]at hp;split at hp;(·cases hp);·exact hc p' R' hp hb
 have step:∀p,Step (· =q) E st ⟨E.ok,λi=>if i=q then p else E.ρ i⟩ ((((st.eW k).kill q).bj q au).bj q (ai ⟨aA,z,xs⟩)):=λp=>by refine⟨λ_ h=>h,λp' hp=>aP hp,λp' hp=>.inl ?_,λp' R hp hR _=> ?_,λp' R hp hR=>.inl ?_⟩;(·simp[St.bj,St.kill,St.eW,St.map,hp]);(·simpa[St.bj,St.kill,St.eW,St.map,hp]using hR);·simp[St.bj,hp]at hR;rw[<-hR]
 cases hv with|data _ _ hh=>cases hh|Ls ad=>refine⟨_,h1.root (p:=au) (R:=⟨aA,z,[]⟩) hq0 hn hc' (λb o e=>by cases e) (λp' e=>by rw[Md]at e;cases e) (.empty z (by simp)),step au,?_⟩;exact .pP ad q 0 ⟨aA,z,[]⟩ (by simp[St.bj]) rfl (jJ _)|tok b o cap k z xs vs LC h0 hz hh rW qP=>obtain⟨i,hi⟩:=ht b (.mk ⟨b,o,au⟩ _ _ _ _ _ h0);have hf:=h.tz i k b hi;refine⟨_,h1.root (p:=ai (b,o)) (R:=⟨aA,z,xs⟩) hq0 hn hc' (λb' o' e=> ?_) (λp' e=>by rw[Md]at e;cases e) (.sl b o z xs vs (by simp) hz hh rW (qP.le ?_)),step _,?_⟩;(·cases e;refine⟨hf.1,λq' b' o' a1 a2=>hf.2 q' b' o' ?_ a2,λi' k' b' a1=> ?_⟩;(·simp only[St.bj]at a1;split at a1;(·cases a1);·exact a1);·have h2:=(Tk.gn (OT q) a1).1;have h3:=Tk.gn (Ma k) h2;exact(h.td i' i k' k b' b h3.1 hi h3.2));(·have:=dh z LC;omega);·have:=lL.view (φ:=φ) (E:=⟨E.ok,λi=>if i=q then ai (b,o)else E.ρ i⟩) (r:=((((st.eW k).kill q).bj q au).bj q (ai ⟨aA,z,xs⟩)).r) (w:=w) b o cap q 0 (ae xs) ⟨aA,z,xs⟩ (by simp[St.bj]) rfl (by simp) LC h0 (by simp) (by simpa using qP);simpa using this
def aFW{q off n:ax}{R:eO}{K:ax->Prop}(hro:pS φ E r w q R)(hR:r q=ai R){v:aL}(hv:lL φ E r w v (.view q off n))(Ap:∀b,E.ok b->K b)(hK:∀b o,E.ρ q=ai (b,o)->K b): gY φ w K v (.sl R.z ((R.xs.drop off).take n)):=by cases hv with|data _ _ h=>cases h|pz _ _ _ _ h1=>rw[h1]at hR;cases hR|pP ad q off R' h1 hb hn=>rw[LS];exact .Rx _ _ _|view b o cap q off n R' h1 hb hn LC h0 hρ hm'=>rw[h1]at hR;cases hR;(have eJ:ae ((R.xs.drop off).take n)=n:=by simp;omega);cases hro with|empty z h=>simp at hn;obtain⟨rfl,rfl⟩:=hn;exact .Rx _ _ _|sl b' o' z xs vs iA hz hh rW hr'=>rw[hρ]at iA;cases iA;have:=gY.sl (φ:=φ) (w:=w) (ok:=K) b (o+off*z) cap z ((xs.drop off).take n) ((vs.drop (off*z)).take (n*z)) (hK b o hρ) (λy hy=>hz y (dk (jO hy))) (by rw[eJ];omega) (by rw[Dc (λx hx=>hz x (dk hx)),su hz];exact((hh.mono (λ_ _=>rfl) Ap).drop _).take _) ((rW.drop _).take _);rw[eJ]at this;exact this|box=>cases hb
def dC.KY(h:dC φ w0 L E st ev w){i j:ax}{st1:St}(hp:st.KY i j=ai st1):∃E',dC φ w0 L E' st1 ev w/\E'.ρ=E.ρ/\Step (λ_=>JW) E st E' st1:=by
 unfold St.KY at hp;split at hp
 .rename_i k z xs hcm;simp only[aC]at hp;subst hp;refine⟨_,h.giveUp (N:=λ_=>JW) (T:=(· =k)) (ok':=λb=>E.ok b\/∃i,Tk (ev i) (st.t i) k b) (ev':=ev) (st':=st.map (arz k)) (λb hb=>.inl hb) (λb hb=> ?_) (λq R hq=>⟨hq,id⟩) (λi=>(h.me i).al4 (auG k).nt λu y hty hy=> ?_) (λi k' b ht=> ?_),rfl,⟨λb hb=>.inl hb,λ_ _=>rfl,λ_ _=>.inl rfl,λ_ _ _ h _=>h,λ_ _ h=>h.elim⟩⟩;·(rcases hb with h1|⟨i,h1⟩);(·exact .inl h1);·exact .inr (.inr ⟨i,k,rfl,h1⟩)
  .have hw:∀{x},lL φ E st.r w u x->lL φ ⟨λb=>E.ok b\/∃i,Tk (ev i) (st.t i) k b,E.ρ⟩ st.r w u x:=λhx=>lL.od (E':=⟨λb=>E.ok b\/∃i,Tk (ev i) (st.t i) k b,E.ρ⟩) (λb hb=>Or.inl hb) (λq R hq=>⟨hq,rfl⟩) hx;unfold UZ;split;(·rename_i j z xs;split;(·rename_i hjk;subst hjk;cases hy with|data _ _ hh=>cases hh|Ls=>exact .data _ _ (.Rx _ _ _)|tok b o cap j z xs vs LC h0 hz hh rW qP=>exact .data _ _ (.sl b o cap z xs vs (.inr ⟨i,hty _ _ (.mk ⟨b,o,au⟩ _ _ _ _ _ h0)⟩) hz LC (hh.mono (λ_ _=>rfl) (λb hb=>.inl hb)) rW));·exact hw hy);·exact hw hy
  .have:=Tk.gn (auG k) ht;exact⟨this.2,i,this.1⟩
 .rename_i q off n hcm;obtain⟨R,hR,hp⟩:=aI.1 hp;split at hp;·cases hp
  .rename_i hb;simp only[aC]at hp;subst hp;(have hr:∀p R',((st.map (YK q R)).bj q au).r p=ai R'->st.r p=ai R'/\¬p=q:=λp R' hp=>by simp only[St.bj]at hp;split at hp;(·cases hp);·exact⟨hp,by assumption⟩);refine⟨_,h.giveUp (N:=(· =q)) (T:=λ_=>JW) (ok':=λb=>E.ok b\/∃o,E.ρ q=ai (b,o)) (ev':=ev) (st':=(st.map (YK q R)).bj q au) (λb hb=>.inl hb) (λb hb=> ?_) hr (λi=>(h.me i).al4 (aqA q R).nt λu y hty hy=> ?_) (λi k' b ht=>⟨id,i,(Tk.gn (aqA q R) ht).1⟩),rfl,⟨λb hb=>.inl hb,λ_ _=>rfl,λp _=> ?_,λp R' _ Oo hb'=> ?_,λ_ _ h=>h.elim⟩⟩;(·(rcases hb with h1|⟨o,h1⟩);(·exact .inl h1);·exact .inr (.inl ⟨q,o,rfl,by rw[hR];rfl,h1⟩));(·have hw:∀{x},lL φ E st.r w u x->lL φ ⟨λb=>E.ok b\/∃o,E.ρ q=ai (b,o),E.ρ⟩ ((st.map (YK q R)).bj q au).r w u x:=λhx=>lL.od (E':=⟨λb=>E.ok b\/∃o,E.ρ q=ai (b,o),E.ρ⟩) (λb hb=>Or.inl hb) (λp R' hp=>⟨(hr p R' hp).1,rfl⟩) hx;unfold Ii;split;(·rename_i q' aY0 n';split;(·rename_i hqq;subst hqq;exact .data _ _ (aFW (h.roots q' R hR) hR hy (λb hb=>.inl hb) (λb o hρ=>.inr ⟨o,hρ⟩)));·exact hw hy);(·split;(·exact .any _);·exact hw hy);·exact hw hy);(·simp only[St.bj,St.map];split;(·exact .inr rfl);·exact .inl rfl);·simp only[St.bj,St.map];rw[aP];(·exact Oo);·intro e;subst e;rw[hR]at Oo;cases Oo;exact hb hb'
 .simp only[aC]at hp;subst hp;exact⟨E,h,rfl,.refl _⟩
def dC.IS(h:dC φ w0 L E st ev w){i:ax}:∀{n:ax} {st1:St},st.IS i n=ai st1->∃E',dC φ w0 L E' st1 ev w/\E'.ρ=E.ρ/\Step (λ_=>JW) E st E' st1
 |0,st1,hp=>by simp[St.IS]at hp;subst hp;exact⟨E,h,rfl,.refl _⟩
 |n+1,st1,hp=>by simp only[St.IS]at hp;obtain⟨s,hs,hp⟩:=aI.1 hp;obtain⟨E1,h1,yY,hs1⟩:=h.IS hs;obtain⟨E2,h2,Me,hs2⟩:=h1.KY hp;exact⟨E2,h2,Me.trans yY,hs1.trans hs2⟩
def evG(ev:ax->aL)(i:ax)(v:aL):ax->aL:=λj=>if j=i then v else ev j
def dC.aLp(h:dC φ w0 L E st ev w){v:aL}{x:A}(hv:RV φ E st.r w v x)(hc:∀k b,Tk v x k b->∃i,Tk (ev i) (st.t i) k b)(i:ax):dC φ w0 L E (st.iW i x) (evG ev i v) w:=
 h.od (λ_ _ h=>h) (λj=>by simp only[St.iW,evG];split;(·exact hv);·exact h.me j) (λj k b ht=>by simp only[St.iW,evG]at ht;split at ht;(·exact hc k b ht);·exact⟨j,ht⟩)
def Et{v:aL}(k b:ax):¬Tk v .any k b:=by intro h;cases h with|one _ _ _ _ h=>cases h
def dC.azk{v:aL}{i:ax}(h:dC φ w0 L E st (evG ev i v) w):dC φ w0 L E (st.iW i .any) ev w:=
 h.od (λ_ _ h=>h) (λj=>by simp only[St.iW];split;(·exact .one _ _ (.any _));·rename_i hj;have:=h.me j;simpa[evG,hj]using this) (λj k b ht=>by simp only[St.iW]at ht;split at ht;(·exact(Et _ _ ht).elim);·rename_i hj;exact⟨j,by simpa[evG,hj]using ht⟩)
def Step.aTr{S:ax->Prop}{st1:St}(h:Step S E st E' st')(h1:st1.r=st.r){st2:St}(h2:st2.r=st'.r):Step S E st1 E' st2 where
 ok:=h.ok
 ρ:=h.ρ
 r:=by rw[h1,h2];exact h.r
 b:=by rw[h1,h2];exact h.b
 s:=by rw[h1,h2];exact h.s
def ab1{x:A}(h:Ab.ek x=aB):Ab.ek (vM x)=aB:=by cases x<;>first|exact h|rfl
def aAQ{x y:A}(h:dat x=ai y):y.cells.all Ab.ek=aB:=by
 unfold dat at h;split at h;·rename_i hp;simp only[aC]at h;subst h;cases x with|agg cs=>simp only[Ab.pure]at hp;simp only[aq1,A.cells,JX];rw[bz]at hp⊢;intro y hy;exact ab1 (hp y hy)|_=>simp only[Ab.pure]at hp;simp only[aq1];rw[A.Ly (λl e=>by have:=ab1 hp;rw[e]at this;simp[Ab.ek]at this)];simpa using ab1 hp
 .cases h
def dC.pin(h:dC φ w0 L E st ev w){v:aL}{x y:A}(hv:RV φ E st.r w v x)(hc:∀k b,Tk v x k b->∃i,Tk (ev i) (st.t i) k b){st1:St}(hp:st.pin x=ai (y,st1)): ∃E',dC φ w0 L E' st1 ev w/\E'.ρ=E.ρ/\Step (λ_=>JW) E st E' st1/\gY φ w E'.ok v y/\y.cells.all Ab.ek=aB:=by unfold St.pin at hp;obtain⟨s,hs,hp⟩:=aI.1 hp;obtain⟨y',hy,hp⟩:=aM.1 hp;cases hp;obtain⟨E1,h1,yY,hs1⟩:=(h.aLp hv hc gs).IS hs;have h2:=h1.me gs;simp only[evG,aK]at h2;exact⟨E1,h1.azk,yY,Step.aTr (st1:=st) (st2:=s.iW gs .any) hs1 rfl rfl,azi h2 hy,aAQ hy⟩
def lL.aOB{v:aL}{x:A}(h:lL φ E r w v x)(hs:nS r x=aB)(hx:∀cs,x≠ .agg cs):(∀cs,v≠ .agg cs)/\(∀vs,v≠ .tuple vs):=by cases h with|any=>simp[Ab.nS,Ab.ek]at hs|undef=>simp[Ab.nS,Ab.ek]at hs|data _ _ h=>exact h.Ul hx|pz _ _ _ _ h1=>simp[nS,h1]at hs|Uf _ _ _ _ h1=>simp[nS,h1]at hs|_=>exact⟨(λ_ h=>by cases h),(λ_ h=>by cases h)⟩
def asb{v:aL}{x a:A}{j:ax}(h:RV φ E r w v x)(ha:comp x j=a)(hs:nS r a=aB): ∃u,v.cells[j]? =ai u/\lL φ E r w u a/\((∀cs,u≠ .agg cs)/\(∀vs,u≠ .tuple vs))/\∀k b,RJ u a k b->Tk v x k b:=by
 have hna:∀cs,a≠ .agg cs:=λcs e=>by subst e;simp[nS,ek]at hs
 have hj:x.cells[j]? =ai a:=by unfold comp at ha;cases hj:x.cells[j]? with|none=>rw[hj]at ha;simp at ha;subst ha;simp[nS,ek]at hs|some y=>rw[hj]at ha;simp at ha;rw[ha]
 by_cases hx:∃cs,x=.agg cs;·obtain⟨cs,rfl⟩:=hx;obtain⟨vs,rfl,h1⟩:=h.OQ;simp only[A.cells]at hj;obtain⟨u,hu,h2⟩:=h1.get hj;exact⟨u,by simpa[aoZ]using hu,h2,h2.aOB hs hna,λk b ht=>.agg vs cs j k b u a hu hj ht⟩
 .have TL:∀cs,x≠ .agg cs:=λcs e=>hx ⟨cs,e⟩;rw[A.Ly TL]at hj;cases j with|succ j=>simp at hj|zero=>simp at hj;subst hj;have h1:lL φ E r w v x/\v.cells= #[v]:=ahr (st:=⟨λ_=>.any,r⟩) h hs TL;exact⟨v,by rw[h1.2];rfl,h1.1,h1.1.aOB hs TL,λk b ht=>.one _ _ _ _ ht⟩
def avK{x:A}(h:Ab.ek x=aB):nS r x=aB:=by cases x<;>first|exact h|(simp[Ab.ek]at h;done)|simp[nS,h]
def M8{x:A}(h:Ab.ek x=aB)(cs:ah A):x≠ .agg cs:=by rintro rfl;simp[Ab.ek]at h
def ax0{x:A}(h:∀cs,x≠ .agg cs)(cs:ah A):vM x≠ .agg cs:=by cases x<;>simp only[vM]<;>first|exact h _|(intro e;cases e)
def dC.ur(h:dC φ w0 L E st ev w){q c j:ax}{y:A}{st1:St}(ha:st.ur q c j=ai (y,st1)) (hc:∀p' R',st.r p'=ai R'->R'.b=aB->∀x∈R'.xs,∀y∈x.cells,nM (sub q (c+j)) y=aA): ∃E' u,dC φ w0 L E' st1 ev w/\Step (· =sub q (c+j)) E st E' st1/\(ev gs).cells[j]? =ai u/\fT φ E' st1.r w q (c+j) u y:=by
 have aJo:=h.me gs;have pure:∀{E1:Env} {s1:St} {x:A},dC φ w0 L E1 s1 ev w->comp (s1.t gs) j=x->Ab.ek x=aB->∃u,(ev gs).cells[j]? =ai u/\fT φ E1 s1.r w q (c+j) u (vM x)/\fT φ E1 s1.r w q (c+j) u x:=by intro E1 s1 x h1 hcm hp;obtain⟨u,hu,h2,h3,_⟩:=asb (h1.me gs) hcm (avK hp);exact⟨u,hu,.data _ _ (h2.ek hp).norm (ax0 (M8 hp)),.data _ _ (h2.ek hp) (M8 hp)⟩
 unfold St.ur at ha;split at ha
 .rename_i k z xs hcm;split at ha;·rename_i dE;simp only[aC,bS]at ha;obtain⟨rfl,rfl⟩:=ha;obtain⟨u,hu,h2,h3,h4⟩:=asb aJo hcm (by rfl);obtain⟨E1,h5,h6,h7⟩:=h.as8 h2 (λb ht=>⟨gs,h4 k b ht⟩) nU.sub hc;exact⟨E1,u,h5,h6,hu,.view _ _ _ dE h7 h3⟩
  .cases ha
 .rename_i s off n hcm;split at ha;·rename_i gF;obtain⟨rfl,dE,hsm⟩:=gF;simp only[aC,bS]at ha;obtain⟨rfl,rfl⟩:=ha;obtain⟨u,hu,h2,h3,h4⟩:=asb aJo hcm hsm;exact⟨E,u,h,.refl _,hu,.view _ _ _ dE h2 h3⟩
  .obtain⟨s1,hs1,ha⟩:=aI.1 ha;split at ha;(·rename_i hp;simp only[aC,bS]at ha;obtain⟨rfl,rfl⟩:=ha;obtain⟨E1,h1,hρ,hst⟩:=h.KY hs1;obtain⟨u,hu,h2,_⟩:=pure h1 rfl hp;exact⟨E1,u,h1,hst.mono (λ_ h=>h.elim) (λp _ _=>by rw[hρ]),hu,h2⟩);·cases ha
 .rename_i z hcm;simp only[aC,bS]at ha;obtain⟨rfl,rfl⟩:=ha;obtain⟨u,hu,_,h2⟩:=pure h hcm rfl;exact⟨E,u,h,.refl _,hu,h2⟩
 .split at ha;·rename_i hp;simp only[aC,bS]at ha;obtain⟨rfl,rfl⟩:=ha;obtain⟨u,hu,h2,_⟩:=pure h rfl hp;exact⟨E,u,h,.refl _,hu,h2⟩
  .cases ha
def lL.afL{q off n:ax}(hr:∀R,r' q=ai R->r q=ai R/\E'.ρ q=E.ρ q){v:aL}(h:lL φ E r w v (.view q off n)):lL φ E' r' w v (.view q off n):=by
 have RZ:r q=au->r' q=au:=λhq=>by cases e:r' q with|none=>rfl|some R=>have:=(hr R e).1;rw[hq]at this;cases this
 have FR:∀R,r q=ai R->r' q=au\/(r' q=ai R/\E'.ρ q=E.ρ q):=λR hq=>by cases e:r' q with|none=>exact .inl rfl|some R'=>have:=hr R' e;rw[hq]at this;obtain⟨h1,h2⟩:=this;cases h1;exact .inr ⟨rfl,h2⟩
 cases h with|data _ _ h=>cases h|pz _ q off n h=>exact .pz _ _ _ _ (RZ h)|pP ad q off R h hb hn=>(rcases FR R h with h1|⟨h1,h2⟩);(·exact .pz _ _ _ _ h1);·exact .pP ad q off R h1 hb hn|view b o cap q off n R h hb hn hc h0 hq hr=>(rcases FR R h with h1|⟨h1,h2⟩);(·exact .pz _ _ _ _ h1);·exact .view b o cap q off n R h1 hb hn hc h0 (h2.trans hq) hr
def fT.step{S:ax->Prop}(hs:Step S E st E' st'){q c:ax}(hn:¬S (sub q c)){v:aL}{x:A}(h:fT φ E st.r w q c v x):fT φ E' st'.r w q c v x:=by cases h with|data _ h ha=>exact .data _ _ (h.mono (λ_ _=>rfl) hs.ok) ha|any h=>exact .any _ h|view off n hc h hv=>refine .view _ _ _ hc (h.afL λR hR=> ?_) hv;(rcases hs.r _ hn with h1|h1);(·exact⟨h1▸hR,hs.ρ _ hn⟩);·rw[h1]at hR;cases hR
def dC.jU{q c:ax}:∀{n j:ax} {E:Env} {st:St} {ys:ah A} {st1:St},dC φ w0 L E st ev w->st.jU q c j n=ai (ys,st1)->c+j+n<=1000->
 (∀c',c+j<=c'->c'<c+j+n->∀p' R',st.r p'=ai R'->R'.b=aB->∀x∈R'.xs,∀y∈x.cells,nM (sub q c') y=aA)->
 ∃E',dC φ w0 L E' st1 ev w/\Step (λp=>∃c',c+j<=c'/\c'<c+j+n/\p=sub q c') E st E' st1/\ae ys=n/\
  ∀i y,ys[i]? =ai y->∃u,(ev gs).cells[j+i]? =ai u/\fT φ E' st1.r w q (c+j+i) u y
 |0,j,E,st,ys,st1,h,ha,_,_=>by simp[St.jU]at ha;obtain⟨rfl,rfl⟩:=ha;exact⟨E,h,.refl _,rfl,λi y hy=>by simp at hy⟩
 |n+1,j,E,st,ys,st1,h,ha,dE,hc=>by
  simp only[St.jU]at ha
  obtain⟨⟨x,s⟩,hs,ha⟩:=aI.1 ha
  obtain⟨⟨xs,s2⟩,LD,ha⟩:=aM.1 ha
  simp only[bS]at ha
  obtain⟨rfl,rfl⟩:=ha
  obtain⟨E1,u,h1,hst,hu,jy⟩:=h.ur hs (hc (c+j) (bx _) (by omega))
  obtain⟨E2,h2,abl,hl,lO⟩:=h1.jU LD (by omega) (λc' a1 a2 p' R' hp hb=>hc c' (by omega) (by omega) p' R' (hst.box hp hb) hb)
  have aKM:∀c',c+(j+1)<=c'->c'<c+(j+1)+n->sub q (c+j)≠sub q c':=λc' a1 a2 e=>by simp only[sub]at e;omega
  have m1:Step (λp=>∃c',c+j<=c'/\c'<c+j+(n+1)/\p=sub q c') E st E1 s:=by
   refine⟨hst.ok,λp hp=>hst.ρ p λe=>hp ⟨c+j,by omega,by omega,e⟩,λp hp=>hst.r p λe=>hp ⟨c+j,by omega,by omega,e⟩,λp R hp=>hst.b p R λe=>hp ⟨c+j,by omega,by omega,e⟩,λp R _ hR=> ?_⟩
   by_cases e:p=sub q (c+j)
   .exact hst.s p R e hR
   .rcases hst.r p e with h3|h3
    .exact .inr (h3▸hR)
    .rw[h3]at hR;cases hR
  have m2:Step (λp=>∃c',c+j<=c'/\c'<c+j+(n+1)/\p=sub q c') E1 s E2 s2:=by
   refine⟨abl.ok,λp hp=>abl.ρ p ?_,λp hp=>abl.r p ?_,λp R hp=>abl.b p R ?_,λp R _ hR=> ?_⟩
   .rintro⟨c',a1,a2,e⟩;exact hp ⟨c',by omega,by omega,e⟩
   .rintro⟨c',a1,a2,e⟩;exact hp ⟨c',by omega,by omega,e⟩
   .rintro⟨c',a1,a2,e⟩;exact hp ⟨c',by omega,by omega,e⟩
   .by_cases e:∃c',c+(j+1)<=c'/\c'<c+(j+1)+n/\p=sub q c'
    .exact abl.s p R e hR
    .rcases abl.r p e with h3|h3
     .exact .inr (h3▸hR)
     .rw[h3]at hR;cases hR
  refine⟨E2,h2,m1.trans m2,by simp[hl],λi y hy=> ?_⟩
  cases i with
  |zero=>
   simp at hy;subst hy
   exact⟨u,hu,jy.step abl (λ⟨c',a1,a2,e⟩=>aKM c' a1 a2 e)⟩
  |succ i=>
   obtain⟨u',hu',aKz⟩:=lO i y (by simpa using hy)
   exact⟨u',by rw[show j+(i+1)=j+1+i from by omega];exact hu',by rw[show c+j+(i+1)=c+(j+1)+i from by omega];exact aKz⟩
end
end Go.Ab

