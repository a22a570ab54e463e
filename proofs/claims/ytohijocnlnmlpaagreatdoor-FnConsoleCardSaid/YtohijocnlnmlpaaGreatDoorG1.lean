/- The abstract interpreter and its soundness, first part. Conditions: none. -/
import Derived.Calls
import Derived.WalkKit
import Derived.Lib.ConvBytes
import Derived.Lib.LaidTab
import Derived.Lib.ItoaNum
set_option linter.unusedVariables false
set_option linter.unusedSimpArgs false
set_option linter.defProp false
def ax:= @decide_eq_true_eq
def aB:= @decide_true
def aC:= @if_true
def aH:= @if_false
def aJ:= @if_pos
def aO:= @if_neg
def aW:= @decide_false
def bL:= @decide_eq_true
def b9:= @beq_iff_eq
def cd:= @of_decide_eq_true
def cG:= @decide_eq_false_iff_not
def fj:= @beq_eq_false_iff_ne
def ja:= @bne_iff_ne
def lU:= @beq_self_eq_true
def mV:= @and_self
def pe:= @and_true
def Cm:= @or_false
def CJ:= @decide_eq_false
def Ly:= @ne_eq
def Mh:= @true_and
def anP:= @decide_eq_decide
def axc:= @dif_pos
open Array renaming ext'->Ri,getElem?_eq_none->nu,getElem?_push_size->xy,length_toList->Ys,range->ani,size_append->Mo
open BitVec renaming ofInt->eo
open Bool renaming and_eq_true->aj,and_true->aeG,false->aw,false_eq_true->ao,not_eq_true'->cn,not_true->aY,or_eq_false_iff->oA,or_eq_true->cj,true->ar,true_and->jD
open ByteArray renaming ext->Ps,mk->mY,size->Yt
open Decidable renaming decide->ah
open Go renaming undef->awV
open Go.Act renaming eval->Rk,put->ao4
open Go.Addr renaming add_lit->FZ
open Go.Array renaming range_zero'->Yu
open Go.Builtin renaming len_->xz,max2->asn,min2->aso
open Go.Instr renaming build->awg,buildSlice->vH,extract->aua,field->awh,fieldAt->afY,fill->VF,index->Z5,indexAt->BQ,loadAt->akh,slice->awi,sliceAt->rD,sliceBound->apn,sliceBounds->ao5,sureAddr->Ta
open Go.IntKind renaming i64->ag
open Go.Lib renaming bytesCells->anm,bytesWorld->VB,bytesWorld_at_new->aeI,bytesWorld_size->ahF,pow10Tab->apo
open Go.Op renaming bytesLess->cN,eqFields->adB
open Go.Oper renaming upon_value->oi,wp->zq
open Go.Program renaming cellsOf->ao6
open Go.Result renaming andThen_ok->bP
open Go.Sem renaming run_bind->dp,run_ite->asq,run_pure->jb
open Go.Value renaming agg->qj,cells->adw,int->jC
open Go.World renaming cell? ->df,frozen? ->xF
open Int renaming mul_le_mul_of_nonneg_right->kT
open List renaming all_cons->de,all_eq_true->aG,all_map->uW,all_nil->fK,any_cons->zy,any_eq_false->CI,append_nil->bS,cons_append->sn,drop_append->F9,drop_drop->al9,drop_eq_getElem_cons->bf,drop_eq_nil_of_le->bb,drop_zero->dV,eq_nil_of_length_eq_zero->gy,eq_of_mem_replicate->MV,flatMap_cons->cg,flatten_append->anp,flatten_cons->Mt,foldl_cons->asw,getElem?_append_left->eA,getElem?_append_right->dC,getElem?_cons_zero->bg,getElem?_eq_none->bB,getElem?_eq_some_iff->iL,getElem?_map->bX,getElem?_take->oB,isEmpty_iff->qk,length_append->aQ,length_cons->bh,length_map->aT,length_take->cQ,map->iN,map_append->eu,map_cons->aP,map_map->uX,mem_append_left->bW,mem_append_right->aS,mem_cons_of_mem->aL,mem_cons_self->di,mem_iff_getElem? ->ff,mem_map->dK,mem_of_getElem? ->bw,mem_of_mem_drop->cA,mem_of_mem_take->fo,mem_or_eq_of_mem_set->anq,mem_singleton->aX,nil_append->dU,nodup_append->cZ,nodup_nil->iy,range->dL,replicate->aZ,size_toArray->Nu,take_append->asc,take_length->aA,take_of_length_le->dO,take_succ_eq_append_getElem->aaw,take_zero->xf
open Nat renaming add_assoc->gS,add_mul->Ga,add_zero->anr,le_refl->bm,le_trans->dZ,lt_of_lt_of_le->bU,lt_or_ge->bH,min_eq_left->S6,mul_le_mul_right->cu,sub_self->ahT,succ_mul->dW,zero_add->c8,zero_le->iW
open Ne renaming symm->tN
open Option renaming bind_eq_some_iff->ak,bind_some->af,isSome_iff_exists->dq,map_eq_some_iff->au,map_some->az,none->ai,some->ae
open Option.some renaming injEq->aq
open Prod.mk renaming injEq->be
open Pure renaming pure->I4
open UInt8 renaming ofNat->oD
namespace Go.Ab
inductive A where
 |any
 |undef
 |bool (b:Bool)
 |int (k:IntKind) (n:Int)
 |str (s:List UInt8)
 |agg (cs:List A)
 |sl (z:Nat) (xs:List A)
 |jo (z:Nat)
 |Yw (v:Value)
 |tok (k z:Nat) (xs:List A)
 |view (r off len:Nat)
 |loc (r i c:Nat)
 |ptr (cs:List A) (c:Nat)
 |fn (f:Nat) (caps:List A)
 |sf (xs:List A)
 |own (z:Nat) (xs:List A)
 |iB (z:Nat) (xs:List A)
 |lB (z:Nat) (xs:List A)
 deriving Inhabited
def A.cells:A->List A
 |.agg cs=>cs
 |a=>[a]
mutual
def A.plain:A->Bool
 |.bool _|.int _ _|.str _=>ar
 |.agg cs=>A.tp cs
 |_=>aw
def A.tp:List A->Bool
 | []=>ar
 |a::r=>a.plain&&A.tp r
end
structure dF where
 b:Bool
 z:Nat
 xs:List A
 deriving Inhabited
structure St where
 t:Nat->A
 r:Nat->Option dF
def tab(l:List (Nat×A))(i:Nat):A:=(l.lookup i).getD .any
def aeg(l:List (Nat×dF))(i:Nat):Option dF:=l.lookup i
inductive bZ where
 |t (i:Nat)
 |c (a:A)
 deriving Inhabited
inductive Conv where
 |int (k:IntKind)
 |same
 |Jk
 |Kp (z:Nat)
 deriving Inhabited
inductive Kd where
 |b|i|s
 deriving Inhabited
inductive O where
 |mv (x:bZ)
 |asg (x:bZ)
 |pick (c a b:bZ)
 |alloc (z:Nat) (zero:A)
 |box (z:Nat) (x:bZ)
 |build (zero:List A) (parts:List (Nat×Nat×bZ))
 |VL (z:Nat) (zero:A) (n:Nat) (parts:List (Nat×bZ))
 |ld (n:Option Nat) (a:bZ)
 |rq (n:Nat) (a v:bZ)
 |Oz (x:bZ)
 |bin (op:BinOp) (x y:bZ)
 |eqs (neq:Bool) (ks:List Kd) (x y:bZ)
 |eqb (neq:Bool) (x y:bZ)
 |un (op:UnOp) (x:bZ)
 |conv (k:Conv) (x:bZ)
 |fa (off:Nat) (x:bZ)
 |fld (off:Nat) (n:Option Nat) (x:bZ)
 |ia (z:Nat) (x i:bZ)
 |iaa (len z:Nat) (x i:bZ)
 |ix (x i:bZ)
 |ixa (len z:Nat) (n:Option Nat) (x i:bZ)
 |slc (z:Nat) (x:bZ) (lo hi:Option bZ)
 |als (x:bZ) (lo hi:Option bZ)
 |len (x:bZ)
 |lens (x:bZ)
 |app (z bytes:Nat) (s x:bZ)
 |max (xs:List bZ)
 |min (xs:List bZ)
 |mks (z bytes:Nat) (zero:A) (l c:bZ)
 |mkf (f:Nat) (caps:List bZ)
 |call (f:bZ) (args:List bZ)
 |ext (x:bZ) (i:Nat)
 deriving Inhabited
structure Op where
 d:Option Nat
 w:Bool
 o:O
 g:Option (Nat×Bool)
 pq:Bool
 av:List Nat
 deriving Inhabited
inductive C where
 |skip
 |reg (draw:Bool) (ops:List Op) (fk keepR:List Nat)
 |seq (a b:C)
 |cond (c:bZ) (a b:C)
 |block (id:Nat) (b:C)
 |loop (b:C)
 |exit (id:Nat)
 |ret
 |norm (fk keepR:List Nat) (b:C)
 |opn (n:Nat) (b:C)
 |stop
 deriving Inhabited
inductive Rs where
 |t (i:Nat)
 |cell (i:Nat) (n:Option Nat)
 deriving Inhabited
structure Fn where
 np:Nat
 io:List Bool
 res:List Rs
 own:List Bool
 body:C
 gone:List Nat:=[]
 deriving Inhabited
def bZ.v(st:St):bZ->A
 |.t i=>st.t i
 |.c a=>a
def St.put(st:St)(d:Option Nat)(v:A):St:=
 match d with
 |some d=>{st with t:=λi=>if i=d then v else st.t i}
 |none=>st
def iY(r:Nat):A->Bool
 |.view q _ _|.loc q _ _=>q==r
 |_=>aw
def refs(r:Nat):A->Bool
 |.fn _ caps=>caps.any (iY r)
 |.sf xs=>xs.any (iY r)
 |.agg xs=>xs.any (iY r)
 |a=>iY r a
def abu(k:Nat):A->Bool
 |.tok j _ _=>j==k
 |_=>aw
def St.map(f:A->A)(st:St):St:={st with t:=λi=>f (st.t i)}
def cJ(f:A->A):A->A
 |.sf xs=>.sf (xs.map f)
 |.agg xs=>.agg (xs.map f)
 |.fn g xs=>.fn g (xs.map f)
 |a=>f a
def ju(r:Nat)(a:A):A:=if iY r a then .any else a
def iS(k:Nat)(a:A):A:=if abu k a then .any else a
def St.kill(st:St)(r:Nat):St:=st.map (cJ (ju r))
def St.cX(st:St)(k:Nat):St:=st.map (cJ (iS k))
def St.aD(st:St)(r:Nat)(R:Option dF):St:={st with r:=λi=>if i=r then R else st.r i}
def aqN:Value->Bool
 |.pointer ai|.map ai|.nilFunc|.nilIface|.slice ai 0 0=>ar
 |_=>aw
def cr:A->Bool
 |.bool _|.int .. |.str _|.sl .. |.jo _|.ptr .. =>ar
 |.Yw v=>aqN v
 |.fn _ caps=>caps.isEmpty
 |_=>aw
def pure:A->Bool
 |.agg cs=>cs.all cr
 |a=>cr a
def qz:A->A
 |.jo z=>.sl z []
 |a=>a
def afl:A->A
 |.agg cs=>.agg (cs.map qz)
 |a=>qz a
def dat(a:A):Option A:=if pure a then ae (afl a)else ai
def rF(r:Nat->Option dF):A->Option A
 |.view q off n=>(r q).map λR=>.sl R.z ((R.xs.drop off).take n)
 |.tok _ z xs=>ae (.sl z xs)
 |a=>if cr a then ae (qz a)else ai
def vK(r:Nat->Option dF):List A->Option (List A)
 | []=>ae []
 |a::l=>(rF r a).bind λx=>(vK r l).map λxs=>x::xs
def kO(r:Nat->Option dF):A->Option A
 |.loc q i c=>(r q).bind λR=>(R.xs[i]?).bind λx=>(vK r x.cells).map λcs=>.ptr cs c
 |.agg cs=>(vK r cs).map .agg
 |a=>rF r a
def wM(r:Nat->Option dF):List A->Option (List A)
 | []=>ae []
 |a::l=>(kO r a).bind λx=>(wM r l).map λxs=>x::xs
def pF:A->Bool
 |.tok .. =>ar
 |_=>aw
def AH(r:Nat->Option dF):A->Option A
 |.fn f caps=>if caps.any pF then ai else(wM r caps).map (.fn f)
 |a=>kO r a
def zl(k:Nat):A->A
 |.tok j z xs=>if j=k then .sl z xs else .tok j z xs
 |a=>a
def FR(k:Nat):A->A:=cJ (zl k)
def uN(r:Nat)(R:dF):A->A
 |.view q off n=>if q=r then .sl R.z ((R.xs.drop off).take n)else .view q off n
 |.loc q i c=>if q=r then .any else .loc q i c
 |a=>a
def zk(r:Nat)(R:dF):A->A:=cJ (uN r R)
def gs:Nat:=1000000
def comp(a:A)(j:Nat):A:=(a.cells[j]?).getD .any
def St.pz(st:St)(i j:Nat):Option St:=
 match comp (st.t i) j with
 |.tok k _ _=>ae (st.map (FR k))
 |.view q _ _=>(st.r q).bind λR=>if R.b then ai else ae ((st.map (zk q R)).aD q ai)
 |_=>ae st
def St.oh(st:St)(i:Nat):Nat->Option St
 |0=>ae st
 |n+1=>(st.oh i n).bind λst1=>st1.pz i n
def St.aV(st:St)(i:Nat)(v:A):St:={st with t:=λj=>if j=i then v else st.t j}
def St.QE(st:St)(x:A):Option (A×St):=
 ((st.aV gs x).oh gs x.cells.length).bind λst1=>(dat (st1.t gs)).map λv=>(v,st1.aV gs .any)
def aqw(op:BinOp)(k:IntKind)(a b:Int):Option A:=
 match op with
 |.add=>ae (.int k (k.wrap (a+b)))
 |.sub=>ae (.int k (k.wrap (a-b)))
 |.mul=>ae (.int k (k.wrap (a*b)))
 |.quo=>if b=0 then ai else ae (.int k (k.wrap (a.tdiv b)))
 |.rem=>if b=0 then ai else ae (.int k (a.tmod b))
 |.and=>ae (.int k (k.wrap (eo k.bits a&&&eo k.bits b).toNat))
 |.or=>ae (.int k (k.wrap (eo k.bits a|||eo k.bits b).toNat))
 |.xor=>ae (.int k (k.wrap (eo k.bits a^^^eo k.bits b).toNat))
 |.andNot=>ae (.int k (k.wrap (eo k.bits a&&& ~~~ (eo k.bits b)).toNat))
 |.eql=>ae (.bool (a==b))
 |.neq=>ae (.bool (a !=b))
 |.lss=>ae (.bool (ah (a<b)))
 |.leq=>ae (.bool (ah (a<=b)))
 |.gtr=>ae (.bool (ah (a>b)))
 |.geq=>ae (.bool (ah (a>=b)))
 |_=>ai
def acC(op:BinOp)(k:IntKind)(a b:Int):Option A:=
 if b<0 then ai else
 match op with
 |.shl=>ae (.int k (k.wrap (a*2^(min b.toNat k.bits))))
 |.shr=>ae (.int k (a.fdiv (2^(min b.toNat k.bits))))
 |_=>ai
def bj:Nat:=9223372036854775807
def arl(op:BinOp)(a b:List UInt8):Option A:=
 match op with
 |.add=>if a.length+b.length<=bj then ae (.str (a++b))else ai
 |.eql=>ae (.bool (a==b))
 |.neq=>ae (.bool (!(a==b)))
 |.lss=>ae (.bool (cN a b))
 |.leq=>ae (.bool (cN a b||a==b))
 |.gtr=>ae (.bool (!(cN a b||a==b)))
 |.geq=>ae (.bool (!cN a b))
 |_=>ai
def VN:Kd->A->A->Option Bool
 |.b,.bool a,.bool b=>ae (a==b)
 |.i,.int k a,.int k' b=>if k=k' then ae (a==b)else ai
 |.s,.str a,.str b=>ae (a==b)
 |_,_,_=>ai
def xP:List Kd->List A->List A->Option Bool
 | [],[],[]=>ae ar
 |k::ks,a::l,b::m=>(VN k a b).bind λx=>(xP ks l m).map λy=>x&&y
 |_,_,_=>ai
def PA:BinOp->Bool
 |.shl|.shr=>ar
 |_=>aw
def agi(op:BinOp)(x y:A):Option A:=
 match x,y with
 |.int k a,.int k' b=>if PA op then acC op k a b else if k=k' then aqw op k a b else ai
 |.str a,.str b=>arl op a b
 |_,_=>ai
def unA(op:UnOp)(x:A):Option A:=
 match op,x with
 |.neg,.int k n=>ae (.int k (k.wrap (0-n)))
 |.not,.bool b=>ae (.bool !b)
 |_,_=>ai
def aiK:A->A->Option A
 |.int k x,.int k' y=>if k=k' then ae (.int k (if y>x then y else x))else ai
 |_,_=>ai
def aiL:A->A->Option A
 |.int k x,.int k' y=>if k=k' then ae (.int k (if y<x then y else x))else ai
 |_,_=>ai
def TG(f:A->A->Option A):A->List A->Option A
 |a,[]=>ae a
 |a,b::l=>(f a b).bind λc=>TG f c l
def bytesOf:List A->Option (List UInt8)
 | []=>ae []
 |.int .u8 n::l=>(bytesOf l).map (oD n.toNat:: ·)
 |_=>ai
def elems(r:Nat->Option dF):A->Option (Nat×List A)
 |.sl z xs=>ae (z,xs)
 |.tok _ z xs=>ae (z,xs)
 |.jo z=>ae (z,[])
 |.view q off n=>(r q).map λR=>(R.z,(R.xs.drop off).take n)
 |_=>ai
def akR(r:Nat->Option dF):A->Option Nat
 |.sl _ xs=>ae xs.length
 |.tok _ _ xs=>ae xs.length
 |.jo _=>ae 0
 |.view q _ n=>(r q).map λ_=>n
 |_=>ai
def ie(cs:List A)(c:Nat):Option Nat->Option A
 |none=>cs[c]?
 |some n=>if c+n<=cs.length then ae (.agg (((cs.drop c).take n).map qz))else ai
def setCells(cs:List A)(c:Nat)(vs:List A):Option (List A):=
 if c+vs.length<=cs.length then ae (cs.take c++vs++cs.drop (c+vs.length))else ai
def eX(old:A)(cs:List A):A:=
 match old with
 |.agg _=>.agg cs
 |_=>cs.headD .any
def gj(r:Nat->Option dF):A->Bool
 |.tok .. =>ar
 |.view q _ _|.loc q _ _=>(r q).isSome
 |a=>cr a
def zC(st:St):List A->List (Nat×Nat×bZ)->Option (List A)
 |cs,[]=>ae cs
 |cs,(off,z,x)::l=>if(x.v st).cells.length=z/\(x.v st).cells.all (gj st.r)=ar then(setCells cs off (x.v st).cells).bind λcs'=>zC st cs' l else ai
def Jr(st:St)(z:Nat):List A->List (Nat×bZ)->Option (List A)
 |xs,[]=>ae xs
 |xs,(i,x)::l=>
  (dat (x.v st)).bind λv=>if v.cells.length=z/\i<xs.length then Jr st z (xs.set i v) l else ai
def aiP:A->Bool
 |.agg _=>aw
 |_=>ar
def Mv(y:A):Bool:=y.cells.all aiP
def lim:Nat:=1099511627776
abbrev CF:=Nat->List A->Option (List A×List A)
def Wq:A->Bool
 |.own .. =>ar
 |_=>aw
def oa(d:Nat):Nat->List A->List A
 |_,[]=>[]
 |j,.tok _ z xs::l=>.tok (8*d+j) z xs::oa d (j+1) l
 |j,.agg cs::l=>(if cs.any Wq then .any else .agg cs)::oa d (j+1) l
 |j,a::l=>a::oa d (j+1) l
def rm(d:Nat):Nat->List A->List A
 |_,[]=>[]
 |j,.own z xs::l=>.tok (8*d+j) z xs::rm d (j+1) l
 |j,a::l=>a::rm d (j+1) l
def zS(d:Nat)(l:List A):A:=
 match l with
 | [.agg cs]=>.agg (rm d 0 cs)
 |l=>
 match oa d 0 l with
 | [a]=>a
 |l=>.sf l
def Q0:A->Bool
 |.iB .. =>ar
 |_=>aw
def Uk(r:Nat->Option dF):A->Option A
 |.view q off n=>(r q).map λR=>.own R.z ((R.xs.drop off).take n)
 |a=>if cr a then ae a else ai
def JV(r:Nat->Option dF):List A->Option (List A)
 | []=>ae []
 |a::l=>(Uk r a).bind λx=>(JV r l).map λxs=>x::xs
def sub(q c:Nat):Nat:=1000*(q+1)+c
def MS(q c:Nat)(st:St):A->Option (A×St)
 |.own z xs=>if c<1000 then ae (.view (sub q c) 0 xs.length,(st.kill (sub q c)).aD (sub q c) (ae ⟨aw,z,xs⟩))else ai
 |a=>if cr a then ae (a,st)else ai
def zi(q:Nat):Nat->St->List A->Option (List A×St)
 |_,st,[]=>ae ([],st)
 |c,st,a::l=>(MS q c st a).bind λ(x,st1)=>(zi q (c+1) st1 l).map λ(xs,st2)=>(x::xs,st2)
def kN(st:St)(q:Nat)(z:Nat)(x:A):Option St:=
 if q<1000/\x.cells.length<=1000 then(zi q 0 ((st.kill q).aD q ai) x.cells).map λ(cs,st1)=>(st1.kill q).aD q (ae ⟨ar,z,[eX x cs]⟩)else ai
def St.kx(st:St)(q c j:Nat):Option (A×St):=
 match comp (st.t gs) j with
 |.tok k z xs=>
  if c+j<1000 then ae (.view (sub q (c+j)) 0 xs.length,((st.cX k).kill (sub q (c+j))).aD (sub q (c+j)) (ae ⟨aw,z,xs⟩))else ai
 |.view s off n=>
  if s=sub q (c+j)/\c+j<1000/\(st.r s).isSome=ar then ae (.view s off n,st)
  else(st.pz gs j).bind λst1=>if cr (comp (st1.t gs) j)then ae (qz (comp (st1.t gs) j),st1)else ai
 |.jo z=>ae (.jo z,st)
 |a=>if cr a then ae (qz a,st)else ai
def St.fh(st:St)(q c:Nat):(j n:Nat)->Option (List A×St)
 |_,0=>ae ([],st)
 |j,n+1=>(st.kx q c j).bind λ(x,st1)=>(st1.fh q c (j+1) n).map λ(xs,st2)=>(x::xs,st2)
def blank(e:A)(c n:Nat):A:=eX e (e.cells.take c++aZ n .any++e.cells.drop (c+n))
def CZ(st:St)(d:Option Nat)(rs:List A):Option St:=
 match rs,d with
 | [.iB z [x]],ae d=>(kN st d z x).map λst1=>st1.put (ae d) (.loc d 0 0)
 |rs,d=>if rs.any Q0 then ai else ae (st.put d (zS (d.getD 0) rs))
def D4(st:St):List bZ->Option (List A)
 | []=>ae []
 |x::l=>(AH st.r (x.v st)).bind λa=>(D4 st l).map λr=>a::r
def U5:A->Bool
 |.tok _ _ xs=>xs.all A.plain
 |a=>a.plain
def Fb:A->Bool
 |.view .. |.tok .. |.loc .. =>ar
 |_=>aw
def owned:A->Bool
 |.fn _ caps=>caps.any Fb
 |.agg cs=>cs.any Fb
 |a=>Fb a
def bJ(cf:CF)(io:Nat->List Bool)(d:Option Nat)(st:St):O->Option A
 |.mv x=>ae (x.v st)
 |.asg x=>(match x.v st with|.tok .. |.jo _=>ai|a=>ae a)
 |.pick c a b=>(match c.v st with|.bool t=>ae (if t then a.v st else b.v st)|_=>ai)
 |.build zero parts=>(zC st zero parts).map .agg
 |.VL z zero n parts=>
  (match d with
   |some d=>if n*z<=16777216/\zero.cells.length=z then(Jr st z (aZ n zero) parts).map λxs=>.tok (8*d) z xs else ai
   |none=>ai)
 |.ld n a=>
  (match a.v st with
   |.loc q i c=>(st.r q).bind λR=>(R.xs[i]?).bind λx=>ie x.cells c n
   |.ptr cs c=>ie cs c n
   |_=>ai)
 |.Oz x=>
  (match x.v st with
   |.loc q i c=>(st.r q).map λ_=>.loc q i c
   |.ptr cs c=>ae (.ptr cs c)
   |.fn f caps=>ae (.fn f caps)
   |_=>ai)
 |.bin op x y=>agi op (x.v st) (y.v st)
 |.eqs neq ks x y=>
  (match x.v st,y.v st with
   |.agg a,.agg b=>(xP ks a b).map λe=>.bool (if neq then !e else e)
   |_,_=>ai)
 |.eqb neq x y=>(match x.v st,y.v st with|.bool a,.bool b=>ae (.bool (if neq then !(a==b)else a==b))|_,_=>ai)
 |.un op x=>unA op (x.v st)
 |.conv k x=>
  (match k,x.v st with
   |.int k,.int _ n=>ae (.int k (k.wrap n))
   |.same,.str s=>ae (.str s)
   |.Jk,a=>(elems st.r a).bind λ(z,xs)=>if z=1 then(bytesOf xs).map .str else ai
   |.Kp z,.str s=>(match d with|some d=>if z=1 then ae (.tok (8*d) 1 (s.map λb=>.int .u8 b.toNat))else ai|none=>ai)
   |_,_=>ai)
 |.fa off x=>
  (match x.v st with
   |.loc q i c=>(st.r q).map λ_=>.loc q i (c+off)
   |.ptr cs c=>ae (.ptr cs (c+off))
   |_=>ai)
 |.fld off n x=>(match x.v st with|.agg cs=>ie cs off n|_=>ai)
 |.ia z x i=>
  (match i.v st,x.v st with
   |.int _ n,.view q off len=>
    (st.r q).bind λR=>if 0<=n/\n<(len:Int)/\R.z=z then ae (.loc q (off+n.toNat) 0)else ai
   |.int _ n,.sl z' xs=>if 0<=n/\z'=z then(xs[n.toNat]?).map λx=>.ptr x.cells 0 else ai
   |_,_=>ai)
 |.iaa len z x i=>
  (match i.v st,x.v st with
   |.int _ n,.loc q j c=>if 0<=n/\n<(len:Int)then(st.r q).map λ_=>.loc q j (c+n.toNat*z)else ai
   |.int _ n,.ptr cs c=>if 0<=n/\n<(len:Int)then ae (.ptr cs (c+n.toNat*z))else ai
   |_,_=>ai)
 |.ix x i=>
  (match i.v st,x.v st with
   |.int _ n,.str s=>if 0<=n then(s[n.toNat]?).map λb=>.int .u8 b.toNat else ai
   |_,_=>ai)
 |.ixa len z n x i=>
  (match i.v st,x.v st with
   |.int _ j,.agg cs=>if 0<=j/\j<(len:Int)then ie cs (j.toNat*z) n else ai
   |_,_=>ai)
 |.als x lo hi=>
  (match(lo.map (bZ.v st)).getD (.int .i64 0),hi.map (bZ.v st),x.v st with
   |.int _ l,ae (.int _ h),.str s=>if 0<=l/\l<=h/\h<=(s.length:Int)then ae (.str ((s.take h.toNat).drop l.toNat))else ai
   |.int _ l,ai,.str s=>if 0<=l/\l<=(s.length:Int)then ae (.str (s.drop l.toNat))else ai
   |_,_,_=>ai)
 |.slc z x lo hi=>
  (match(lo.map (bZ.v st)).getD (.int .i64 0),hi.map (bZ.v st),x.v st with
   |.int _ l,ae (.int _ h),.sl z' xs=>if 0<=l/\l<=h/\h<=(xs.length:Int)/\z'=z then ae (.sl z' ((xs.take h.toNat).drop l.toNat))else ai
   |.int _ l,ai,.sl z' xs=>if 0<=l/\l<=(xs.length:Int)/\z'=z then ae (.sl z' (xs.drop l.toNat))else ai
   |.int _ l,ae (.int _ h),.view q off n=>(st.r q).bind λR=>if 0<=l/\l<=h/\h<=(n:Int)/\R.z=z then ae (.view q (off+l.toNat) (h.toNat-l.toNat))else ai
   |.int _ l,ai,.view q off n=>(st.r q).bind λR=>if 0<=l/\l<=(n:Int)/\R.z=z then ae (.view q (off+l.toNat) (n-l.toNat))else ai
   |_,_,_=>ai)
 |.len x=>(akR st.r (x.v st)).map λ(n:Nat)=>.int .i64 (n:Int)
 |.lens x=>(match x.v st with|.str s=>ae (.int .i64 s.length)|_=>ai)
 |.max xs=>(match xs.map (bZ.v st)with| []=>ai|a::l=>TG aiK a l)
 |.min xs=>(match xs.map (bZ.v st)with| []=>ai|a::l=>TG aiL a l)
 |.mks z bytes zero l c=>
  (match d,l.v st,c.v st with
   |some d,.int .i64 n,.int .i64 m=>
    if 0<=n/\n<=m/\m<(lim:Int)/\bytes<=256/\zero.cells.length=z then ae (.tok (8*d) z (aZ n.toNat zero))else ai
   |_,_,_=>ai)
 |.mkf f caps=>if(caps.map (bZ.v st)).all λx=>gj st.r x&& !pF x then ae (.fn f (caps.map (bZ.v st)))else ai
 |.call f args=>
  (match f.v st with
   |.fn g caps=>
    if(io g).any id then ai else
    (D4 st args).bind λab=>(if caps.any pF then ai else wM st.r caps).bind λcs=>(cf g (ab++cs)).bind λ(rs,_)=>
      if(rs.all U5|| !((args.map (bZ.v st)).any owned||caps.any Fb))&& !rs.any Q0 then ae (zS (d.getD 0) rs)else ai
   |_=>ai)
 |.ext x i=>(match x.v st with|.sf xs=>xs[i]? |_=>ai)
 |_=>ai
def E4(st:St):A->Option (Nat×A)
 |.loc q 0 0=>(st.r q).bind λR=>
  match R.b,R.xs with
  |true,[x]=>(JV st.r x.cells).map λcs=>(q,.iB R.z [eX x cs])
  |_,_=>ai
 |.view q 0 n=>(st.r q).bind λR=>if n=R.xs.length/\R.b=aw then ae (q,.lB R.z R.xs)else ai
 |_=>ai
def ga:A->List Nat
 |.view q _ _|.loc q _ _=>[q]
 |_=>[]
def yG(r:Nat->Option dF):A->List Nat
 |.view q _ _=>[q]
 |.loc q _ _=>q::(match r q with|some R=>R.xs.flatMap λx=>x.cells.flatMap ga|none=>[])
 |_=>[]
def names(r:Nat->Option dF):A->List Nat
 |.fn _ cs|.agg cs|.sf cs=>cs.flatMap (yG r)
 |a=>yG r a
def only(r:Nat->Option dF)(ns:List Nat):Nat->Option dF:=λi=>if ns.contains i then r i else ai
def less(r:Nat->Option dF)(ns:List Nat):Nat->Option dF:=λi=>if ns.contains i then ai else r i
def mX(st:St):List Bool->List A->Option (List (Option A)×List Nat×List Nat)
 |_,[]=>ae ([],[],[])
 |true::bs,a::l=>(E4 st a).bind λ(q,x)=>(mX st bs l).map λ(xs,qs,ns)=>(ae x::xs,q::qs,names st.r a++ns)
 |bs,a::l=>(mX st bs.tail l).map λ(xs,qs,ns)=>(ai::xs,qs,ns)
def uQ(st:St):List (Option A)->List A->Option (List A)
 |some x::xs,_::l=>(uQ st xs l).map λr=>x::r
 |none::xs,a::l=>if owned a then ai else(AH st.r a).bind λx=>(uQ st xs l).map λr=>x::r
 | [],[]=>ae []
 |_,_=>ai
def mc(st:St):List Nat->List A->Option St
 | [],[]=>ae st
 |q::qs,.iB z [x]::l=>(st.r q).bind λR=>
  (match R.b,R.xs with
   |true,[x0]=>mc {st with r:=λi=>if i=q then ae ⟨ar,z,[eX x (x.cells.map λ_=>.any)]⟩else if(x0.cells.flatMap ga).contains i then ai else st.r i} qs l
   |_,_=>ai)
 |q::qs,.lB z xs::l=>mc (st.aD q (ae ⟨aw,z,xs⟩)) qs l
 |q::qs,.any::l=>mc (st.aD q ai) qs l
 |_,_=>ai
def iT(st:St):List Nat->List A->Option St
 | [],[]=>ae st
 |q::qs,.iB z [x]::l=>if x.cells.length<=1000 then(zi q 0 st x.cells).bind λ(cs,st1)=>iT (st1.aD q (ae ⟨ar,z,[eX x cs]⟩)) qs l else ai
 |_::qs,.lB .. ::l=>iT st qs l
 |_::qs,.any::l=>iT st qs l
 |_,_=>ai
def Ec(st:St)(qs:List Nat)(os:List A):Option St:=(mc st qs os).bind λst1=>iT st1 qs os
def St.lay(st:St)(vs:List A):St:={st with t:=λi=>if gs<=i then(vs[i-gs]?).getD .any else st.t i}
def lN(j:Nat):Nat:=3000000+j
def St.Dn(st:St)(j:Nat):St:=
 match st.t (gs+j)with
 |.tok k z xs=>(((st.cX k).kill (lN j)).aD (lN j) (ae ⟨aw,z,xs⟩)).aV (gs+j) (.view (lN j) 0 xs.length)
 |.jo z=>((st.kill (lN j)).aD (lN j) (ae ⟨aw,z,[]⟩)).aV (gs+j) (.view (lN j) 0 0)
 |_=>st
def St.fm(st:St):List Bool->(j n:Nat)->Option St
 |_,_,0=>ae st
 |true::bs,j,n+1=>St.fm (st.Dn j) bs (j+1) n
 |bs,j,n+1=>(st.oh (gs+j) (st.t (gs+j)).cells.length).bind λst1=>St.fm st1 bs.tail (j+1) n
def bt(cf:CF)(io:Nat->List Bool)(d:Option Nat)(st:St):O->Option St
 |.asg x=>
  (match d,x.v st with
   |some d,.tok k z xs=>if d<1000 then ae ((((st.cX k).kill d).aD d (ae ⟨aw,z,xs⟩)).put (ae d) (.view d 0 xs.length))else ai
   |some d,.jo z=>if d<1000 then ae (((st.kill d).aD d (ae ⟨aw,z,[]⟩)).put (ae d) (.view d 0 0))else ai
   |d,a=>ae (st.put d a))
 |.alloc z zero=>
  (match d with
   |some d=>if zero.cells.length=z/\d<1000/\zero.cells.all cr then ae (((st.kill d).aD d (ae ⟨ar,z,[zero]⟩)).put (ae d) (.loc d 0 0))else ai
   |none=>ai)
 |.box z x=>
  (match d with
   |some d=>
    if d<1000/\z<=1000/\(x.v st).cells.length=z/\(x.v st).cells.all (gj st.r)=ar then
     ((((st.aV gs (x.v st)).kill d).aD d ai).fh d 0 0 z).map λ(cs,st1)=>
       (((st1.aV gs .any).kill d).aD d (ae ⟨ar,z,[eX (x.v st) cs]⟩)).put (ae d) (.loc d 0 0)
    else ai
   |none=>ai)
 |.rq n a x=>
  if(x.v st).cells.length=n then
   match a.v st with
   |.loc q i c=>
    (st.r q).bind λR=>
      match R.b,R.xs,i with
      |true,[e],0=>
       if q<1000/\c+n<=e.cells.length/\c+n<=1000/\(x.v st).cells.all (gj st.r)=ar then
        (((st.aV gs (x.v st)).aD q (ae ⟨ar,R.z,[blank e c n]⟩)).fh q c 0 n).map λ(vs,st1)=>
          ((st1.aV gs .any).aD q (ae ⟨ar,R.z,[eX e (e.cells.take c++vs++e.cells.drop (c+n))]⟩)).put d .any
       else ai
      |false,_,_=>
       (st.QE (x.v st)).bind λ(v,st1)=>
         if v.cells.length=n then(st1.r q).bind λR=>(R.xs[i]?).bind λe=>
          (setCells e.cells c v.cells).map λcs=>(st1.aD q (ae ⟨aw,R.z,R.xs.set i (eX e cs)⟩)).put d .any
         else ai
      |_,_,_=>ai
   |_=>ai
  else ai
 |.app z bytes s x=>
  (match d with
   |none=>ai
   |some d=>
    (elems st.r (x.v st)).bind λ(z2,ys)=>
      match s.v st with
      |.tok k z1 xs=>if z1=z/\z2=z/\xs.length+ys.length<lim/\bytes<=128/\ys.all Mv=ar then ae ((st.cX k).put (ae d) (.tok (8*d) z (xs++ys)))else ai
      |.jo z1=>if z1=z/\z2=z/\ys.length<lim/\bytes<=128/\ys.all Mv=ar then ae (st.put (ae d) (.tok (8*d) z ys))else ai
      |.view q off n=>
       (st.r q).bind λR=>
         if R.z=z/\z2=z/\n+ys.length<lim/\bytes<=128/\ys.all Mv=ar then
          ae (((st.kill q).aD q ai).put (ae d) (.tok (8*d) z ((R.xs.drop off).take n++ys)))
         else ai
      |_=>ai)
 |.call f args=>
  (match f.v st with
   |.fn g caps=>
    ((st.lay (args.map (bZ.v st)++caps)).fm (io g) 0 (args.length+caps.length)).bind λst1=>
      let vs:=(dL (args.length+caps.length)).map λj=>st1.t (gs+j)
      (mX st1 (io g) vs).bind λ(ls,qs,ns)=>
        if decide ns.Nodup then
         (uQ {st1 with r:=less st1.r ns} ls vs).bind λab=>(cf g ab).bind λ(res,outs)=>
           (Ec (st1.lay []) qs outs).bind λst2=>CZ st2 d res
        else ai
   |_=>ai)
 |.ia z x i=>
  (match i.v st,x.v st with
   |.int _ n,.tok k z' xs=>
    (st.QE (x.v st)).bind λ(v0,st1)=>
      (match v0 with
       |.sl z0 xs0=>if 0<=n/\z0=z then(xs0[n.toNat]?).map λy=>st1.put d (.ptr y.cells 0)else ai
       |_=>ai)
   |_,_=>ai)
 |.VL z zero n parts=>
  (match d with
   |some d=>
    if n*z<=16777216/\zero.cells.length=z then(xR st z (aZ n zero) parts).map λ(xs,st1)=>st1.put (ae d) (.tok (8*d) z xs)else ai
   |none=>ai)
 |_=>ai
where
 xR (st:St) (z:Nat):List A->List (Nat×bZ)->Option (List A×St)
  |xs,[]=>ae (xs,st)
  |xs,(i,x)::l=>
   (st.QE (x.v st)).bind λ(v,st1)=>if v.cells.length=z/\i<xs.length then xR st1 z (xs.set i v) l else ai
def guardOf(ops:List Op)(st:St):Option (Nat×Bool)->Option Bool
 |none=>ae ar
 |some (j,want)=>
  match(ops[j]?).bind (·.d)with
  |some d=>(match st.t d with|.bool b=>ae (b==want)|.undef=>ae aw|_=>ai)
  |none=>ai
def iw(st:St):O->List Nat
 |.call f args=>(args.map (bZ.v st)).flatMap (names st.r)++(match f.v st with|.fn _ caps=>caps.flatMap (names st.r)|_=>[])
 |.rq _ a _=>(match a.v st with|.loc q _ _=>[q]|_=>[])
 |_=>[]
def jM(d:Option Nat):A->Bool
 |.loc p _ _=>d !=ae p
 |.view p _ _=>d !=ae p
 |a=>pure a
def noView(a:A):Bool:=a.cells.all λc=>match c with|.view .. =>aw|_=>ar
def QT(st:St):O->Bool
 |.call f args=>(args.map (bZ.v st)).all noView&&(match f.v st with|.fn _ caps=>caps.all noView|_=>aw)
 |_=>aw
def wQ(st:St)(o:O)(d:Option Nat)(p:Nat):Bool:=
 ah (p<1002000)&&(!(iw st o).contains p&&((iw st o).all (λi=>i+1 !=p/1000)&&(match d with|some i=>i !=p&&i+1 !=p/1000|none=>ar)))
def CB(st:St)(o:O)(d:Option Nat):A->Bool
 |.loc p _ _=>(ah (p<1000)&&(d !=ae p&&(!(iw st o).contains p&&(match st.r p with|some R=>R.b|none=>aw))))||(QT st o&&wQ st o d p)
 |.view p _ _=>QT st o&&wQ st o d p
 |.any=>ar
 |a=>pure a
def stays(st:St)(o:O)(d:Option Nat)(k:Nat):Bool:=
 match o with
 |.alloc _ _=>jM d (st.t k)
 |.VL _ _ _ ps=>jM d (st.t k)&&ps.all λp=>noView (p.2.v st)
 |o=>CB st o d (st.t k)
def hY:bZ->List Nat
 |.t i=>[i]
 |.c _=>[]
def avM:Option bZ->List Nat
 |some x=>hY x
 |none=>[]
def bT:O->List Nat
 |.mv x|.asg x|.box _ x|.Oz x|.un _ x|.conv _ x|.fa _ x|.fld _ _ x|.len x|.lens x|.ext x _|.ld _ x=>hY x
 |.pick c a b=>hY c++hY a++hY b
 |.alloc .. =>[]
 |.build _ ps=>ps.flatMap λp=>hY p.2.2
 |.VL _ _ _ ps=>ps.flatMap λp=>hY p.2
 |.rq _ a v=>hY a++hY v
 |.bin _ x y|.eqs _ _ x y|.eqb _ x y|.ia _ x y|.iaa _ _ x y|.ix x y|.ixa _ _ _ x y|.app _ _ x y|.mks _ _ _ x y=>hY x++hY y
 |.slc _ x lo hi|.als x lo hi=>hY x++avM lo++avM hi
 |.max xs|.min xs|.mkf _ xs=>xs.flatMap hY
 |.call f args=>hY f++args.flatMap hY
def isAny:A->Bool
 |.any=>ar
 |_=>aw
def ari(d:Option Nat):A->Bool
 |.loc p _ _=>d !=ae p
 |.view p _ _=>d !=ae p
 |a=>cr a
def O7(d:Option Nat):A->Bool
 |.agg cs=>cs.all (ari d)
 |a=>jM d a
def okV(st:St)(o:O)(v:A):Bool:=
 pure v||(match v with
  |.loc .. |.view .. =>(match o with|.ld _ (.t k)=>(match st.t k with|.loc q _ _=>(match st.r q with|some R=>R.b|none=>aw)|_=>aw)|.mv (.t _)|.Oz (.t _)|.fa _ (.t _)|.iaa _ _ (.t _) _|.ia _ (.t _) _=>ar|_=>aw)
  |_=>aw)
def ry(st:St):A->Bool
 |.loc p _ _|.view p _ _=>(st.r p).isSome
 |_=>ar
def fP(st:St)(o:Op)(v:A):Bool:=(!o.pq||pure v)&&o.av.all λd=>if d=gs then(match o.d with|some s=>isAny (st.t s)|none=>aw)else if d=gs+1 then okV st o.o v else if d=gs+2 then ry st v else O7 (ae d) v&&(bT o.o).all λk=>jM (ae d) (st.t k)
def DG(st:St):O->Bool
 |.rq _ a x=>pure (x.v st)&&(match a.v st with|.loc q _ _=>(match st.r q with|some R=> !R.b|none=>aw)|_=>aw)
 |.asg x=>(match x.v st with|.tok .. =>aw|.jo _=>aw|_=>ar)
 |_=>aw
def DN(r:Nat->Option dF)(p:Nat):List Nat:=
 match r p with
 |some R=>if R.b then R.xs.flatMap λx=>x.cells.flatMap ga else []
 |none=>[]
def IG(st:St)(o:O)(d:Option Nat)(p:Nat):Bool:=wQ st o d p&&(DN st.r p).all λp'=>wQ st o d p'&&(DN st.r p').isEmpty
def O6(st:St)(o:O)(d:Option Nat):A->Bool
 |.loc p _ _|.view p _ _=>IG st o d p
 |.any=>ar
 |a=>pure a
def FO(st:St):A->Bool
 |.loc p _ _=>ah (p<1000)&&(match st.r p with|some R=>R.b|none=>aw)
 |.any=>ar
 |a=>pure a
def alu(d:Option Nat):A->Bool
 |.loc p _ _=>ah (p<1000)&&(d !=ae p)
 |.any=>ar
 |a=>pure a
def cp:Nat:=2000000
def IY(st:St)(x:bZ):A->Bool
 |.loc p _ _|.view p _ _=>(match x.v st with|.view q _ _=>p !=q|_=>ar)
 |.any=>ar
 |a=>pure a
def vt(q:Nat):A->Bool
 |.loc p _ _|.view p _ _=>p !=q
 |_=>ar
def axn(av:List Nat):Bool:=av.all λk=>ah (k<cp)
def D5(st:St)(av:List Nat)(a:bZ):Bool:=axn av||(match a.v st with|.loc q _ _=>(match st.r q with|some R=>R.b|none=>aw)&&av.all λk=>ah (k<cp)||vt q (st.t (k-cp))|_=>aw)
def AG(st:St)(av:List Nat)(d:Option Nat):O->Bool
 |.rq n a x=>(DG st (.rq n a x)||((match a.v st with|.loc q _ _=>(st.r q).isSome|_=>aw)&&av.all λk=>ah (gs<=k)||FO st (st.t k)))&&D5 st av a
 |.call f args=>QT st (.call f args)&&(av.all (λk=>ah (gs<=k)||O6 st (.call f args) d (st.t k))&&av.all λk=>ah (k<cp)||alu d (st.t (k-cp)))
 |.app _ _ x _=>av.all λk=>ah (gs<=k)||IY st x (st.t k)
 |_=>aw
def rp:Nat:=3000000
def ahn(st:St)(av:List Nat):O->Bool
 |.rq _ a x=>pure (x.v st)&&(match a.v st with|.loc q _ _=>(av.all λk=>k==rp+q)&&(match st.r q with|some R=>R.b|none=>aw)|_=>aw)
 |_=>aw
def ep:Nat:=4194304
def Ny(st:St)(e:Nat):Bool:=
 ah (ep<=e)&&(match st.t (e/16%65536)with|.sf xs=>(match xs[e%16]? with|some a=>cr a|none=>aw)|_=>aw)
def anG(st:St)(o:Op):Bool:=if o.pq&& !o.av.isEmpty then(if o.av.any λk=>ah (rp<=k)then(if o.av.any λk=>ah (ep<=k)then o.av.all (Ny st)else ahn st o.av o.o)else AG st o.av o.d o.o)else(!o.pq||DG st o.o)&&o.av.all (stays st o.o o.d)
def step(cf:CF)(io:Nat->List Bool)(st:St)(o:Op):Option St:=
 if o.w then(if anG st o then bt cf io o.d st o.o else ai)else(bJ cf io o.d st o.o).bind λv=>if fP st o v then ae (st.put o.d v)else ai
def vn(cf:CF)(io:Nat->List Bool)(all:List Op):List Op->St->Option St
 | [],st=>ae st
 |o::l,st=>
  match guardOf all st o.g with
  |some ar=>(step cf io st o).bind (vn cf io all l)
  |some aw=>vn cf io all l (st.put o.d .undef)
  |none=>ai
def fz1:A->A
 |.tok _ z xs=>.sl z xs
 |a=>a
def fz:A->A:=cJ fz1
def St.restrict(st:St)(fk keepR:List Nat):St:=
 {t:=tab (fk.map λi=>(i,fz (st.t i))),r:=aeg (keepR.filterMap λi=>(st.r i).map λR=>(i,R))}
def FQ(q:Nat)(cs:List A):A->A
 |.loc p i c=>if p=q then(if i=0 then .ptr cs c else .any)else .loc p i c
 |a=>a
def St.aaf(st:St)(q:Nat):St:=
 match st.r q with
 |some ⟨ar,_,[x]⟩=>if x.cells.all cr then(st.map (cJ (FQ q x.cells))).aD q ai else st
 |_=>st
def St.A1(st:St)(s:Nat):St:=
 match st.t s with
 |.view q off n=>
  (match st.r q with
   |some ⟨aw,z,xs⟩=>if q=lN (1000000+s)then st else((((st.kill q).kill (lN (1000000+s))).aD q ai).aD (lN (1000000+s)) (ae ⟨aw,z,xs⟩)).aV s (.view (lN (1000000+s)) off n)
   |_=>st)
 |_=>st
def St.A0(st:St)(s:Nat):St:=
 match st.t s with
 |.view q off n=>
  (match st.r q with
   |some ⟨aw,z,xs⟩=>((((st.kill q).kill (lN (1000000+s))).aD q ai).aD (lN (1000000+s)) (ae ⟨aw,z,(xs.drop off).take n⟩)).aV s (.view (lN (1000000+s)) 0 n)
   |_=>st)
 |_=>st
def St.C6(st:St)(n:Nat):St:=
 if 8000000<=n then st.A0 (n-8000000)else if 7000000<=n then st.A1 (n-7000000)else if 6000000<=n then st.aaf (n-6000000)else if 5000000<=n then(match st.pz (n-5000000) 0 with|some s=>s|none=>st)else
 match st.r (n/1000-1)with
 |some ⟨ar,z,[.agg cs]⟩=>
  (match cs[n%1000]? with
   |some (.jo z1)=>if 1000<=n/\(st.r n).isNone=ar then((st.kill n).aD n (ae ⟨aw,z1,[]⟩)).aD (n/1000-1) (ae ⟨ar,z,[.agg (cs.set (n%1000) (.view n 0 0))]⟩)else st
   |_=>st)
 |_=>st
inductive Ex where
 |normal
 |exit (id:Nat)
 |ret
def as1:A->Bool
 |.fn .. =>ar
 |_=>aw
def iO(i:Nat):List A->St->Option St
 | [],st=>ae st
 |.iB z [x]::l,st=>(kN st i z x).bind λst1=>iO (i+1) l (st1.put (ae i) (.loc i 0 0))
 |.lB z xs::l,st=>if i<1000 then iO (i+1) l (((st.kill i).aD i (ae ⟨aw,z,xs⟩)).put (ae i) (.view i 0 xs.length))else ai
 |a::l,st=>if pure a||as1 a then iO (i+1) l (st.put (ae i) a)else ai
def R6:A->Bool
 |.iB .. |.lB .. =>ar
 |_=>aw
def Iz:List Bool->List A->Bool
 |_,[]=>ar
 |b::bs,a::l=>(!R6 a||b)&&Iz bs l
 | [],a::l=> !R6 a&&Iz [] l
def Fn.enter(fn:Fn)(args:List A):Option St:=
 if args.length=fn.np/\Iz fn.io args=ar then iO 0 args ⟨tab [],aeg []⟩else ai
def Rs.v(st:St):Rs->Option A
 |.t i=>ae (st.t i)
 |.cell i n=>
  match st.t i with
  |.loc q j c=>(st.r q).bind λR=>(R.xs[j]?).bind λx=>ie x.cells c n
  |_=>ai
def ql(ks:List Nat):A->A
 |.tok k z xs=>if ks.contains k then .any else .tok k z xs
 |a=>a
def Xx:A->List Nat
 |.tok k _ _=>[k]
 |_=>[]
def Pf:A->List Nat
 |.agg cs|.sf cs=>cs.flatMap Xx
 |a=>Xx a
def St.EZ(st:St)(j:Nat)(own:Bool):Option (A×St):=
 if own then
  match st.t (gs+j)with
  |.tok k z xs=>ae (.tok j z xs,st.cX k)
  |.jo z=>ae (.tok j z [],st)
  |.view q off n=>
   (st.r q).map λR=>(.tok j R.z ((R.xs.drop off).take n),{st with r:=less st.r [q]})
  |.loc q 0 0=>(st.r q).bind λR=>
   (match R.b,R.xs with
    |true,[x]=>(JV st.r x.cells).map λcs=>(.iB R.z [eX x cs],{st with r:=less st.r (q::x.cells.flatMap ga)})
    |_,_=>ai)
  |.agg cs=>if ah (cs.flatMap ga).Nodup then(JV st.r cs).map λys=>(.agg ys,{st with r:=less st.r (cs.flatMap ga)})else ai
  |_=>ai
 else
  (AH (only st.r (names st.r (st.t (gs+j)))) (st.t (gs+j))).map λx=>
    (x,{t:=λi=>cJ (ql (Pf (st.t (gs+j)))) (st.t i),r:=less st.r (names st.r (st.t (gs+j)))})
def St.leaves(st:St):(j:Nat)->List Bool->Option (List A×St)
 |j,b::bs=>(st.EZ j b).bind λ(x,st1)=>(st1.leaves (j+1) bs).map λ(xs,st2)=>(x::xs,st2)
 |_,[]=>ae ([],st)
def OU(st:St):List Rs->Option (List A)
 | []=>ae []
 |r::l=>(r.v st).bind λa=>(OU st l).map λxs=>a::xs
def outs(st:St)(i:Nat):List A->Option (List A)
 | []=>ae []
 |.iB z _::l=>(st.r i).bind λR=>
  (match R.b,R.xs with
   |true,[x]=>if R.z=z/\i<1000 then(JV st.r x.cells).bind λcs=>(outs st (i+1) l).map λr=>.iB z [eX x cs]::r else ai
   |_,_=>ai)
 |.lB z xs::l=>
  (match st.r i with
   |none=>(outs st (i+1) l).map λr=>.any::r
   |some R=>if R.z=z/\R.xs.length=xs.length/\R.b=aw/\i<1000 then(outs st (i+1) l).map λr=>.lB z R.xs::r else ai)
 |_::l=>outs st (i+1) l
def Fn.leave(fn:Fn)(args:List A)(st:St):Option (List A×List A):=
 if fn.own.length=fn.res.length then(OU st fn.res).bind λab=>((st.lay ab).leaves 0 fn.own).bind λ(rs,st1)=>(outs {st1 with r:=less st1.r fn.gone} 0 args).map λos=>(rs,os)else ai
inductive Def where
 |ir (f:Fn)
 |alg (io:List Bool) (g:CF)
def ait(M:Nat->Option Def)(f:Nat):List Bool:=
 match M f with
 |some (.ir fn)=>fn.io
 |some (.alg io _)=>io
 |none=>[]
def Ty(M:Nat->Option Def)(ex:C->St->Option (Ex×St)):CF:=λf args=>
 match M f with
 |some (.ir fn)=>
  (fn.enter args).bind λst0=>
    match ex fn.body st0 with
    |some (.ret,st)|some (.normal,st)=>fn.leave args st
    |_=>ai
 |some (.alg _ g)=>g f args
 |none=>ai
def exec(M:Nat->Option Def):Nat->C->St->Option (Ex×St)
 |0,_,_=>ai
 |n+1,c,st=>
  match c with
  |.skip=>ae (.normal,st)
  |.reg _ ops fk keepR=>(vn (Ty M (exec M n)) (ait M) ops ops st).map λst'=>(.normal,st'.restrict fk keepR)
  |.seq a b=>(match exec M n a st with|some (.normal,st')=>exec M n b st'|r=>r)
  |.cond c a b=>(match c.v st with|.bool t=>exec M n (if t then a else b) st|_=>ai)
  |.block id b=>(match exec M n b st with|some (.exit j,st')=>if j=id then ae (.normal,st')else ae (.exit j,st')|r=>r)
  |.loop b=>(match exec M n b st with|some (.normal,st')=>exec M n (.loop b) st'|r=>r)
  |.exit id=>ae (.exit id,st)
  |.ret=>ae (.ret,st)
  |.norm fk keepR b=>exec M n b (st.restrict fk keepR)
  |.opn i b=>exec M n b (st.C6 i)
  |.stop=>ai
end Go.Ab
namespace Go.Ab
def cH(w:World)(b o:Nat)(vs:List Value):Prop:=∀j v,vs[j]? =ae v->w.cell? ⟨b,o+j,ai⟩=ae v
mutual
inductive iD(φ:Nat->Nat)(w:World)(ok:Nat->Prop):Value->A->Prop
 |bool (b:Bool):iD φ w ok (.bool b) (.bool b)
 |int (k:IntKind) (n:Int):iD φ w ok (.int k n) (.int k n)
 |str (s:List UInt8):iD φ w ok (.string ⟨s.toArray⟩) (.str s)
 |agg (vs:List Value) (cs:List A) (h:cW φ w ok vs cs):iD φ w ok (.agg vs.toArray) (.agg cs)
 |jo (z:Nat):iD φ w ok (.slice ai 0 0) (.jo z)
 |Yw (v:Value) (h:aqN v=ar):iD φ w ok v (.Yw v)
 |No (ad:Option Addr) (cap z:Nat):iD φ w ok (.slice ad 0 cap) (.sl z [])
 |sl (b o cap z:Nat) (xs:List A) (vs:List Value) (hb:ok b) (hz:∀x∈xs,x.cells.length=z) (hc:xs.length<=cap)
   (h:cW φ w ok vs (xs.flatMap A.cells)) (hv:cH w b o vs):iD φ w ok (.slice (ae ⟨b,o,ai⟩) xs.length cap) (.sl z xs)
 |ptr (b o c:Nat) (cs:List A) (vs:List Value) (hb:ok b) (h:cW φ w ok vs cs) (hv:cH w b o vs):
   iD φ w ok (.pointer (ae ⟨b,o+c,ai⟩)) (.ptr cs c)
 |fn (f:Nat) (caps:List A) (vs:List Value) (h:cW φ w ok vs caps):iD φ w ok (.func (.func (φ f)) #[] vs.toArray) (.fn f caps)
inductive cW(φ:Nat->Nat)(w:World)(ok:Nat->Prop):List Value->List A->Prop
 |nil:cW φ w ok [] []
 |cons (v:Value) (a:A) (vs:List Value) (ab:List A) (h:iD φ w ok v a) (t:cW φ w ok vs ab):cW φ w ok (v::vs) (a::ab)
end
structure Ext(w w':World):Prop where
 size:w.heap.size<=w'.heap.size
 same:∀b,b<w.heap.size->w'.heap[b]? =w.heap[b]?
 env:w'.os=w.os/\w'.output=w.output
def frozen?_block{w w':World}{b:Nat}(h:w'.heap[b]? =w.heap[b]?)(off:Nat):w'.frozen? ⟨b,off,ai⟩=w.frozen? ⟨b,off,ai⟩:=by simp only[xF,h]
def Ext.refl(w:World):Ext w w:=⟨bm _,λ_ _=>rfl,⟨rfl,rfl⟩⟩
def cell?_of_block{w w':World}{b:Nat}(h:w'.heap[b]? =w.heap[b]?)(off:Nat):w'.cell? ⟨b,off,ai⟩=w.cell? ⟨b,off,ai⟩:=by simp only[df,h]
def frozen?_of_block{w w':World}{b:Nat}(h:w'.heap[b]? =w.heap[b]?)(off:Nat):w'.frozen? ⟨b,off,ai⟩=w.frozen? ⟨b,off,ai⟩:=by simp only[xF,h]
def cH.of_block{w w':World}{b o:Nat}{vs:List Value}(h:w'.heap[b]? =w.heap[b]?)(hc:cH w b o vs):cH w' b o vs:=
 λj v hj=>(cell?_of_block h _).trans (hc j v hj)
mutual
def iD.mono{φ:Nat->Nat}{w w':World}{ok ok':Nat->Prop}(hs:∀b,ok b->w'.heap[b]? =w.heap[b]?)(hk:∀b,ok b->ok' b):
 ∀{v:Value} {a:A},iD φ w ok v a->iD φ w' ok' v a
 |_,_,.bool b=>.bool b
 |_,_,.int k n=>.int k n
 |_,_,.str s=>.str s
 |_,_,.agg vs cs h=>.agg vs cs (cW.mono hs hk h)
 |_,_,.jo z=>.jo z
 |_,_,.Yw v h=>.Yw v h
 |_,_,.No ad cap z=>.No ad cap z
 |_,_,.sl b o cap z xs vs hb hz hc h hv=>.sl b o cap z xs vs (hk b hb) hz hc (cW.mono hs hk h) (hv.of_block (hs b hb))
 |_,_,.ptr b o c cs vs hb h hv=>.ptr b o c cs vs (hk b hb) (cW.mono hs hk h) (hv.of_block (hs b hb))
 |_,_,.fn f caps vs h=>.fn f caps vs (cW.mono hs hk h)
def cW.mono{φ:Nat->Nat}{w w':World}{ok ok':Nat->Prop}(hs:∀b,ok b->w'.heap[b]? =w.heap[b]?)(hk:∀b,ok b->ok' b):
 ∀{vs:List Value} {ab:List A},cW φ w ok vs ab->cW φ w' ok' vs ab
 |_,_,.nil=>.nil
 |_,_,.cons v a vs ab h t=>.cons v a vs ab (iD.mono hs hk h) (cW.mono hs hk t)
end
section
variable {φ:Nat->Nat} {w:World} {ok:Nat->Prop}
def cW.length:∀{vs:List Value} {ab:List A},cW φ w ok vs ab->vs.length=ab.length
 |_,_,.nil=>rfl
 |_,_,.cons _ _ _ _ _ t=>congrArg (· +1) t.length
def cW.append:∀{vs us:List Value} {ab bs:List A},cW φ w ok vs ab->cW φ w ok us bs->cW φ w ok (vs++us) (ab++bs)
 |_,_,_,_,.nil,h=>h
 |_,_,_,_,.cons v a vs ab hv t,h=>.cons v a _ _ hv (t.append h)
def cW.get:∀{vs:List Value} {ab:List A},cW φ w ok vs ab->∀{j:Nat} {a:A},ab[j]? =ae a->∃v,vs[j]? =ae v/\iD φ w ok v a
 |_,_,.nil,j,a,h=>by simp at h
 |_,_,.cons v a vs ab hv t,0,b,h=>by simp at h;subst h;exact⟨v,rfl,hv⟩
 |_,_,.cons v a vs ab hv t,j+1,b,h=>by simpa using t.get (by simpa using h)
def cW.aqs:∀{vs:List Value} {ab:List A},cW φ w ok vs ab->∀{j:Nat} {v:Value},vs[j]? =ae v->∃a,ab[j]? =ae a/\iD φ w ok v a
 |_,_,.nil,j,a,h=>by simp at h
 |_,_,.cons v a vs ab hv t,0,b,h=>by simp at h;subst h;exact⟨a,rfl,hv⟩
 |_,_,.cons v a vs ab hv t,j+1,b,h=>by simpa using t.aqs (by simpa using h)
def cW.drop:∀{vs:List Value} {ab:List A},cW φ w ok vs ab->∀n,cW φ w ok (vs.drop n) (ab.drop n)
 |_,_,h,0=>by simpa using h
 |_,_,.nil,n+1=>by simpa using .nil
 |_,_,.cons v a vs ab hv t,n+1=>by simpa using t.drop n
def cW.take:∀{vs:List Value} {ab:List A},cW φ w ok vs ab->∀n,cW φ w ok (vs.take n) (ab.take n)
 |_,_,h,0=>by simpa using .nil
 |_,_,.nil,n+1=>by simpa using .nil
 |_,_,.cons v a vs ab hv t,n+1=>by simpa using .cons v a _ _ hv (t.take n)
def cH.nil{b o:Nat}:cH w b o []:=λj v h=>by simp at h
def cH.left{b o:Nat}{us ts:List Value}(h:cH w b o (us++ts)):cH w b o us:=λj v hj=>h j v (by
 have:j<us.length:=by
  rcases bH j us.length with h'|h'
  ·exact h'
  ·simp[bB h']at hj
 rw[eA this];exact hj)
def cH.append{b o:Nat}{us ts:List Value}(h:cH w b o us)(h':cH w b (o+us.length) ts):cH w b o (us++ts):=λj v hj=>by
 rcases bH j us.length with hl|hl
 ·rw[eA hl]at hj;exact h j v hj
 ·rw[dC hl]at hj;have:=h' (j-us.length) v hj;rwa[show o+us.length+(j-us.length)=o+j from by omega]at this
def cH.drop{b o:Nat}{vs:List Value}(h:cH w b o vs)(n:Nat):cH w b (o+n) (vs.drop n):=λj v hj=>by have:=h (n+j) v (by simpa using hj);rwa[<-gS]at this
def cH.take{b o:Nat}{vs:List Value}(h:cH w b o vs)(n:Nat):cH w b o (vs.take n):=λj v hj=>h j v (by
 rw[oB]at hj
 split at hj
 ·exact hj
 ·cases hj)
def iD.cells{v:Value}{a:A}(h:iD φ w ok v a):cW φ w ok v.cells.toList a.cells:=by cases h with|agg vs cs h=>simpa[adw,A.cells]using h|Yw v hv=>(have:v.cells= #[v]:=by cases v<;>first|rfl|simp[aqN]at hv);rw[this];exact .cons _ _ _ _ (.Yw _ hv) .nil|_=>exact .cons _ _ _ _ (by constructor<;>assumption) .nil
def iD.LG{v:Value}{a:A}(h:iD φ w ok v a)(ha:∀cs,a≠ .agg cs):(∀cs,v≠ .agg cs)/\(∀vs,v≠ .tuple vs):=by cases h with|agg vs cs h=>exact absurd rfl (ha _)|Yw v hv=>constructor<;>(intro cs h;subst h;simp[aqN]at hv)|_=>exact⟨λ_ h=>by simp at h,λ_ h=>by simp at h⟩
end
def js{xs:List A}{z:Nat}(hz:∀x∈xs,x.cells.length=z):(xs.flatMap A.cells).length=xs.length*z:=by induction xs with|nil=>simp|cons x xs ih=>rw[cg,aQ,ih (λy hy=>hz y (aL _ hy)),hz x (di ..),bh,dW];omega
def nh{xs:List A}{z:Nat}(hz:∀x∈xs,x.cells.length=z):∀n,(xs.drop n).flatMap A.cells=(xs.flatMap A.cells).drop (n*z):=by induction xs with|nil=>simp|cons x xs ih=>intro n;cases n with|zero=>simp|succ n=>have hx:=hz x (di ..);(have h1:(n+1)*z-x.cells.length=n*z:=by rw[hx,dW];omega);have h2:x.cells.drop ((n+1)*z)=[]:=bb (by rw[hx,dW];omega);rw[List.drop_succ_cons,ih (λy hy=>hz y (aL _ hy)),cg,F9,h1,h2,dU]
def tP{xs:List A}{z:Nat}(hz:∀x∈xs,x.cells.length=z):∀n,(xs.take n).flatMap A.cells=(xs.flatMap A.cells).take (n*z):=by induction xs with|nil=>simp|cons x xs ih=>intro n;cases n with|zero=>simp|succ n=>have hx:=hz x (di ..);(have h1:(n+1)*z-x.cells.length=n*z:=by rw[hx,dW];omega);have h2:x.cells.take ((n+1)*z)=x.cells:=dO (by rw[hx,dW];omega);rw[List.take_succ_cons,cg,cg,ih (λy hy=>hz y (aL _ hy)),asc,h1,h2]
end Go.Ab
namespace Go.Ab
def fE(p:Value->A->Prop)(vs:List Value)(ab:List A):Prop:=
 vs.length=ab.length/\∀(j:Nat) (v:Value) (a:A),vs[j]? =ae v->ab[j]? =ae a->p v a
def fE.imp{p q:Value->A->Prop}{vs:List Value}{ab:List A}(h:fE p vs ab)(hi:∀v a,p v a->q v a):fE q vs ab:=
 ⟨h.1,λj v a hv ha=>hi v a (h.2 j v a hv ha)⟩
def fE.nil{p:Value->A->Prop}:fE p [] []:=⟨rfl,λj v a h=>by simp at h⟩
def fE.cons{p:Value->A->Prop}{v:Value}{a:A}{vs:List Value}{ab:List A}(h:p v a)(t:fE p vs ab):fE p (v::vs) (a::ab):=
 ⟨by simp[t.1],λj u b hu hb=>by
   cases j with
   |zero=>simp at hu hb;subst hu;subst hb;exact h
   |succ j=>exact t.2 j u b (by simpa using hu) (by simpa using hb)⟩
def fE.Pg{p:Value->A->Prop}{vs:List Value}{a:A}{ab:List A}(h:fE p vs (a::ab)):∃v us,vs=v::us/\p v a/\fE p us ab:=by cases vs with|nil=>have:=h.1;simp at this|cons v us=>exact⟨v,us,rfl,h.2 0 v a rfl rfl,by have:=h.1;simpa using this,λj u b hu hb=>h.2 (j+1) u b (by simpa using hu) (by simpa using hb)⟩
def fE.mT{φ:Nat->Nat}{w:World}{ok:Nat->Prop}{vs:List Value}{ab:List A}(h:cW φ w ok vs ab):fE (iD φ w ok) vs ab:=
 ⟨h.length,λj v a hv ha=>by obtain⟨u,hu,hr⟩:=h.get ha;rw[hv]at hu;cases hu;exact hr⟩
def fE.W6{φ:Nat->Nat}{w:World}{ok:Nat->Prop}:∀{vs:List Value} {ab:List A},fE (iD φ w ok) vs ab->cW φ w ok vs ab
 | [],[],_=>.nil
 | [],a::ab,h=>by have:=h.1;simp at this
 |v::vs,[],h=>by have:=h.1;simp at this
 |v::vs,a::ab,h=>by
  obtain⟨u,us,he,h1,h2⟩:=h.Pg
  cases he
  exact .cons _ _ _ _ h1 h2.W6
def fE.get{p:Value->A->Prop}{vs:List Value}{ab:List A}(h:fE p vs ab){j:Nat}{a:A}(ha:ab[j]? =ae a):∃v,vs[j]? =ae v/\p v a:=by
 have hj:j<vs.length:=by rw[h.1];(rcases bH j ab.length with h'|h');(·exact h');·simp[bB h']at ha
 exact⟨vs[j],by simp,h.2 j _ _ (by simp) ha⟩
def fE.append{p:Value->A->Prop}:∀{vs us:List Value} {ab bs:List A},fE p vs ab->fE p us bs->fE p (vs++us) (ab++bs)
 | [],us,[],bs,_,h'=>by simpa using h'
 | [],us,a::ab,bs,h,_=>by have:=h.1;simp at this
 |v::vs,us,[],bs,h,_=>by have:=h.1;simp at this
 |v::vs,us,a::ab,bs,h,h'=>by
  obtain⟨u,ws,he,h1,h2⟩:=h.Pg
  cases he
  exact .cons h1 (h2.append h')
def fA(z:Nat)(w:World)(b n:Nat):Prop:=∃C e fr,w.heap[b]? =ae (.cells C e fr)/\n<=C.size/\∀off,(off<C.size\/off=C.size/\z≠1)->w.frozen? ⟨b,off,ai⟩=aw
def fA.of_block{z:Nat}{w w':World}{b n:Nat}(h:w'.heap[b]? =w.heap[b]?):fA z w b n->fA z w' b n
 |⟨C,e,fr,h1,h2,h3⟩=>⟨C,e,fr,h.trans h1,h2,λoff ho=>(frozen?_of_block h off).trans (h3 off ho)⟩
def fA.le{z:Nat}{w:World}{b n m:Nat}(h:m<=n):fA z w b n->fA z w b m
 |⟨C,e,fr,h1,h2,h3⟩=>⟨C,e,fr,h1,dZ h h2,h3⟩
def fA.lt{z:Nat}{w:World}{b n:Nat}:fA z w b n->b<w.heap.size
 |⟨C,e,fr,h1,h2,h3⟩=>by
  rcases bH b w.heap.size with h|h
  ·exact h
  ·simp[nu h]at h1
structure Env where
 ok:Nat->Prop
 ρ:Nat->Option (Nat×Nat)
inductive jr(φ:Nat->Nat)(E:Env)(r:Nat->Option dF)(w:World):Value->A->Prop
 |any (v:Value):jr φ E r w v .any
 |undef:jr φ E r w awV .undef
 |data (v:Value) (a:A) (h:iD φ w E.ok v a):jr φ E r w v a
 |DI (ad:Option Addr) (k z:Nat):jr φ E r w (.slice ad 0 0) (.tok k z [])
 |tok (b o cap k z:Nat) (xs:List A) (vs:List Value) (hc:xs.length<=cap) (h0:cap≠0) (hz:∀x∈xs,x.cells.length=z)
   (h:cW φ w E.ok vs (xs.flatMap A.cells)) (hv:cH w b o vs) (hr:fA z w b (o+cap*z)):
   jr φ E r w (.slice (ae ⟨b,o,ai⟩) xs.length cap) (.tok k z xs)
 |lA (v:Value) (q off n:Nat) (h:r q=ai):jr φ E r w v (.view q off n)
 |kP (ad:Option Addr) (q off:Nat) (R:dF) (h:r q=ae R) (hb:R.b=aw) (hn:off<=R.xs.length):jr φ E r w (.slice ad 0 0) (.view q off 0)
 |view (b o cap q off n:Nat) (R:dF) (h:r q=ae R) (hb:R.b=aw) (hn:off+n<=R.xs.length) (hc:n<=cap) (h0:cap≠0)
   (hρ:E.ρ q=ae (b,o)) (hr:fA R.z w b (o+(off+cap)*R.z)):jr φ E r w (.slice (ae ⟨b,o+off*R.z,ai⟩) n cap) (.view q off n)
 |Lx (v:Value) (q i c:Nat) (h:r q=ai):jr φ E r w v (.loc q i c)
 |loc (b o q i c:Nat) (R:dF) (h:r q=ae R) (hρ:E.ρ q=ae (b,o)):jr φ E r w (.pointer (ae ⟨b,o+i*R.z+c,ai⟩)) (.loc q i c)
inductive RV(φ:Nat->Nat)(E:Env)(r:Nat->Option dF)(w:World):Value->A->Prop
 |one (v:Value) (a:A) (h:jr φ E r w v a):RV φ E r w v a
 |sf (vs:List Value) (xs:List A) (h:fE (jr φ E r w) vs xs):RV φ E r w (.tuple vs.toArray) (.sf xs)
 |agg (vs:List Value) (xs:List A) (h:fE (jr φ E r w) vs xs):RV φ E r w (.agg vs.toArray) (.agg xs)
 |fn (f:Nat) (vs:List Value) (xs:List A) (h:fE (jr φ E r w) vs xs) (hn:∀x∈xs,pF x=aw):RV φ E r w (.func (.func (φ f)) #[] vs.toArray) (.fn f xs)
inductive Jh:Value->A->Nat->Nat->Prop
 |mk (ad:Addr) (n cap k z:Nat) (xs:List A) (h:cap≠0):Jh (.slice (ae ad) n cap) (.tok k z xs) k ad.block
inductive Tk:Value->A->Nat->Nat->Prop
 |one (v:Value) (a:A) (k b:Nat) (h:Jh v a k b):Tk v a k b
 |sf (vs:List Value) (xs:List A) (j k b:Nat) (v:Value) (a:A) (hv:vs[j]? =ae v) (ha:xs[j]? =ae a) (h:Jh v a k b):Tk (.tuple vs.toArray) (.sf xs) k b
 |agg (vs:List Value) (xs:List A) (j k b:Nat) (v:Value) (a:A) (hv:vs[j]? =ae v) (ha:xs[j]? =ae a) (h:Jh v a k b):Tk (.agg vs.toArray) (.agg xs) k b
inductive fg(φ:Nat->Nat)(E:Env)(r:Nat->Option dF)(w:World)(q c:Nat):Value->A->Prop
 |data (v:Value) (a:A) (h:iD φ w E.ok v a) (ha:∀cs,a≠ .agg cs):fg φ E r w q c v a
 |any (v:Value) (hv:(∀cs,v≠ .agg cs)/\(∀vs,v≠ .tuple vs)):fg φ E r w q c v .any
 |view (v:Value) (off n:Nat) (hc:c<1000) (h:jr φ E r w v (.view (sub q c) off n)) (hv:(∀cs,v≠ .agg cs)/\(∀vs,v≠ .tuple vs)):fg φ E r w q c v (.view (sub q c) off n)
inductive l9(φ:Nat->Nat)(E:Env)(r:Nat->Option dF)(w:World)(q:Nat):dF->Prop
 |empty (z:Nat) (h:E.ρ q=ai):l9 φ E r w q ⟨aw,z,[]⟩
 |sl (b o z:Nat) (xs:List A) (vs:List Value) (hρ:E.ρ q=ae (b,o)) (hz:∀x∈xs,x.cells.length=z)
   (h:cW φ w E.ok vs (xs.flatMap A.cells)) (hv:cH w b o vs) (hr:fA z w b (o+xs.length*z)):l9 φ E r w q ⟨aw,z,xs⟩
 |box (b o z:Nat) (x:A) (vs:List Value) (hρ:E.ρ q=ae (b,o)) (hz:x.cells.length=z) (hq:q<1000)
   (hl:vs.length=x.cells.length) (h:∀(c:Nat) (v:Value) (a:A),vs[c]? =ae v->x.cells[c]? =ae a->fg φ E r w q c v a)
   (hv:cH w b o vs) (hr:fA z w b (o+z)):l9 φ E r w q ⟨ar,z,[x]⟩
structure kU where
 blk:Nat->Prop
 K0:Nat->Prop
 pl:Nat->Option (Nat×Nat)
 lt:∀i p,pl i=ae p->i<1000
def Tv(w0:World)(L:kU)(b:Nat):Prop:=w0.heap.size<=b\/L.blk b
structure cI(φ:Nat->Nat)(w0:World)(L:kU)(E:Env)(st:St)(ev:Nat->Value)(w:World):Prop where
 iZ:∀i,RV φ E st.r w (ev i) (st.t i)
 roots:∀q R,st.r q=ae R->l9 φ E st.r w q R
 inj:∀q q' b o b' o',(st.r q).isSome->(st.r q').isSome->E.ρ q=ae (b,o)->E.ρ q'=ae (b',o')->q≠q'->b≠b'
 rz:∀q b o,(st.r q).isSome->E.ρ q=ae (b,o)->¬E.ok b/\Tv w0 L b/\b<w.heap.size
 tz:∀i k b,Tk (ev i) (st.t i) k b->(¬E.ok b/\Tv w0 L b/\b<w.heap.size)/\∀q b' o,(st.r q).isSome->E.ρ q=ae (b',o)->b'≠b
 td:∀i j k k' b b',Tk (ev i) (st.t i) k b->Tk (ev j) (st.t j) k' b'->k≠k'->b≠b'
 UP:∀b,E.ok b->b<w.heap.size
 grow:w0.heap.size<=w.heap.size
 frame:∀b,b<w0.heap.size->¬L.blk b->w.heap[b]? =w0.heap[b]?
 env:w.os=w0.os/\w.output=w0.output
 fr:∀b off,b<w0.heap.size->w.frozen? ⟨b,off,ai⟩=w0.frozen? ⟨b,off,ai⟩
 room:∀{z:Nat} b n,fA z w0 b n->fA z w b n
 Qr:∀i p,L.pl i=ae p->(st.r i).isSome->E.ρ i=ae p
 okU:∀b,L.K0 b->E.ok b
 okL:∀b,E.ok b->L.K0 b\/Tv w0 L b
structure lf(φ:Nat->Nat)(w0:World)(L:kU)(E:Env)(st:St)(a:Act)(w:World):Prop extends cI φ w0 L E st (λi=>a.eval (.tmp i)) w where
 yI:a.defers=[]
structure Env.Le(E E':Env)(w w':World):Prop where
 ρ:E'.ρ=E.ρ
 ok:∀b,E.ok b->E'.ok b
 new:∀b,E'.ok b->E.ok b\/(w.heap.size<=b/\b<w'.heap.size)
def Env.Le.refl(E:Env)(w w':World):E.Le E w w':=⟨rfl,λ_ h=>h,λ_ h=>.inl h⟩
section
variable {φ:Nat->Nat} {w0:World} {L:kU} {E E':Env} {st:St} {a:Act} {w w':World} {r:Nat->Option dF}
def jr.ext(hs:∀b,b<w.heap.size->w'.heap[b]? =w.heap[b]?)(hE:∀b,E.ok b->E'.ok b)(hρ:E'.ρ=E.ρ)(hz:∀b,E.ok b->b<w.heap.size){v:Value}{x:A} (h:jr φ E r w v x):jr φ E' r w' v x:=by have hm:∀{v:Value} {x:A},iD φ w E.ok v x->iD φ w' E'.ok v x:=λh=>h.mono (λb hb=>hs b (hz b hb)) hE;cases h with|any=>exact .any _|undef=>exact .undef|data _ _ h=>exact .data _ _ (hm h)|DI=>exact .DI _ _ _|tok b o cap k z xs vs hc h0 hzz h hv hr=>exact .tok b o cap k z xs vs hc h0 hzz (h.mono (λb hb=>hs b (hz b hb)) hE) (hv.of_block (hs _ hr.lt)) (hr.of_block (hs _ hr.lt))|lA _ q off n h=>exact .lA _ _ _ _ h|kP ad q off R h hb hn=>exact .kP _ _ _ R h hb hn|view b o cap q off n R h hb hn hc h0 hq hr=>exact .view b o cap q off n R h hb hn hc h0 (hρ▸hq) (hr.of_block (hs _ hr.lt))|Lx _ q i c h=>exact .Lx _ _ _ _ h|loc b o q i c R h hq=>exact .loc b o q i c R h (hρ▸hq)
def RV.imp{E E':Env}{r r':Nat->Option dF}{v:Value}{x:A}(h:RV φ E r w v x)(hi:∀v x,jr φ E r w v x->jr φ E' r' w' v x):RV φ E' r' w' v x:=by cases h with|one _ _ h=>exact .one _ _ (hi _ _ h)|sf vs xs h=>exact .sf vs xs (h.imp hi)|agg vs xs h=>exact .agg vs xs (h.imp hi)|fn f vs xs h hn=>exact .fn f vs xs (h.imp hi) hn
def fg.ext(hs:∀b,b<w.heap.size->w'.heap[b]? =w.heap[b]?)(hE:∀b,E.ok b->E'.ok b)(hρ:E'.ρ=E.ρ)(hz:∀b,E.ok b->b<w.heap.size){q c:Nat}{v:Value}{x:A} (h:fg φ E r w q c v x):fg φ E' r w' q c v x:=by cases h with|data _ h h'=>exact .data _ _ (h.mono (λb hb=>hs b (hz b hb)) hE) h'|any h=>exact .any _ h|view off n hc h h'=>exact .view _ _ _ hc (h.ext hs hE hρ hz) h'
def l9.ext(hs:∀b,b<w.heap.size->w'.heap[b]? =w.heap[b]?)(hE:∀b,E.ok b->E'.ok b)(hρ:E'.ρ=E.ρ)(hz:∀b,E.ok b->b<w.heap.size){q:Nat}{R:dF} (h:l9 φ E r w q R):l9 φ E' r w' q R:=by cases h with|empty z h=>exact .empty z (hρ▸h)|sl b o z xs vs hq hzz h hv hr=>exact .sl b o z xs vs (hρ▸hq) hzz (h.mono (λb hb=>hs b (hz b hb)) hE) (hv.of_block (hs _ hr.lt)) (hr.of_block (hs _ hr.lt))|box b o z x vs hq hzz hlt hl h hv hr=>exact .box b o z x vs (hρ▸hq) hzz hlt hl (λc v a hv' ha=>(h c v a hv' ha).ext hs hE hρ hz) (hv.of_block (hs _ hr.lt)) (hr.of_block (hs _ hr.lt))
def cI.ext{ev:Nat->Value}(h:cI φ w0 L E st ev w)(hw:Ext w w')(hE:E.Le E' w w'):cI φ w0 L E' st ev w':=by
 have nok:∀b,¬E.ok b->b<w.heap.size->¬E'.ok b:=λb h1 h2 h3=>(hE.new b h3).elim h1 (λh4=>by omega)
 exact{
  iZ:=λi=>(h.iZ i).imp λv x hx=>hx.ext hw.same hE.ok hE.ρ h.UP
  roots:=λq R hq=>(h.roots q R hq).ext hw.same hE.ok hE.ρ h.UP
  inj:=λq q' b o b' o' h1 h2 h3 h4=>h.inj q q' b o b' o' h1 h2 (hE.ρ▸h3) (hE.ρ▸h4)
  rz:=λq b o h1 h2=>by
   have:=h.rz q b o h1 (hE.ρ▸h2)
   exact⟨nok b this.1 this.2.2,this.2.1,bU this.2.2 hw.size⟩
  tz:=λi k b h1=>by
   have:=h.tz i k b h1
   exact⟨⟨nok b this.1.1 this.1.2.2,this.1.2.1,bU this.1.2.2 hw.size⟩,λq b' o h2 h3=>this.2 q b' o h2 (hE.ρ▸h3)⟩
  td:=h.td
  UP:=λb hb=>(hE.new b hb).elim (λh1=>bU (h.UP b h1) hw.size) (λh1=>h1.2)
  grow:=dZ h.grow hw.size
  frame:=λb hb hl=>(hw.same b (bU hb h.grow)).trans (h.frame b hb hl)
  env:=⟨hw.env.1.trans h.env.1,hw.env.2.trans h.env.2⟩
  fr:=λb off hb=>by
   rw[frozen?_block (hw.same b (bU hb h.grow))];exact h.fr b off hb
  room:=λb n hr=>(h.room b n hr).of_block (hw.same b (h.room b n hr).lt)
  Qr:=λi p h1 h2=>by rw[hE.ρ];exact h.Qr i p h1 h2
  okU:=λb hb=>hE.ok b (h.okU b hb)
  okL:=λb hb=>(hE.new b hb).elim (h.okL b) λh1=>.inr (.inl (dZ h.grow h1.1))}
def lf.ext(h:lf φ w0 L E st a w)(hw:Ext w w')(hE:E.Le E' w w'):lf φ w0 L E' st a w':=⟨h.tocI.ext hw hE,h.yI⟩
structure Nv(w0:World)(L:kU)(E:Env)(st:St)(a:Act)(w:World)(v:Value)(x:A):Prop where
 z:∀k b,Tk v x k b->(¬E.ok b/\Tv w0 L b/\b<w.heap.size)/\∀q b' o,(st.r q).isSome->E.ρ q=ae (b',o)->b'≠b
 d:∀i k k' b b',Tk v x k b->Tk (a.eval (.tmp i)) (st.t i) k' b'->k≠k'->b≠b'
 s:∀k k' b b',Tk v x k b->Tk v x k' b'->k≠k'->b≠b'
def Act.agr{a:Act}{d:Nat}{v:Value}(hd:d<a.tmps.size)(i:Nat):(a.put (ae d) v).eval (.tmp i)=if i=d then v else a.eval (.tmp i):=by
 simp only[ao4,Rk];by_cases h:i=d;·subst h;simp[hd]
 ·have:¬d=i:=λe=>h e.symm;simp[h,Array.getElem?_setIfInBounds_ne this]
def lf.put(h:lf φ w0 L E st a w){d:Nat}(hd:d<a.tmps.size){v:Value}{x:A}(hv:RV φ E st.r w v x)(ht:Nv w0 L E st a w v x): lf φ w0 L E (st.put (ae d) x) (a.put (ae d) v) w:=by
 have ev:∀i,(a.put (ae d) v).eval (.tmp i)=if i=d then v else a.eval (.tmp i):=Act.agr hd
 exact{
  iZ:=λi=>by
   rw[ev];simp only[St.put]
   by_cases hi:i=d
   ·simp only[hi,aC];exact hv
   ·simp only[hi,aH];exact h.iZ i
  roots:=h.roots,inj:=h.inj,rz:=h.rz
  tz:=λi k b=>by
   rw[ev];simp only[St.put]
   by_cases hi:i=d
   ·simp only[hi,aC];exact ht.z k b
   ·simp only[hi,aH];exact h.tz i k b
  td:=λi j k k' b b'=>by
   rw[ev,ev];simp only[St.put]
   by_cases hi:i=d<;>by_cases hj:j=d<;>simp only[hi,hj,aC,aH]
   ·exact ht.s k k' b b'
   ·exact ht.d j k k' b b'
   ·exactλh1 h2 h3 h4=>ht.d i k' k b' b h2 h1 (tN h3) h4.symm
   ·exact h.td i j k k' b b'
  UP:=h.UP,grow:=h.grow,frame:=h.frame
  yI:=h.yI,env:=h.env,fr:=h.fr,room:=h.room,Qr:=h.Qr,okU:=h.okU,okL:=h.okL}
end
end Go.Ab
namespace Go.Ab
def amj:Value->A->Bool
 |.bool a,.bool b=>a==b
 |.int k n,.int k' n'=>k==k'&&n==n'
 |.string s,.str l=>s.data.toList==l
 |.slice ai 0 0,.jo _=>ar
 |.slice ai 0 0,.sl _ []=>ar
 |.pointer ai,.Yw (.pointer ai)|.map ai,.Yw (.map ai)|.nilFunc,.Yw .nilFunc|.nilIface,.Yw .nilIface=>ar
 |_,_=>aw
def TA:List Value->List A->Bool
 | [],[]=>ar
 |v::vs,a::ab=>amj v a&&TA vs ab
 |_,_=>aw
def avo(v:Value)(a:A):Bool:=
 match v,a with
 |.agg vs,.agg cs=>TA vs.toList cs
 |.tuple vs,.undef=>vs.size==0
 |v,a=>amj v a
def bV(φ:Nat->Nat):Operand->bZ->Bool
 |.tmp t,.t i=>t==i
 |.const v,.c a=>avo v a
 |.func f,.c (.fn g [])=>φ g==f
 |_,_=>aw
section
variable {φ:Nat->Nat} {w0:World} {L:kU} {E:Env} {st:St} {a:Act} {w:World} {r:Nat->Option dF} {ok:Nat->Prop}
def ae1{v:Value}{x:A}(h:amj v x=ar):iD φ w ok v x/\∀cs,x≠ .agg cs:=by
 unfold amj at h
 split at h<;>first
  |(simp at h;done)
  |(refine⟨?_,λcs h=>by simp at h⟩
    first
    |(simp at h;subst h;exact .bool _)
    |(simp at h;obtain⟨rfl,rfl⟩:=h;exact .int _ _)
    |(simp only[b9]at h;subst h;exact .str _)
    |exact .jo _
    |exact .No _ _ _
    |exact .Yw _ rfl)
def wP:∀{vs:List Value} {ab:List A},TA vs ab=ar->cW φ w ok vs ab
 | [],[],_=>.nil
 |v::vs,a::ab,h=>by
  simp only[TA,aj]at h
  exact .cons _ _ _ _ (ae1 h.1).1 (wP h.2)
 | [],_::_,h=>by simp[TA]at h
 |_::_,[],h=>by simp[TA]at h
def aqb{v:Value}{x:A}(h:avo v x=ar):iD φ w ok v x\/(v=awV/\x=.undef):=by
 unfold avo at h;split at h;·rename_i vs cs;exact .inl (by have:=iD.agg (φ:=φ) (w:=w) (ok:=ok) _ _ (wP h);simpa using this)
 ·rename_i vs;simp at h;exact .inr ⟨by rw[h];rfl,rfl⟩
 ·exact .inl (ae1 h).1
def Jh.nW{v:Value}{x:A}{k b:Nat}(h:iD φ w ok v x):¬Jh v x k b:=by intro ht;cases ht;cases h
def Tk.nW{v:Value}{x:A}{k b:Nat}(h:iD φ w ok v x):¬Tk v x k b:=by intro ht;cases ht with|one _ _ _ _ h1=>exact Jh.nW h h1|sf=>cases h|agg vs xs j k b v a hv ha h1=>generalize hu:qj vs.toArray=u at h;cases h with|agg us cs h=>simp at hu;subst hu;obtain⟨a',ha',hr⟩:=h.aqs hv;rw[ha]at ha';cases ha';exact Jh.nW hr h1
def DX(st:St)(a:Act)(v:Value)(x:A):Prop:=∀k b,Tk v x k b->∃i,Tk (a.eval (.tmp i)) (st.t i) k b
def DX.rep{v:Value}{x:A}(h:iD φ w ok v x):DX st a v x:=λk b ht=>(Tk.nW h ht).elim
def DX.tok(h:lf φ w0 L E st a w){v:Value}{x:A}(hc:DX st a v x):Nv w0 L E st a w v x where
 z:=λk b ht=>by obtain⟨i,hi⟩:=hc k b ht;exact h.tz i k b hi
 d:=λi k k' b b' ht ht'=>by obtain⟨j,hj⟩:=hc k b ht;exact h.td j i k k' b b' hj ht'
 s:=λk k' b b' ht ht'=>by obtain⟨i,hi⟩:=hc k b ht;obtain⟨j,hj⟩:=hc k' b' ht';exact h.td i j k k' b b' hi hj
def dz(h:lf φ w0 L E st a w){o:Operand}{x:bZ}(hx:bV φ o x=ar):RV φ E st.r w (a.eval o) (x.v st)/\DX st a (a.eval o) (x.v st):=by
 unfold bV at hx;split at hx;·rename_i t i;simp at hx;subst hx;exact⟨h.iZ t,λk b ht=>⟨t,ht⟩⟩
 ·rename_i v c;rcases aqb (φ:=φ) (w:=w) (ok:=E.ok) hx with hr|⟨rfl,rfl⟩
  ·exact⟨.one _ _ (.data _ _ hr),.rep hr⟩
  ·refine⟨.one _ _ .undef,λk b ht=> ?_⟩;cases ht with|one _ _ _ _ h1=>cases h1
 ·rename_i f g;simp at hx;subst hx;have hr:iD φ w E.ok (.func (.func (φ g)) #[] #[]) (.fn g []):=.fn g [] [] .nil;exact⟨.one _ _ (.data _ _ hr),.rep hr⟩
 ·cases hx
def RV.lL{v:Value}{k:IntKind}{n:Int}(h:RV φ E r w v (.int k n)):v=.int k n:=by
 cases h with
 |one _ _ h=>cases h with
  |data _ _ h=>cases h;rfl
def RV.Jj{v:Value}{b:Bool}(h:RV φ E r w v (.bool b)):v=.bool b:=by
 cases h with
 |one _ _ h=>cases h with
  |data _ _ h=>cases h;rfl
def RV.HT{v:Value}{s:List UInt8}(h:RV φ E r w v (.str s)):v=.string ⟨s.toArray⟩:=by
 cases h with
 |one _ _ h=>cases h with
  |data _ _ h=>cases h;rfl
def RV.aoO{v:Value}(h:RV φ E r w v .undef):v=awV:=by
 cases h with
 |one _ _ h=>cases h with
  |undef=>rfl
  |data _ _ h=>cases h
def RV.xK{v:Value}{cs:List A}(h:RV φ E r w v (.agg cs)):∃vs:List Value,v=.agg vs.toArray/\fE (jr φ E r w) vs cs:=by
 cases h with
 |one _ _ h=>cases h with
  |data _ _ h=>cases h with
   |agg vs cs h=>exact⟨vs,rfl,(fE.mT h).imp λv a h=>.data _ _ h⟩
 |agg vs xs h=>exact⟨vs,rfl,h⟩
def RV.ahr{v:Value}{cs:List A}(h:RV φ E r w v (.sf cs)):∃vs:List Value,v=.tuple vs.toArray/\fE (jr φ E r w) vs cs:=by
 cases h with
 |one _ _ h=>cases h with
  |data _ _ h=>cases h
 |sf vs xs h=>exact⟨vs,rfl,h⟩
def RV.aa1{v:Value}{f:Nat}{cs:List A}(h:RV φ E r w v (.fn f cs)):∃vs:List Value,v=.func (.func (φ f)) #[] vs.toArray/\fE (jr φ E r w) vs cs:=by
 cases h with
 |one _ _ h=>cases h with
  |data _ _ h=>cases h with
   |fn f caps vs h=>exact⟨vs,rfl,(fE.mT h).imp λv a h=>.data _ _ h⟩
 |fn f vs xs h _=>exact⟨vs,rfl,h⟩
def iD.zP{v:Value}{x:A}(h:iD φ w ok v x):pF x=aw:=by cases h<;>rfl
def RV.ags{v:Value}{f:Nat}{cs:List A}(h:RV φ E r w v (.fn f cs)):∃vs:List Value,v=.func (.func (φ f)) #[] vs.toArray/\fE (jr φ E r w) vs cs/\∀x∈cs,pF x=aw:=by
 cases h with
 |one _ _ h=>cases h with
  |data _ _ h=>cases h with
   |fn f caps vs h=>exact⟨vs,rfl,(fE.mT h).imp λv a h=>.data _ _ h,λx hx=>by
     obtain⟨j,hj⟩:=ff.1 hx
     obtain⟨v,hv,hr⟩:=h.get hj
     exact hr.zP⟩
 |fn f vs xs h hn=>exact⟨vs,rfl,h,hn⟩
def RV.zm{v:Value}{q off n:Nat}(h:RV φ E r w v (.view q off n)):jr φ E r w v (.view q off n):=by cases h with|one _ _ h=>exact h
def RV.Dl{v:Value}{q i c:Nat}(h:RV φ E r w v (.loc q i c)):jr φ E r w v (.loc q i c):=by cases h with|one _ _ h=>exact h
def RV.PL{v:Value}{k z:Nat}{xs:List A}(h:RV φ E r w v (.tok k z xs)):jr φ E r w v (.tok k z xs):=by cases h with|one _ _ h=>exact h
def RV.acE{v:Value}{z:Nat}{xs:List A}(h:RV φ E r w v (.sl z xs)):iD φ w E.ok v (.sl z xs):=by
 cases h with
 |one _ _ h=>cases h with
  |data _ _ h=>exact h
def RV.aah{v:Value}{cs:List A}{c:Nat}(h:RV φ E r w v (.ptr cs c)):iD φ w E.ok v (.ptr cs c):=by
 cases h with
 |one _ _ h=>cases h with
  |data _ _ h=>exact h
def RV.JY{v:Value}{z:Nat}(h:RV φ E r w v (.jo z)):v=.slice ai 0 0:=by
 cases h with
 |one _ _ h=>cases h with
  |data _ _ h=>cases h;rfl
def DX.scalar{v:Value}{x:A}(h:∀k b,¬Tk v x k b):DX st a v x:=λk b ht=>(h k b ht).elim
def Un{v:Value}{q i c:Nat}(j b:Nat):¬Tk v (.loc q i c) j b:=by intro h;cases h with|one _ _ _ _ h=>cases h
def Ar{v:Value}{q i c:Nat}(j b:Nat):¬Tk v (.view q i c) j b:=by intro h;cases h with|one _ _ _ _ h=>cases h
def ate{v:Value}{f:Nat}{cs:List A}(j b:Nat):¬Tk v (.fn f cs) j b:=by intro h;cases h with|one _ _ _ _ h=>cases h
end
end Go.Ab
namespace Go.Ab
section
variable {P:Program} {φ:Nat->Nat} {w0:World} {L:kU} {E:Env} {st:St} {a:Act} {w:World}
def QR(P:Program)(φ:Nat->Nat)(E:Env)(st:St)(a:Act)(w:World)(S:Sem Value)(x:A):Prop:=
 ∃v,S.run P w=.ok v w/\RV φ E st.r w v x/\DX st a v x
def QR.pure{v:Value}{x:A}(h:RV φ E st.r w v x/\DX st a v x):QR P φ E st a w (I4 v) x:=⟨v,rfl,h.1,h.2⟩
def arF{c p q:Operand}{c' p' q':bZ}(h:lf φ w0 L E st a w)(hc:bV φ c c'=ar)(hp:bV φ p p'=ar)(hq:bV φ q q'=ar) {t:Bool} (ht:c'.v st=.bool t):QR P φ E st a w (do I4 (if<-asBool (a.eval c)then a.eval p else a.eval q)) (if t then p'.v st else q'.v st):=by
 have e:=(ht▸(dz h hc).1).Jj;refine⟨if t then a.eval p else a.eval q,by simp[e,asBool],?_⟩;cases t;·exact dz h hq
 ·exact dz h hp
def World.cell?_add{w:World}{b o n:Nat}:w.cell? (Addr.add ⟨b,o,ai⟩ n)=w.cell? ⟨b,o+n,ai⟩:=by rw[FZ]
def ZI{t:TypeId}{d:TypeDesc}(ht:P.underlying t=ae d)(hs:∀fs,d≠ .struct fs)(ha:∀n e,d≠ .array n e){ad:Addr}{v:Value} (hv:w.cell? ad=ae v):(loadVar t ad).run P w=.ok v w:=by
 have hi:(isAgg t).run P w=.ok aw w:=by simp only[isAgg,underlying,dp,run_program,bP,ht];cases d<;>first|rfl|exact absurd rfl (hs _)|exact absurd rfl (ha _ _)
 simp only[loadVar,dp,hi,bP];simp[hv]
def ZH{t:TypeId}{d:TypeDesc}{i:TypeInfo}(ht:P.underlying t=ae d)(hd:(∃fs,d=.struct fs)\/(∃n e,d=.array n e))(hi:P.info? t=ae i) {b o:Nat} {vs:List Value} (hl:vs.length=i.size) (hv:cH w b o vs):(loadVar t ⟨b,o,ai⟩).run P w=.ok (.agg vs.toArray) w:=by
 have hg:(isAgg t).run P w=.ok ar w:=by simp only[isAgg,underlying,dp,run_program,bP,ht];rcases hd with ⟨fs,rfl⟩|⟨n,e,rfl⟩<;>rfl
 have hc:=run_loadCells_list (P:=P) (w:=w) ⟨b,o,ai⟩ vs (λj v hj=>by rw[World.cell?_add];exact hv j v hj);simp only[loadVar,dp,hg,bP,aC,sizeOf,typeInfo,run_program,hi,jb,<-hl,hc]
def QU(P:Program)(t:TypeId)(n:Option Nat):Bool:=
 match P.underlying t with
 |some (.struct _)|some (.array _ _)=>(match P.info? t with|some i=>n==ae i.size|none=>aw)
 |some _=>n==ai
 |none=>aw
def HI{t:TypeId}{n:Option Nat}(hn:QU P t n=ar){p:Value->A->Prop}{b o c:Nat}{vs:List Value}{cs:List A}(hl:fE p vs cs)(hv:cH w b o vs) {x:A} (hx:ie cs c n=ae x):∃v,(loadVar t ⟨b,o+c,ai⟩).run P w=.ok v w/\ ((n=ai/\∃y,cs[c]? =ae y/\x=y/\p v y)\/ (∃m us,n=ae m/\v=.agg us/\us.toList=(vs.drop c).take m/\x=.agg (((cs.drop c).take m).map qz)/\c+m<=cs.length)):=by
 unfold QU at hn
 cases n with
 |none=>
  simp only[ie]at hx;obtain⟨v,hv1,hp⟩:=hl.get hx;have hcell:=hv c v hv1;split at hn;·rename_i d hd;split at hn<;>simp at hn
  ·rename_i d hd;split at hn<;>simp at hn
  ·rename_i d h1 h2 hd;exact⟨v,ZI hd (λfs e=>h1 fs e) (λn e e'=>h2 n e e') hcell,.inl ⟨rfl,x,hx,rfl,hp⟩⟩
  ·cases hn
 |some m=>
  simp only[ie]at hx;split at hx
  ·rename_i hcm;simp only[aq]at hx
   have key:∀d i,P.underlying t=ae d->P.info? t=ae i->(∃fs,d=.struct fs)\/(∃n e,d=.array n e)->m=i.size->
    ∃v,(loadVar t ⟨b,o+c,ai⟩).run P w=.ok v w/\((ae m=ai/\∃y,cs[c]? =ae y/\x=y/\p v y)\/
     (∃m' us,ae m=ae m'/\v=.agg us/\us.toList=(vs.drop c).take m'/\x=.agg (((cs.drop c).take m').map qz)/\c+m'<=cs.length)):=by
    intro d i hd hi hk hm
    refine⟨_,ZH (vs:=(vs.drop c).take m) hd hk hi (by simp[hl.1];omega) ((hv.drop c).take m),.inr ⟨m,_,rfl,rfl,by simp,hx.symm,hcm⟩⟩
   split at hn;(·rename_i fs hd;split at hn;(·rename_i i hi;simp at hn;exact key _ i hd hi (.inl ⟨_,rfl⟩) hn);·cases hn);(·rename_i len e hd;split at hn;(·rename_i i hi;simp at hn;exact key _ i hd hi (.inr ⟨_,_,rfl⟩) hn);·cases hn);(·simp at hn);·cases hn
  ·cases hx
def iD.norm{ok:Nat->Prop}{v:Value}{x:A}(h:iD φ w ok v x):iD φ w ok v (qz x):=by cases h with|jo z=>exact .No _ _ _|_=>simp only[qz];constructor<;>assumption
def cW.norm{ok:Nat->Prop}:∀{vs:List Value} {xs:List A},cW φ w ok vs xs->cW φ w ok vs (xs.map qz)
 |_,_,.nil=>.nil
 |_,_,.cons v a vs ab h t=>.cons _ _ _ _ h.norm t.norm
def fg.rv{r:Nat->Option dF}{q c:Nat}{v:Value}{x:A}(h:fg φ E r w q c v x):jr φ E r w v x:=by cases h with|data _ h=>exact .data _ _ h|any=>exact .any _|view off n _ h _=>exact h
def fg.axm{r:Nat->Option dF}{q c:Nat}{v:Value}{x:A}(h:fg φ E r w q c v x)(k b:Nat):¬Jh v x k b:=by cases h with|data _ h=>exact Jh.nW h|any=>intro h;cases h|view off n _ h _=>intro h;cases h
def jr.norm{r:Nat->Option dF}{v:Value}{x:A}(h:jr φ E r w v x):jr φ E r w v (qz x):=by cases x with|jo z=>(cases h with|data _ _ h=>exact .data _ _ h.norm)|_=>exact h
def fE.NA{p:Value->A->Prop}{vs:List Value}{cs:List A}(h:fE p vs cs)(c n:Nat):fE p ((vs.drop c).take n) ((cs.drop c).take n):=
 ⟨by simp[h.1],λj v a hv ha=>by
   rw[oB]at hv ha
   split at hv
   ·rename_i hj;rw[aJ hj]at ha
    exact h.2 (c+j) v a (by simpa using hv) (by simpa using ha)
   ·cases hv⟩
def fE.map{p q:Value->A->Prop}{f:A->A}{vs:List Value}{cs:List A}(h:fE p vs cs)(hf:∀v a,p v a->q v (f a)):fE q vs (cs.map f):=
 ⟨by simp[h.1],λj v a hv ha=>by
   simp only[bX,au]at ha
   obtain⟨b,hb,rfl⟩:=ha
   exact hf _ _ (h.2 j v b hv hb)⟩
def ap2{vs:List Value}{cs:List A}(h:∀(j:Nat) v x,vs[j]? =ae v->cs[j]? =ae x->∀k b,¬Jh v x k b)(k b:Nat):¬Tk (.agg vs.toArray) (.agg cs) k b:=by intro ht;generalize hu:qj vs.toArray=u at ht;cases ht with|one _ _ _ _ h1=>cases h1|agg us xs j k b v x hv hx h1=>simp at hu;subst hu;exact h j v x hv hx k b h1
def arD{t:TypeId}{n:Option Nat}{p:Operand}{p':bZ}(h:lf φ w0 L E st a w)(hp:bV φ p p'=ar)(hn:QU P t n=ar){x:A}
 (hx:(match p'.v st with
  |.loc q i c=>(st.r q).bind λR=>(R.xs[i]?).bind λx=>ie x.cells c n
  |.ptr cs c=>ie cs c n
  |_=>ai)=ae x):QR P φ E st a w (akh t (a.eval p)) x:=by
 have hv:=(dz h hp).1
 split at hx
 ·rename_i q i c e
  rw[e]at hv
  have h1:=hv.Dl
  obtain⟨R,hR,hx⟩:=ak.1 hx
  obtain⟨y,hy,hx⟩:=ak.1 hx
  generalize a.eval p=v at h1
  cases h1 with
  |data _ _ h1=>cases h1
  |Lx _ _ _ _ h1=>rw[h1]at hR;cases hR
  |loc b o _ _ _ R' h1 hρ=>
   rw[h1]at hR;cases hR
   have hel:∃us,fE (λv x=>jr φ E st.r w v x/\∀k b,¬Jh v x k b) us y.cells/\cH w b (o+i*R.z) us:=by have hro:=h.roots q R h1;cases hro with|empty z h2=>simp at hy|sl b' o' z xs vs hρ' hz hr hc hm=>rw[hρ]at hρ';cases hρ';simp only at hy;refine⟨(vs.drop (i*z)).take y.cells.length,?_,(hc.drop _).take _⟩;(have e1:y.cells=((xs.flatMap A.cells).drop (i*z)).take y.cells.length:=by rw[<-nh hz,bf (iL.1 hy).1,(iL.1 hy).2,cg,List.take_left]);have:=(fE.mT hr).NA (i*z) y.cells.length;rw[<-e1]at this;exact this.imp λv x hr=>⟨.data _ _ hr,λk b=>Jh.nW hr⟩|box b' o' z x' vs hρ' hz hlt hl hcell hc hm=>rw[hρ]at hρ';cases hρ';simp only at hy;cases i with|succ i=>simp at hy|zero=>simp at hy;subst hy;refine⟨vs,⟨hl,λj v a hv ha=>⟨(hcell j v a hv ha).rv,(hcell j v a hv ha).axm⟩⟩,by simpa using hc⟩
   obtain⟨us,hu,hc⟩:=hel
   obtain⟨v,hrun,hcase⟩:=HI hn hu hc hx
   refine⟨v,by simp[akh,Ta,hrun],?_⟩
   rcases hcase with ⟨rfl,y',hy',rfl,hp1,hp2⟩|⟨m,us',rfl,rfl,hus,rfl,hcm⟩
   ·exact⟨.one _ _ hp1,.scalar λk b ht=>by
     cases ht with
     |one _ _ _ _ h1=>exact hp2 _ _ h1
     |sf=>cases hp1 with|data _ _ h=>cases h
     |agg vs xs j k b v' a' hv' ha' h1=>
      generalize hg:qj vs.toArray=g at hp1
      cases hp1 with
      |data _ _ hr=>
       subst hg
       exact Tk.nW hr (.agg vs xs j k b v' a' hv' ha' h1)⟩
   ·obtain⟨us',rfl⟩:∃l:List Value,us'=l.toArray:=⟨us'.toList,by simp⟩
    simp only at hus
    have h2:=hu.NA c m
    rw[<-hus]at h2
    refine⟨.agg _ _ (h2.map λv x hh=>hh.1.norm),.scalar (ap2 λj v x hv hx k b h1=> ?_)⟩
    simp only[bX,au]at hx
    obtain⟨x',hx',rfl⟩:=hx
    have h3:=h2.2 j v x' hv hx'
    refine h3.2 k b ?_
    cases x'<;>first|exact h1|(simp only[qz]at h1;cases h1)
 ·rename_i cs c e
  rw[e]at hv
  have h1:=hv.aah
  generalize a.eval p=v at h1
  cases h1 with
  |ptr b o _ _ vs hb hr hc=>
   obtain⟨v,hrun,hcase⟩:=HI hn (fE.mT hr) hc hx
   refine⟨v,by simp[akh,Ta,hrun],?_⟩
   rcases hcase with ⟨rfl,y',hy',rfl,hp1⟩|⟨m,us',rfl,rfl,hus,rfl,hcm⟩
   ·exact⟨.one _ _ (.data _ _ hp1),.rep hp1⟩
   ·obtain⟨us',rfl⟩:∃l:List Value,us'=l.toArray:=⟨us'.toList,by simp⟩
    simp only at hus
    subst hus
    have hrep:iD φ w E.ok (.agg ((vs.drop c).take m).toArray) (.agg (((cs.drop c).take m).map qz)):=.agg _ _ ((hr.drop c).take m).norm
    exact⟨.one _ _ (.data _ _ hrep),.rep hrep⟩
 ·cases hx
end
end Go.Ab
namespace Go.Ab
section
variable {P:Program} {φ:Nat->Nat} {w0:World} {L:kU} {E:Env} {st:St} {a:Act} {w:World}
def fQ{S:Sem Value}{v:Value}{x:A}(hs:S.run P w=.ok v w)(hr:iD φ w E.ok v x):QR P φ E st a w S x:=
 ⟨v,hs,.one _ _ (.data _ _ hr),.rep hr⟩
def aou{op:BinOp}{k:IntKind}{m n:Int}{x:A}(h:aqw op k m n=ae x):∃v,((binOp op 0 (.int k m) (.int k n)).run P w=.ok v w)/\iD φ w E.ok v x:=by
 cases op<;>simp only[aqw]at h<;>first
  |(cases h;done)
  |(simp only[aq]at h;subst h
    exact⟨_,by simp only[binOp,Ly,not_true,aH];rfl,by first|exact .int _ _|exact .bool _⟩)
  |(split at h
    ·cases h
    ·rename_i h0
     simp only[aq]at h;subst h
     exact⟨_,by simp only[binOp,Ly,not_true,aH,Op.intDiv,h0];rfl,.int _ _⟩)
def aaF{op:BinOp}{t:TypeId}{k k':IntKind}{m n:Int}:binOp op t (.int k m) (.int k' n)=binOp op 0 (.int k m) (.int k' n):=by cases op<;>rfl
def ajr{op:BinOp}{t:TypeId}{k k':IntKind}{m n:Int}{x:A}(hs:PA op=ar)(h:acC op k m n=ae x): ∃v,((binOp op t (.int k m) (.int k' n)).run P w=.ok v w)/\iD φ w E.ok v x:=by
 unfold acC at h;split at h;·cases h
 ·rename_i h0;cases op<;>simp[PA]at hs<;>(simp only[aq]at h;subst h;exact⟨_,by simp only[binOp,Op.shift,h0,aH];rfl,.int _ _⟩)
def toList_mk(s:List UInt8):(mY s.toArray).toList=s:=by rw[ByteArray.toList_eq]
def aov{op:BinOp}{t:TypeId}{m n:List UInt8}{x:A}(h:arl op m n=ae x): ∃v,((binOp op t (.string ⟨m.toArray⟩) (.string ⟨n.toArray⟩)).run P w=.ok v w)/\iD φ w E.ok v x:=by
 have e1:=toList_mk m;have e2:=toList_mk n
 cases op<;>simp only[arl]at h<;>first
  |(cases h;done)
  |(simp only[aq]at h;subst h
    exact⟨_,by simp only[binOp,Op.stringOp,e1,e2];rfl,.bool _⟩)
  |(split at h
    ·rename_i h0
     simp only[aq]at h;subst h
     refine⟨.string ⟨(m++n).toArray⟩,?_,.str _⟩
     have h1:¬((((mY m.toArray).size+(mY n.toArray).size:Nat):Int)>ag.max):=by
      simp only[Yt,Nu,IntKind.max_i64]
      simp only[bj]at h0
      omega
     have h2:(mY m.toArray)++(mY n.toArray)=⟨(m++n).toArray⟩:=by
      apply Ps;simp
     simp only[binOp,Op.stringOp,h1,aH,h2];rfl
    ·cases h)
def atK{op:BinOp}{t u:TypeId}{x y:Operand}{x' y':bZ}(h:lf φ w0 L E st a w)(hx:bV φ x x'=ar)(hy:bV φ y y'=ar){r:A} (hr:agi op (x'.v st) (y'.v st)=ae r):QR P φ E st a w (do eqGuard op t x y (a.eval x) (a.eval y);binOp op t (a.eval x) (a.eval y)) r:=by
 have vx:=(dz h hx).1;have vy:=(dz h hy).1;unfold agi at hr;split at hr
 ·rename_i k m k' n e1 e2;rw[e1]at vx;rw[e2]at vy;have ex:=vx.lL;have ey:=vy.lL;have hg:eqGuard op t x y (.int k m) (.int k' n)=I4 ():=eqGuard_at_int ..;rw[ex,ey,hg];split at hr;·rename_i hs;obtain⟨v,h1,h2⟩:=ajr (P:=P) (φ:=φ) (E:=E) (w:=w) (t:=t) (k':=k') hs hr;exact fQ (by simpa using h1) h2
  ·split at hr;(·rename_i hk;subst hk;obtain⟨v,h1,h2⟩:=aou (P:=P) (φ:=φ) (E:=E) (w:=w) hr;exact fQ (by simp only[dp,jb,bP];rw[aaF];exact h1) h2);·cases hr
 ·rename_i m n e1 e2;rw[e1]at vx;rw[e2]at vy;have ex:=vx.HT;have ey:=vy.HT;have hg:eqGuard op t x y (.string ⟨m.toArray⟩) (.string ⟨n.toArray⟩)=I4 ():=eqGuard_at_string ..;rw[ex,ey,hg];obtain⟨v,h1,h2⟩:=aov (P:=P) (φ:=φ) (E:=E) (w:=w) (t:=t) hr;exact fQ (by simpa using h1) h2
 ·cases hr
def avD(P:Program)(t:TypeId):Option Kd:=
 match P.underlying t with
 |some .bool=>ae .b
 |some (.int _)=>ae .i
 |some .string=>ae .s
 |_=>ai
def avC:Option Kd->Kd->Bool
 |some .b,.b|some .i,.i|some .s,.s=>ar
 |_,_=>aw
def Jq(P:Program):Nat->List Field->List Kd->Bool
 |_,[],[]=>ar
 |i,f::fs,k::ks=>f.name != "_" &&f.offset==i&&avC (avD P f.type) k&&Jq P (i+1) fs ks
 |_,_,_=>aw
def akx(P:Program)(t:TypeId)(ks:List Kd):Bool:=
 match P.underlying t with
 |some (.struct fs)=>Jq P 0 fs.toList ks&& !P.stoodInHeld t&& !P.eqGuardType P.depth t
 |_=>aw
def avE{t:TypeId}{k:Kd}(h:avC (avD P t) k=ar): (k=.b/\P.underlying t=ae .bool)\/(k=.i/\∃j,P.underlying t=ae (.int j))\/(k=.s/\P.underlying t=ae .string):=by
 unfold avD at h;split at h<;>cases k<;>simp[avC]at h
 ·rename_i e;exact .inl ⟨rfl,e⟩
 ·rename_i j e;exact .inr (.inl ⟨rfl,j,e⟩)
 ·rename_i e;exact .inr (.inr ⟨rfl,e⟩)
def LQ{t:TypeId}{d:TypeDesc}(ht:P.underlying t=ae d)(hs:∀fs,d≠ .struct fs)(ha:∀n e,d≠ .array n e){vs:List Value}{i:Nat}{v:Value} (hv:vs[i]? =ae v):(part t vs.toArray i).run P w=.ok v w:=by
 have hi:(isAgg t).run P w=.ok aw w:=by simp only[isAgg,underlying,dp,run_program,bP,ht];cases d<;>first|rfl|exact absurd rfl (hs _)|exact absurd rfl (ha _ _)
 simp only[part,dp,hi,bP];simp[hv]
def ahd{r:Nat->Option dF}{d:Nat}{xs ys:List Value}{cs ds:List A}(hx:fE (jr φ E r w) xs cs)(hy:fE (jr φ E r w) ys ds): ∀(fs:List Field) (ks:List Kd) (i:Nat) (e:Bool),Jq P i fs ks=ar->xP ks (cs.drop i) (ds.drop i)=ae e-> (adB (d+1) xs.toArray ys.toArray fs).run P w=.ok e w:=by intro fs;induction fs with|nil=>(intro ks i e hf he;cases ks with|nil=>(cases h1:cs.drop i<;>cases h2:ds.drop i<;>simp[h1,h2,xP]at he);subst he;simp[adB]|cons k ks=>simp[Jq]at hf)|cons f fs ih=>intro ks i e hf he;cases ks with|nil=>simp[Jq]at hf|cons k ks=>simp only[Jq,aj,ja,b9]at hf;obtain⟨⟨⟨hn,ho⟩,hk⟩,hf⟩:=hf;cases h1:cs.drop i with|nil=>simp[h1,xP]at he|cons p cs'=>cases h2:ds.drop i with|nil=>simp[h1,h2,xP]at he|cons q ds'=>simp only[h1,h2,xP]at he;obtain⟨b,hb,he⟩:=ak.1 he;obtain⟨b',hb',rfl⟩:=au.1 he;(have e1:cs.drop (i+1)=cs':=by rw[<-al9,h1];rfl);(have e2:ds.drop (i+1)=ds':=by rw[<-al9,h2];rfl);(have hci:cs[i]? =ae p:=by have:=congrArg (·[0]?) h1;simpa using this);(have hdi:ds[i]? =ae q:=by have:=congrArg (·[0]?) h2;simpa using this);obtain⟨u,hu,ru⟩:=hx.get hci;obtain⟨v,hv,rv⟩:=hy.get hdi;have hrec:=ih ks (i+1) b' hf (by rw[e1,e2];exact hb');(have key:∀dd,P.underlying f.type=ae dd->(∀fs,dd≠ .struct fs)->(∀n e,dd≠ .array n e)->(Op.equalIn (d+1) f.type u v).run P w=.ok b w-> (adB (d+1) xs.toArray ys.toArray (f::fs)).run P w=.ok (b&&b') w:=by intro dd hdd hs ha heq;have p1:=LQ (w:=w) hdd hs ha hu;have p2:=LQ (w:=w) hdd hs ha hv;simp only[adB,hn,Ly,not_false_iff,aC,ho,dp,p1,p2,heq,bP];cases b;(·simp);·simp only[aY,ao,aH,hrec,jD]);(rcases avE hk with ⟨rfl,hd⟩|⟨rfl,j,hd⟩|⟨rfl,hd⟩);(·(cases p<;>cases q<;>simp[VN]at hb);subst hb;cases ru with|data _ _ ru=>cases rv with|data _ _ rv=>cases ru;cases rv;exact key _ hd (by simp) (by simp) (run_equalIn_bool' _ _ _ _ _ hd));(·(cases p<;>cases q<;>simp[VN]at hb);obtain⟨rfl,rfl⟩:=hb;cases ru with|data _ _ ru=>cases rv with|data _ _ rv=>cases ru;cases rv;exact key _ hd (by simp) (by simp) (run_equalIn_int _ _ _ _ _ _ _ hd));·(cases p<;>cases q<;>simp[VN]at hb);subst hb;cases ru with|data _ _ ru=>cases rv with|data _ _ rv=>cases ru;cases rv;exact key _ hd (by simp) (by simp) (by rw[run_equalIn_string _ _ _ _ _ hd,toList_mk,toList_mk])
def atN{neq:Bool}{ks:List Kd}{op:BinOp}{t:TypeId}{x y:Operand}{x' y':bZ}(h:lf φ w0 L E st a w)(hop:op=if neq then .neq else .eql)
 (hx:bV φ x x'=ar) (hy:bV φ y y'=ar) (hk:akx P t ks=ar) {r:A}
 (hr:(match x'.v st,y'.v st with
  |.agg a,.agg b=>(xP ks a b).map λe=>A.bool (if neq then !e else e)
  |_,_=>ai)=ae r):
 QR P φ E st a w (do eqGuard op t x y (a.eval x) (a.eval y);binOp op t (a.eval x) (a.eval y)) r:=by
 have vx:=(dz h hx).1
 have vy:=(dz h hy).1
 split at hr
 ·rename_i cs ds e1 e2
  rw[e1]at vx;rw[e2]at vy
  obtain⟨e,he,rfl⟩:=au.1 hr
  obtain⟨xs,ex,hxs⟩:=vx.xK
  obtain⟨ys,ey,hys⟩:=vy.xK
  rw[ex,ey]
  unfold akx at hk
  split at hk
  ·rename_i fs hfs
   simp only[aj,cn]at hk
   obtain⟨⟨hk1,hk2⟩,hk3⟩:=hk
   have hfo:P.fieldsOf t=fs:=by simp[Program.fieldsOf,hfs]
   have hrun:(Op.equalIn 10000 t (.agg xs.toArray) (.agg ys.toArray)).run P w=.ok e w:=by rw[run_equalIn_struct w 9999 t _ _ (by rw[hfo];exact hfs) hk2,hfo];exact ahd (d:=9998) hxs hys fs.toList ks 0 e hk1 he
   refine fQ (v:=.bool (if neq then !e else e)) ?_ (.bool _)
   subst hop
   cases neq
   ·simp only[dp,run_eqGuard_agg w _ t x y _ _ hk3,bP,ao,aH,run_eql_struct,hrun]
   ·simp only[dp,run_eqGuard_agg w _ t x y _ _ hk3,bP,aC,run_neq_struct,hrun]
  ·cases hk
 ·cases hr
def atM{neq:Bool}{op:BinOp}{t:TypeId}{x y:Operand}{x' y':bZ}(h:lf φ w0 L E st a w)(hop:op=if neq then .neq else .eql) (hx:bV φ x x'=ar) (hy:bV φ y y'=ar) (ht:P.underlying t=ae .bool) {r:A} (hr:(match x'.v st,y'.v st with|.bool a,.bool b=>ae (A.bool (if neq then !(a==b)else a==b))|_,_=>ai)=ae r): QR P φ E st a w (do eqGuard op t x y (a.eval x) (a.eval y);binOp op t (a.eval x) (a.eval y)) r:=by
 have vx:=(dz h hx).1;have vy:=(dz h hy).1;split at hr;·rename_i m n e1 e2;rw[e1]at vx;rw[e2]at vy;rw[vx.Jj,vy.Jj];simp only[aq]at hr;subst hr;refine fQ (v:=.bool (if neq then !(m==n)else m==n)) ?_ (.bool _);have hq:=run_equalIn_bool' w 9999 t m n ht;subst hop;cases neq<;>simp[eqGuard_at_bool,binOp,Op.equal,Op.maxDepth,hq]
 ·cases hr
def av8{op:UnOp}{x:Operand}{x':bZ}(h:lf φ w0 L E st a w)(hx:bV φ x x'=ar){r:A}(hr:unA op (x'.v st)=ae r): QR P φ E st a w (Op.unary op (a.eval x)) r:=by
 have vx:=(dz h hx).1;unfold unA at hr;split at hr;·rename_i k n e;rw[e]at vx;rw[vx.lL];simp only[aq]at hr;subst hr;exact fQ rfl (.int _ _)
 ·rename_i b e;rw[e]at vx;rw[vx.Jj];simp only[aq]at hr;subst hr;exact fQ rfl (.bool _)
 ·cases hr
def aoR{x:Operand}{x':bZ}(h:lf φ w0 L E st a w)(hx:bV φ x x'=ar){o:Oper}(ho:o.op=.nilCheck x){r:A}
 (hr:(match x'.v st with
  |.loc q i c=>(st.r q).map λ_=>A.loc q i c
  |.ptr cs c=>ae (.ptr cs c)
  |.fn f caps=>ae (.fn f caps)
  |_=>ai)=ae r):
 ∃v,(execOp a.eval o).run P w=.ok (.value v) w/\RV φ E st.r w v r/\DX st a v r:=by
 have hc:=dz h hx
 have vx:=hc.1
 split at hr
 ·rename_i q i c e
  obtain⟨R0,hs,rfl⟩:=au.1 hr
  rw[e]at hc vx
  have h1:=vx.Dl
  generalize hv:a.eval x=v at h1 hc
  cases h1 with
  |data _ _ h1=>cases h1
  |Lx _ _ _ _ h1=>rw[h1]at hs;cases hs
  |loc b o _ _ _ R h1 hρ=>exact⟨_,by simp[execOp,ho,hv],hc.1,hc.2⟩
 ·rename_i cs c e
  simp only[aq]at hr;subst hr
  rw[e]at hc vx
  have h1:=vx.aah
  generalize hv:a.eval x=v at h1 hc
  cases h1 with
  |ptr b o _ _ vs hb hr hcc=>exact⟨_,by simp[execOp,ho,hv],hc.1,hc.2⟩
 ·rename_i f caps e
  simp only[aq]at hr;subst hr
  rw[e]at hc vx
  obtain⟨vs,ev,_⟩:=vx.aa1
  rw[ev]at hc
  exact⟨_,by simp[execOp,ho,ev],hc.1,hc.2⟩
 ·cases hr
def atT{t ty e:TypeId}{x:Operand}{x':bZ}(h:lf φ w0 L E st a w)(hx:bV φ x x'=ar)(ht:P.underlying t=ae (.slice e)){n:Nat}(hn:akR st.r (x'.v st)=ae n): QR P φ E st a w (xz #[t] ty #[a.eval x]) (.int .i64 n):=by
 have vx:=(dz h hx).1;have key:∀(v:Value) ad cap,v=.slice ad n cap->QR P φ E st a w (xz #[t] ty #[v]) (.int .i64 n):=by rintro v ad cap rfl;exact fQ (by simp[xz,run_underlying ht,goInt]) (.int _ _)
 unfold akR at hn;generalize a.eval x=v at vx;split at hn<;>(try(cases hn;done))<;>rename_i e<;>rw[e]at vx
 ·simp only[aq]at hn;subst hn;cases vx.acE with|No ad cap z=>exact key _ ad cap rfl|sl b o cap z xs vs hb hz hc hr hcc=>exact key _ _ cap rfl
 ·simp only[aq]at hn;subst hn;cases vx.PL with|data _ _ h1=>cases h1|DI ad k z=>exact key _ ad 0 rfl|tok b o cap k z xs vs hc h0 hz hr hcc hm=>exact key _ _ cap rfl
 ·simp only[aq]at hn;subst hn;exact key _ ai 0 vx.JY
 ·obtain⟨R0,hR,rfl⟩:=au.1 hn;cases vx.zm with|data _ _ h1=>cases h1|lA _ _ _ _ h1=>rw[h1]at hR;cases hR|kP ad q off R h1 hb hn=>exact key _ ad 0 rfl|view b o cap q off n R h1 hb hn hc h0 hρ hm=>exact key _ _ cap rfl
def arE{t ty:TypeId}{x:Operand}{x':bZ}(h:lf φ w0 L E st a w)(hx:bV φ x x'=ar)(ht:P.underlying t=ae .string){r:A} (hr:(match x'.v st with|.str s=>ae (A.int .i64 s.length)|_=>ai)=ae r): QR P φ E st a w (xz #[t] ty #[a.eval x]) r:=by
 have vx:=(dz h hx).1;split at hr;·rename_i s e;simp only[aq]at hr;subst hr;rw[e]at vx;rw[vx.HT];refine fQ (v:=.int .i64 s.length) ?_ (.int _ _);simp[xz,run_underlying ht,goInt];show((s.toArray.size:Nat):Int)=_;simp
 ·cases hr
end
end Go.Ab
namespace Go.Ab
section
variable {P:Program} {φ:Nat->Nat} {w0:World} {L:kU} {E:Env} {st:St} {a:Act} {w:World}
def jr.R9{r:Nat->Option dF}{v:Value}{q i c:Nat}(h:jr φ E r w v (.loc q i c)){R:dF}(hR:r q=ae R): ∃b o,E.ρ q=ae (b,o)/\v=.pointer (ae ⟨b,o+i*R.z+c,ai⟩):=by cases h with|data _ _ h=>cases h|Lx _ _ _ _ h=>rw[h]at hR;cases hR|loc b o _ _ _ R' h hρ=>rw[h]at hR;cases hR;exact⟨b,o,hρ,rfl⟩
def iD.aq0{ok:Nat->Prop}{v:Value}{cs:List A}{c:Nat}(h:iD φ w ok v (.ptr cs c)): ∃b o vs,v=.pointer (ae ⟨b,o+c,ai⟩)/\ok b/\cW φ w ok vs cs/\cH w b o vs:=by cases h with|ptr b o c cs vs hb hr hc=>exact⟨b,o,vs,rfl,hb,hr,hc⟩
def ahf{r:Nat->Option dF}{b o c:Nat}{cs:List A}{vs:List Value}(hb:E.ok b)(h:cW φ w E.ok vs cs)(hv:cH w b o vs){v:Value} (he:v=.pointer (ae ⟨b,o+c,ai⟩)):RV φ E r w v (.ptr cs c)/\DX st a v (.ptr cs c):=by subst he;have hr:iD φ w E.ok (.pointer (ae ⟨b,o+c,ai⟩)) (.ptr cs c):=.ptr b o c cs vs hb h hv;exact⟨.one _ _ (.data _ _ hr),.rep hr⟩
def alq{r:Nat->Option dF}{b o q i c:Nat}{R:dF}(hR:r q=ae R)(hρ:E.ρ q=ae (b,o)){v:Value} (he:v=.pointer (ae ⟨b,o+i*R.z+c,ai⟩)):RV φ E r w v (.loc q i c)/\DX st a v (.loc q i c):=by subst he;exact⟨.one _ _ (.loc b o q i c R hR hρ),.scalar Un⟩
def amk(P:Program)(t:TypeId)(f off:Nat):Bool:=
 match P.underlying t with
 |some (.struct fs)=>(match fs[f]? with
  |some fd=>fd.offset==off&&(match P.info? fd.type with|some i=>i.size !=0|none=>aw)
  |none=>aw)
 |_=>aw
def Yl{t:TypeId}{f off:Nat}(h:amk P t f off=ar)(b o:Nat): (afY t (.pointer (ae ⟨b,o,ai⟩)) f).run P w=.ok (.pointer (ae ⟨b,o+off,ai⟩)) w:=by
 unfold amk at h;split at h
 ·rename_i fs hfs;split at h;·rename_i fd hfd;simp only[aj,b9]at h;obtain⟨rfl,h⟩:=h;split at h;(·rename_i i hi;simp at h;simp[afY,underlying,hfs,hfd,Ta,fieldPlace,sizeOf,typeInfo,hi,h,FZ]);·cases h
  ·cases h
 ·cases h
def av5{t:TypeId}{f off:Nat}{x:Operand}{x':bZ}(h:lf φ w0 L E st a w)(hx:bV φ x x'=ar)(hc:amk P t f off=ar){r:A}
 (hr:(match x'.v st with
  |.loc q i c=>(st.r q).map λ_=>A.loc q i (c+off)
  |.ptr cs c=>ae (.ptr cs (c+off))
  |_=>ai)=ae r):QR P φ E st a w (afY t (a.eval x) f) r:=by
 have vx:=(dz h hx).1
 split at hr
 ·rename_i q i c e
  obtain⟨R,hR,rfl⟩:=au.1 hr
  rw[e]at vx
  obtain⟨b,o,hρ,ev⟩:=vx.Dl.R9 hR
  rw[ev]
  exact⟨_,Yl hc _ _,alq hR hρ (by simp[gS])⟩
 ·rename_i cs c e
  simp only[aq]at hr;subst hr
  rw[e]at vx
  obtain⟨b,o,vs,ev,hb,hrs,hcs⟩:=vx.aah.aq0
  rw[ev]
  exact⟨_,Yl hc _ _,ahf hb hrs hcs (by simp[gS])⟩
 ·cases hr
def OV{t:TypeId}{n:Option Nat}(hn:QU P t n=ar){r:Nat->Option dF}{c:Nat}{vs:List Value}{cs:List A}(hl:fE (jr φ E r w) vs cs) {x:A} (hx:ie cs c n=ae x):∃v,(part t vs.toArray c).run P w=.ok v w/\RV φ E r w v x/\∀k b,Tk v x k b->Tk (.agg vs.toArray) (.agg cs) k b:=by unfold QU at hn;cases n with|none=>simp only[ie]at hx;obtain⟨v,hv1,hp⟩:=hl.get hx;(have key:∀d,P.underlying t=ae d->(∀fs,d≠ .struct fs)->(∀n e,d≠ .array n e)->∃v,(part t vs.toArray c).run P w=.ok v w/\RV φ E r w v x/\∀k b,Tk v x k b->Tk (.agg vs.toArray) (.agg cs) k b:=by intro d hd h1 h2;refine⟨v,LQ hd h1 h2 hv1,.one _ _ hp,λk b ht=> ?_⟩;cases ht with|one _ _ _ _ ht=>exact .agg vs cs c k b v x hv1 hx ht|sf=>(cases hp with|data _ _ h=>cases h)|agg us ys j k b v' a' hv' ha' ht=>generalize hu:qj us.toArray=u at hp;cases hp with|data _ _ h=>subst hu;exact absurd (.agg us ys j k b v' a' hv' ha' ht) (Tk.nW h));split at hn;(·split at hn<;>simp at hn);(·split at hn<;>simp at hn);(·rename_i d h1 h2 hd;exact key d hd (λfs e=>h1 fs e) (λn e e'=>h2 n e e'));·cases hn|some m=>simp only[ie]at hx;split at hx;(·rename_i hcm;simp only[aq]at hx;subst hx;(have key:∀d i,P.underlying t=ae d->P.info? t=ae i->(∃fs,d=.struct fs)\/(∃n e,d=.array n e)->m=i.size-> ∃v,(part t vs.toArray c).run P w=.ok v w/\RV φ E r w v (.agg (((cs.drop c).take m).map qz))/\∀k b,Tk v (.agg (((cs.drop c).take m).map qz)) k b->Tk (.agg vs.toArray) (.agg cs) k b:=by intro d i hd hi hk hm;(have hg:(isAgg t).run P w=.ok ar w:=by simp only[isAgg,underlying,dp,run_program,bP,hd];rcases hk with ⟨fs,rfl⟩|⟨n,e,rfl⟩<;>rfl);refine⟨.agg ((vs.drop c).take m).toArray,?_,.agg _ _ ((hl.NA c m).map λv x hh=>hh.norm),λk b ht=> ?_⟩;(·simp only[part,dp,hg,bP,aC,sizeOf,typeInfo,run_program,hi,jb];rw[<-hm];congr 2;apply Ri;simp[List.take_drop]);·generalize hu:qj ((vs.drop c).take m).toArray=u at ht;cases ht with|one _ _ _ _ ht=>cases ht|agg us ys j k b v' a' hv' ha' ht=>simp at hu;subst hu;simp only[bX,au]at ha';obtain⟨a0,ha0,rfl⟩:=ha';rw[oB]at hv' ha0;split at hv';(·rename_i hj;rw[aJ hj]at ha0;refine .agg vs cs (c+j) k b v' a0 (by simpa using hv') (by simpa using ha0) ?_;cases a0<;>first|exact ht|(simp only[qz]at ht;cases ht));·cases hv');split at hn;(·rename_i fs hd;split at hn;(·rename_i i hi;simp at hn;exact key _ i hd hi (.inl ⟨_,rfl⟩) hn);·cases hn);(·rename_i len e hd;split at hn;(·rename_i i hi;simp at hn;exact key _ i hd hi (.inr ⟨_,_,rfl⟩) hn);·cases hn);(·simp at hn);·cases hn);·cases hx
def aky(P:Program)(t:TypeId)(f off:Nat)(n:Option Nat):Bool:=
 match P.underlying t with
 |some (.struct fs)=>(match fs[f]? with|some fd=>fd.offset==off&&QU P fd.type n|none=>aw)
 |_=>aw
def atP{t:TypeId}{f off:Nat}{n:Option Nat}{x:Operand}{x':bZ}(h:lf φ w0 L E st a w)(hx:bV φ x x'=ar)(hc:aky P t f off n=ar){r:A} (hr:(match x'.v st with|.agg cs=>ie cs off n|_=>ai)=ae r):QR P φ E st a w (awh t (a.eval x) f) r:=by
 have hco:=dz h hx;split at hr
 ·rename_i cs e;rw[e]at hco;obtain⟨vs,ev,hvs⟩:=hco.1.xK;rw[ev]at hco⊢;unfold aky at hc;split at hc;·rename_i fs hfs;split at hc;(·rename_i fd hfd;simp only[aj,b9]at hc;obtain⟨rfl,hc⟩:=hc;obtain⟨v,hrun,hv,ht⟩:=OV (P:=P) (w:=w) hc hvs hr;refine⟨v,?_,hv,λk b hk=>hco.2 k b (ht k b hk)⟩;simp[awh,underlying,hfs,hfd,asAgg,hrun]);·cases hc
  ·cases hc
 ·cases hr
def ah7(P:Program)(t:TypeId)(z:Nat):Bool:=
 match P.underlying t with
 |some (.slice e)=>(match P.info? e with|some i=>i.size==z|none=>aw)
 |_=>aw
def run_indexAt_slice{t:TypeId}{z:Nat}(h:ah7 P t z=ar){k:IntKind}{n:Int}{len cap b o:Nat}(h0:0<=n)(hn:n<(len:Int)): (BQ t (.slice (ae ⟨b,o,ai⟩) len cap) (.int k n)).run P w=.ok (.pointer (ae ⟨b,o+n.toNat*z,ai⟩)) w:=by
 unfold ah7 at h;split at h
 ·rename_i e he;split at h;·rename_i i hi;simp only[b9]at h;simp[BQ,asIntOf,underlying,he,h0,hn,sizeOf,typeInfo,hi,FZ,h]
  ·cases h
 ·cases h
def amy{xs:List A}{z:Nat}(hz:∀x∈xs,x.cells.length=z){i:Nat}{y:A}(hy:xs[i]? =ae y):y.cells=((xs.flatMap A.cells).drop (i*z)).take y.cells.length:=by rw[<-nh hz,bf (iL.1 hy).1,(iL.1 hy).2,cg,List.take_left]
def cW.elem{ok:Nat->Prop}{xs:List A}{z:Nat}(hz:∀x∈xs,x.cells.length=z){vs:List Value}(h:cW φ w ok vs (xs.flatMap A.cells)){i:Nat}{y:A}(hy:xs[i]? =ae y): cW φ w ok ((vs.drop (i*z)).take y.cells.length) y.cells:=by have:=(h.drop (i*z)).take y.cells.length;rwa[<-amy hz hy]at this
def av6{t:TypeId}{z:Nat}{x i:Operand}{x' i':bZ}(h:lf φ w0 L E st a w)(hx:bV φ x x'=ar)(hi:bV φ i i'=ar)(hc:ah7 P t z=ar){r:A}
 (hr:(match i'.v st,x'.v st with
  |.int _ n,.view q off len=>
   (st.r q).bind λR=>if 0<=n/\n<(len:Int)/\R.z=z then ae (A.loc q (off+n.toNat) 0)else ai
  |.int _ n,.sl z' xs=>if 0<=n/\z'=z then(xs[n.toNat]?).map λx=>.ptr x.cells 0 else ai
  |_,_=>ai)=ae r):QR P φ E st a w (BQ t (a.eval x) (a.eval i)) r:=by
 have vx:=(dz h hx).1
 have vi:=(dz h hi).1
 generalize a.eval x=vv at vx⊢
 split at hr
 ·rename_i k n q off len e1 e2
  rw[e1]at vi;rw[e2]at vx
  rw[vi.lL]
  obtain⟨R,hR,hr⟩:=ak.1 hr
  split at hr
  ·rename_i hcond
   obtain⟨h0,hn,hz⟩:=hcond
   simp only[aq]at hr;subst hr
   cases vx.zm with
   |data _ _ h1=>cases h1
   |lA _ _ _ _ h1=>rw[h1]at hR;cases hR
   |kP ad q off R h1 hb hn'=>omega
   |view b o cap q off n' R' h1 hb hn' hcap hc0 hρ hm=>
    rw[h1]at hR;cases hR
    exact⟨_,run_indexAt_slice hc h0 hn,alq h1 hρ (by rw[hz,Ga,anr,gS])⟩
  ·cases hr
 ·rename_i k n z' xs e1 e2
  rw[e1]at vi;rw[e2]at vx
  rw[vi.lL]
  split at hr
  ·rename_i hcond
   obtain⟨h0,hz⟩:=hcond
   obtain⟨y,hy,rfl⟩:=au.1 hr
   have hlt:n.toNat<xs.length:=(iL.1 hy).1
   cases vx.acE with
   |No ad cap z=>simp at hy
   |sl b o cap z xs vs hb hzz hcap hrs hcs=>
    subst hz
    refine⟨_,run_indexAt_slice hc h0 (by omega),ahf hb (hrs.elem hzz hy) ((hcs.drop _).take _) (by simp)⟩
  ·cases hr
 ·cases hr
def agl(P:Program)(t:TypeId)(len z:Nat):Bool:=
 match P.underlying t with
 |some (.array n e)=>n==len&&(match P.info? e with|some i=>i.size==z|none=>aw)
 |_=>aw
def run_indexAt_array{t:TypeId}{len z:Nat}(h:agl P t len z=ar){k:IntKind}{n:Int}{b o:Nat}(h0:0<=n)(hn:n<(len:Int)): (BQ t (.pointer (ae ⟨b,o,ai⟩)) (.int k n)).run P w=.ok (.pointer (ae ⟨b,o+n.toNat*z,ai⟩)) w:=by
 unfold agl at h;split at h
 ·rename_i m e he;simp only[aj,b9]at h;obtain⟨rfl,h⟩:=h;split at h;·rename_i i hi;simp only[b9]at h;simp[BQ,asIntOf,underlying,he,h0,hn,Ta,sizeOf,typeInfo,hi,FZ,h]
  ·cases h
 ·cases h
def atQ{t:TypeId}{len z:Nat}{x i:Operand}{x' i':bZ}(h:lf φ w0 L E st a w)(hx:bV φ x x'=ar)(hi:bV φ i i'=ar)(hc:agl P t len z=ar){r:A}
 (hr:(match i'.v st,x'.v st with
  |.int _ n,.loc q j c=>if 0<=n/\n<(len:Int)then(st.r q).map λ_=>A.loc q j (c+n.toNat*z)else ai
  |.int _ n,.ptr cs c=>if 0<=n/\n<(len:Int)then ae (.ptr cs (c+n.toNat*z))else ai
  |_,_=>ai)=ae r):QR P φ E st a w (BQ t (a.eval x) (a.eval i)) r:=by
 have vx:=(dz h hx).1
 have vi:=(dz h hi).1
 split at hr
 ·rename_i k n q j c e1 e2
  rw[e1]at vi;rw[e2]at vx
  rw[vi.lL]
  split at hr
  ·rename_i hcond
   obtain⟨R,hR,rfl⟩:=au.1 hr
   obtain⟨b,o,hρ,ev⟩:=vx.Dl.R9 hR
   rw[ev]
   exact⟨_,run_indexAt_array hc hcond.1 hcond.2,alq hR hρ (by simp[gS])⟩
  ·cases hr
 ·rename_i k n cs c e1 e2
  rw[e1]at vi;rw[e2]at vx
  rw[vi.lL]
  split at hr
  ·rename_i hcond
   simp only[aq]at hr;subst hr
   obtain⟨b,o,vs,ev,hb,hrs,hcs⟩:=vx.aah.aq0
   rw[ev]
   exact⟨_,run_indexAt_array hc hcond.1 hcond.2,ahf hb hrs hcs (by simp[gS])⟩
  ·cases hr
 ·cases hr
def av7{t:TypeId}{x i:Operand}{x' i':bZ}(h:lf φ w0 L E st a w)(hx:bV φ x x'=ar)(hi:bV φ i i'=ar)(ht:P.underlying t=ae .string){r:A}
 (hr:(match i'.v st,x'.v st with
  |.int _ n,.str s=>if 0<=n then(s[n.toNat]?).map λb=>A.int .u8 b.toNat else ai
  |_,_=>ai)=ae r):QR P φ E st a w (Z5 t (a.eval x) (a.eval i)) r:=by
 have vx:=(dz h hx).1
 have vi:=(dz h hi).1
 split at hr
 ·rename_i k n s e1 e2
  rw[e1]at vi;rw[e2]at vx
  rw[vi.lL,vx.HT]
  split at hr
  ·rename_i h0
   obtain⟨y,hy,rfl⟩:=au.1 hr
   refine fQ (v:=.int .u8 y.toNat) ?_ (.int _ _)
   have:(mY s.toArray)[n.toNat]? =ae y:=by obtain⟨hlt,hy'⟩:=iL.1 hy;(have hsz:n.toNat<(mY s.toArray).size:=by simpa[Yt]using hlt);rw[getElem?_pos (mY s.toArray) n.toNat hsz];exact congrArg ae hy'
   simp[Z5,asIntOf,underlying,ht,h0,this]
  ·cases hr
 ·cases hr
def atS{t:TypeId}{len z:Nat}{n:Option Nat}{x i:Operand}{x' i':bZ}(h:lf φ w0 L E st a w)(hx:bV φ x x'=ar)(hi:bV φ i i'=ar){e:TypeId}
 (ht:P.underlying t=ae (.array len e)) {ti:TypeInfo} (hti:P.info? e=ae ti) (hz:ti.size=z) (hn:QU P e n=ar) {r:A}
 (hr:(match i'.v st,x'.v st with
  |.int _ j,.agg cs=>if 0<=j/\j<(len:Int)then ie cs (j.toNat*z) n else ai
  |_,_=>ai)=ae r):QR P φ E st a w (Z5 t (a.eval x) (a.eval i)) r:=by
 have hco:=dz h hx
 have vi:=(dz h hi).1
 split at hr
 ·rename_i k j cs e1 e2
  rw[e1]at vi;rw[e2]at hco
  rw[vi.lL]
  obtain⟨vs,ev,hvs⟩:=hco.1.xK
  rw[ev]at hco⊢
  split at hr
  ·rename_i h0
   obtain⟨v,hrun,hv,htk⟩:=OV (P:=P) (w:=w) hn hvs hr
   refine⟨v,?_,hv,λk b hk=>hco.2 k b (htk k b hk)⟩
   simp[Z5,asIntOf,underlying,ht,h0.1,h0.2,sizeOf,typeInfo,hti,hz,hrun]
  ·cases hr
 ·cases hr
end
end Go.Ab
namespace Go.Ab
section
variable {P:Program} {φ:Nat->Nat} {w0:World} {L:kU} {E:Env} {st:St} {a:Act} {w:World}
def wI{t e:TypeId}{i:TypeInfo}(ht:P.underlying t=ae (.slice e))(hi:P.info? e=ae i){ad:Option Addr}{len cap l h:Nat}{lo hi:Option Value} (hlo:(lo=ai/\l=0)\/∃k,lo=ae (.int k l)) (hhi:(hi=ai/\h=len)\/∃k,hi=ae (.int k h)) (h1:l<=h) (h2:h<=cap): (rD t (.slice ad len cap) lo hi ai).run P w=.ok (.slice (if cap=l then ad else ad.map (·.add (l*i.size))) (h-l) (cap-l)) w:=by
 have c1:(0:Int)<=(l:Int)/\(l:Int)<=(h:Int):=by omega
 have c2:(0:Int)<=(h:Int)/\(h:Int)<=(cap:Int):=by omega
 rcases hlo with ⟨rfl,rfl⟩|⟨k,rfl⟩<;>rcases hhi with ⟨rfl,rfl⟩|⟨k',rfl⟩<;> simp[rD,awi,underlying,ht,ao5,apn,asIntOf,sizeOf,typeInfo,hi,c1,c2,h1,h2]
def MQ{t:TypeId}(ht:P.underlying t=ae .string){s:List UInt8}{l h:Nat}{lo hi:Option Value} (hlo:(lo=ai/\l=0)\/∃k,lo=ae (.int k l)) (hhi:(hi=ai/\h=s.length)\/∃k,hi=ae (.int k h)) (h1:l<=h) (h2:h<=s.length): (rD t (.string ⟨s.toArray⟩) lo hi ai).run P w=.ok (.string ⟨((s.take h).drop l).toArray⟩) w:=by
 have hsz:(mY s.toArray).size=s.length:=by show s.toArray.size=_;simp
 have c1:(0:Int)<=(l:Int)/\(l:Int)<=(h:Int):=by omega
 have c2:(0:Int)<=(h:Int)/\(h:Int)<=(s.length:Int):=by omega
 have hex:(mY s.toArray).extract l h=⟨((s.take h).drop l).toArray⟩:=by apply Ps;simp[List.extract_eq_take_drop,List.drop_take]
 rcases hlo with ⟨rfl,rfl⟩|⟨k,rfl⟩<;>rcases hhi with ⟨rfl,rfl⟩|⟨k',rfl⟩<;> simp[rD,awi,underlying,ht,ao5,apn,asIntOf,hsz,c1,c2,h1,h2,hex]<;>simpa using hex
def BV(φ:Nat->Nat):Option Operand->Option bZ->Bool
 |none,ai=>ar
 |some x,ae y=>bV φ x y
 |_,_=>aw
def WY(h:lf φ w0 L E st a w){lo:Option Operand}{lo':Option bZ}(hx:BV φ lo lo'=ar){k:IntKind}{l:Int}(hl:(lo'.map (bZ.v st)).getD (.int .i64 0)=.int k l)(h0:0<=l): (lo.map a.eval=ai/\l.toNat=0)\/∃k,lo.map a.eval=ae (.int k (l.toNat:Nat)):=by
 unfold BV at hx;split at hx;·simp at hl;exact .inl ⟨rfl,by omega⟩
 ·rename_i x y;simp at hl;have:=(dz h hx).1;rw[hl]at this;exact .inr ⟨k,by simp[this.lL];omega⟩
 ·cases hx
def aqQ(h:lf φ w0 L E st a w){hi:Option Operand}{hi':Option bZ}(hx:BV φ hi hi'=ar): (hi'.map (bZ.v st)=ai->hi.map a.eval=ai)/\∀k m,hi'.map (bZ.v st)=ae (.int k m)->hi.map a.eval=ae (.int k m):=by
 unfold BV at hx;split at hx;·exact⟨λ_=>rfl,λk m hm=>by simp at hm⟩
 ·rename_i x y;refine⟨λhm=>by simp at hm,λk m hm=> ?_⟩;simp at hm;have:=(dz h hx).1;rw[hm]at this;simp[this.lL]
 ·cases hx
def arG{t:TypeId}{x:Operand}{x':bZ}{lo hi:Option Operand}{lo' hi':Option bZ}(h:lf φ w0 L E st a w)(hx:bV φ x x'=ar)(hl:BV φ lo lo'=ar)(hh:BV φ hi hi'=ar)
 (ht:P.underlying t=ae .string) {r:A}
 (hr:(match(lo'.map (bZ.v st)).getD (.int .i64 0),hi'.map (bZ.v st),x'.v st with
  |.int _ l,ae (.int _ h),.str s=>if 0<=l/\l<=h/\h<=(s.length:Int)then ae (A.str ((s.take h.toNat).drop l.toNat))else ai
  |.int _ l,ai,.str s=>if 0<=l/\l<=(s.length:Int)then ae (.str (s.drop l.toNat))else ai
  |_,_,_=>ai)=ae r):QR P φ E st a w (rD t (a.eval x) (lo.map a.eval) (hi.map a.eval) ai) r:=by
 have vx:=(dz h hx).1
 have vh:=aqQ h hh
 split at hr
 ·rename_i k l k' m s e1 e2 e3
  split at hr
  ·rename_i hc
   simp only[aq]at hr;subst hr
   rw[e3]at vx
   rw[vx.HT]
   refine fQ (MQ ht (WY h hl e1 hc.1) (.inr ⟨k',?_⟩) (by omega) (by omega)) (.str _)
   rw[vh.2 _ _ e2];simp;omega
  ·cases hr
 ·rename_i k l s e1 e2 e3
  split at hr
  ·rename_i hc
   simp only[aq]at hr;subst hr
   rw[e3]at vx
   rw[vx.HT]
   have:=MQ (P:=P) (w:=w) (s:=s) ht (WY h hl e1 hc.1) (.inl ⟨vh.1 e2,rfl⟩) (by omega) (bm _)
   rw[aA]at this
   exact fQ this (.str _)
  ·cases hr
 ·cases hr
def aef{ok:Nat->Prop}{b o cap z l h:Nat}{xs:List A}{vs:List Value}(hb:ok b)(hz:∀x∈xs,x.cells.length=z)(hc:xs.length<=cap) (hr:cW φ w ok vs (xs.flatMap A.cells)) (hv:cH w b o vs) (h1:l<=h) (h2:h<=xs.length): iD φ w ok (.slice (if cap=l then ae ⟨b,o,ai⟩else(ae (⟨b,o,ai⟩:Addr)).map (·.add (l*z))) (h-l) (cap-l)) (.sl z ((xs.take h).drop l)):=by
 have hlen:((xs.take h).drop l).length=h-l:=by simp;omega
 by_cases he:h-l=0;·have:(xs.take h).drop l=[]:=gy (by omega);rw[this,he];exact .No _ _ _
 ·have hne:¬cap=l:=by omega
  rw[aO hne,az,FZ,<-hlen];have hz1:∀x∈xs.take h,x.cells.length=z:=λx hx=>hz x (fo hx);refine .sl b (o+l*z) (cap-l) z _ ((vs.take (h*z)).drop (l*z)) hb (λx hx=>hz1 x (cA hx)) (by omega) ?_ ((hv.take _).drop _);rw[nh hz1,tP hz];exact(hr.take _).drop _
def atV{t e:TypeId}{i:TypeInfo}{x:Operand}{x':bZ}{lo hi:Option Operand}{lo' hi':Option bZ}(h:lf φ w0 L E st a w)(hx:bV φ x x'=ar)(hl:BV φ lo lo'=ar)(hh:BV φ hi hi'=ar)
 (ht:P.underlying t=ae (.slice e)) (hi0:P.info? e=ae i) {z:Nat} (hz0:i.size=z) {r:A}
 (hr:(match(lo'.map (bZ.v st)).getD (.int .i64 0),hi'.map (bZ.v st),x'.v st with
  |.int _ l,ae (.int _ h),.sl z' xs=>if 0<=l/\l<=h/\h<=(xs.length:Int)/\z'=z then ae (A.sl z' ((xs.take h.toNat).drop l.toNat))else ai
  |.int _ l,ai,.sl z' xs=>if 0<=l/\l<=(xs.length:Int)/\z'=z then ae (.sl z' (xs.drop l.toNat))else ai
  |.int _ l,ae (.int _ h),.view q off n=>(st.r q).bind λR=>if 0<=l/\l<=h/\h<=(n:Int)/\R.z=z then ae (.view q (off+l.toNat) (h.toNat-l.toNat))else ai
  |.int _ l,ai,.view q off n=>(st.r q).bind λR=>if 0<=l/\l<=(n:Int)/\R.z=z then ae (.view q (off+l.toNat) (n-l.toNat))else ai
  |_,_,_=>ai)=ae r):QR P φ E st a w (rD t (a.eval x) (lo.map a.eval) (hi.map a.eval) ai) r:=by
 have vx:=(dz h hx).1
 have vh:=aqQ h hh
 have kv:∀(v:Value) (q off n l m:Nat) (R:dF),jr φ E st.r w v (.view q off n)->st.r q=ae R->R.z=z->l<=m->m<=n->
  ((lo.map a.eval=ai/\l=0)\/∃k,lo.map a.eval=ae (.int k (l:Nat)))->((hi.map a.eval=ai/\m=n)\/∃k,hi.map a.eval=ae (.int k (m:Nat)))->
  QR P φ E st a w (rD t v (lo.map a.eval) (hi.map a.eval) ai) (.view q (off+l) (m-l)):=by
  intro v q off n l m R hv hR hz h1 h2 hlo hhi
  cases hv with
  |data _ _ h=>cases h
  |lA _ _ _ _ h1=>rw[h1]at hR;cases hR
  |kP ad q off R' hq1 hb hn=>
   obtain rfl:m=0:=by omega
   obtain rfl:l=0:=by omega
   refine⟨_,wI ht hi0 hlo hhi (bm _) (bm _),?_,.scalar Ar⟩
   exact .one _ _ (.kP _ _ _ R' hq1 hb (by simpa using hn))
  |view b o cap q off n R' h1' hb hn hc h0 hρ hm=>
   rw[h1']at hR;cases hR
   refine⟨_,wI ht hi0 hlo hhi h1 (by omega),?_,.scalar Ar⟩
   by_cases he:cap=l
   ·obtain rfl:l=cap:=he.symm
    obtain rfl:m=l:=by omega
    simp only[ahT]
    exact .one _ _ (.kP _ _ _ R h1' hb (by omega))
   ·rw[aO he,az,FZ,hz0,<-hz,show o+off*R.z+l*R.z=o+(off+l)*R.z from by rw[Ga];omega]
    refine .one _ _ (.view b o (cap-l) q (off+l) (m-l) R h1' hb (by omega) (by omega) (by omega) hρ ?_)
    rw[show off+l+(cap-l)=off+cap from by omega]
    exact hm
 have ks:∀(v:Value) (z' l m:Nat) (xs:List A),iD φ w E.ok v (.sl z' xs)->z'=z->l<=m->m<=xs.length->
  ((lo.map a.eval=ai/\l=0)\/∃k,lo.map a.eval=ae (.int k (l:Nat)))->((hi.map a.eval=ai/\m=xs.length)\/∃k,hi.map a.eval=ae (.int k (m:Nat)))->
  QR P φ E st a w (rD t v (lo.map a.eval) (hi.map a.eval) ai) (.sl z' ((xs.take m).drop l)):=by
  intro v z' l m xs hv hz h1 h2 hlo hhi
  cases hv with
  |No ad cap z=>
   obtain rfl:m=0:=by simpa using h2
   obtain rfl:l=0:=by omega
   exact fQ (wI ht hi0 hlo hhi (bm _) (by omega)) (by simpa using .No _ _ _)
  |sl b o cap z xs vs hb hzz hc hrs hcs=>
   subst hz
   refine fQ (wI ht hi0 hlo hhi h1 (by omega)) ?_
   rw[hz0]
   exact aef hb hzz hc hrs hcs h1 h2
 split at hr
 ·rename_i k l k' m z' xs e1 e2 e3
  split at hr
  ·rename_i hc
   simp only[aq]at hr;subst hr
   rw[e3]at vx
   refine ks _ z' l.toNat m.toNat xs vx.acE hc.2.2.2 (by omega) (by omega) (WY h hl e1 hc.1) (.inr ⟨k',?_⟩)
   rw[vh.2 _ _ e2];simp;omega
  ·cases hr
 ·rename_i k l z' xs e1 e2 e3
  split at hr
  ·rename_i hc
   simp only[aq]at hr;subst hr
   rw[e3]at vx
   have:=ks _ z' l.toNat xs.length xs vx.acE hc.2.2 (by omega) (bm _) (WY h hl e1 hc.1) (.inl ⟨vh.1 e2,rfl⟩)
   rwa[aA]at this
  ·cases hr
 ·rename_i k l k' m q off n e1 e2 e3
  obtain⟨R,hR,hr⟩:=ak.1 hr
  split at hr
  ·rename_i hc
   simp only[aq]at hr;subst hr
   rw[e3]at vx
   refine kv _ q off n l.toNat m.toNat R vx.zm hR hc.2.2.2 (by omega) (by omega) (WY h hl e1 hc.1) (.inr ⟨k',?_⟩)
   rw[vh.2 _ _ e2];simp;omega
  ·cases hr
 ·rename_i k l q off n e1 e2 e3
  obtain⟨R,hR,hr⟩:=ak.1 hr
  split at hr
  ·rename_i hc
   simp only[aq]at hr;subst hr
   rw[e3]at vx
   exact kv _ q off n l.toNat n R vx.zm hR hc.2.2 (by omega) (bm _) (WY h hl e1 hc.1) (.inl ⟨vh.1 e2,rfl⟩)
  ·cases hr
 ·cases hr
def iU(φ:Nat->Nat):List Operand->List bZ->Bool
 | [],[]=>ar
 |x::xs,y::ys=>bV φ x y&&iU φ xs ys
 |_,_=>aw
def aot{f:A->A->Option A}{g:Value->Value->Sem Value}(hfg:∀(v u:Value) (x y z:A),RV φ E st.r w v x->RV φ E st.r w u y->f x y=ae z->∃v',(g v u).run P w=.ok v' w/\iD φ w E.ok v' z) (h:lf φ w0 L E st a w):∀(xs:List Operand) (ys:List bZ) (v:Value) (x:A) (r:A),iU φ xs ys=ar->RV φ E st.r w v x->ys≠ []->TG f x (ys.map (bZ.v st))=ae r-> ∃v',((xs.map a.eval).foldlM g v:Sem Value).run P w=.ok v' w/\iD φ w E.ok v' r:=by
 intro xs
 induction xs with
 |nil=>intro ys v x r hc _ hne _;cases ys with
  |nil=>exact absurd rfl hne
  |cons y ys=>simp[iU]at hc
 |cons o xs ih=>
  intro ys v x r hc hv _ hf;cases ys with|nil=>simp[iU]at hc|cons y ys=>simp only[iU,aj]at hc;simp only[aP,TG]at hf;obtain⟨c,hc1,hf⟩:=ak.1 hf;obtain⟨v1,hr1,hp1⟩:=hfg v _ x _ c hv (dz h hc.1).1 hc1;simp only[aP,List.foldlM_cons,dp,hr1,bP];cases ys with|nil=>(cases xs with|nil=>simp[TG]at hf;subst hf;exact⟨v1,rfl,hp1⟩|cons o2 xs=>simp[iU]at hc)|cons y2 ys=>exact ih _ v1 c r hc.2 (.one _ _ (.data _ _ hp1)) (by simp) hf
def atb(v u:Value)(x y z:A)(hv:RV φ E st.r w v x)(hu:RV φ E st.r w u y)(h:aiK x y=ae z):∃v',(asn v u).run P w=.ok v' w/\iD φ w E.ok v' z:=by
 unfold aiK at h;split at h
 ·rw[hv.lL,hu.lL];split at h;·simp only[aq]at h;subst h;exact⟨_,rfl,.int _ _⟩
  ·cases h
 ·cases h
def atc(v u:Value)(x y z:A)(hv:RV φ E st.r w v x)(hu:RV φ E st.r w u y)(h:aiL x y=ae z):∃v',(aso v u).run P w=.ok v' w/\iD φ w E.ok v' z:=by
 unfold aiL at h;split at h
 ·rw[hv.lL,hu.lL];split at h;·simp only[aq]at h;subst h;exact⟨_,rfl,.int _ _⟩
  ·cases h
 ·cases h
def ajS{f:A->A->Option A}{g:Value->Value->Sem Value}(hfg:∀(v u:Value) (x y z:A),RV φ E st.r w v x->RV φ E st.r w u y->f x y=ae z->∃v',(g v u).run P w=.ok v' w/\iD φ w E.ok v' z) (h:lf φ w0 L E st a w) {o:Operand} {os:List Operand} {y:bZ} {ys:List bZ} (h1:bV φ o y=ar) (h2:iU φ os ys=ar) (hne:ys≠ []) {r:A} (hr:TG f (y.v st) (ys.map (bZ.v st))=ae r):QR P φ E st a w ((os.map a.eval).foldlM g (a.eval o)) r:=by obtain⟨v,hrun,hrep⟩:=aot hfg h os ys _ _ r h2 (dz h h1).1 hne hr;exact fQ hrun hrep
def atO{x:Operand}{x':bZ}{i:Nat}(h:lf φ w0 L E st a w)(hx:bV φ x x'=ar){r:A}(hr:(match x'.v st with|.sf xs=>xs[i]? |_=>ai)=ae r):
 QR P φ E st a w (aua (a.eval x) i) r:=by
 have hco:=dz h hx
 split at hr
 ·rename_i xs e
  rw[e]at hco
  obtain⟨vs,ev,hvs⟩:=hco.1.ahr
  rw[ev]at hco⊢
  obtain⟨v,hv,hp⟩:=hvs.get hr
  refine⟨v,by simp[aua,hv],.one _ _ hp,λk b ht=> ?_⟩
  cases ht with
  |one _ _ _ _ ht=>exact hco.2 k b (.sf vs xs i k b v r hv hr ht)
  |sf=>cases hp with|data _ _ h=>cases h
  |agg us ys j k b v' a' hv' ha' ht=>
   generalize hu:qj us.toArray=u at hp
   cases hp with
   |data _ _ h=>subst hu;exact absurd (.agg us ys j k b v' a' hv' ha' ht) (Tk.nW h)
 ·cases hr
end
end Go.Ab
namespace Go.Ab
section
variable {P:Program} {φ:Nat->Nat} {w0:World} {L:kU} {E:Env} {st:St} {a:Act} {w:World}
def anv(P:Program)(φ:Nat->Nat)(w0:World)(L:kU)(E:Env)(st:St)(a:Act)(w:World)(S:Sem Value)(x:A):Prop:=
 ∃v w' E',S.run P w=.ok v w'/\Ext w w'/\E.Le E' w w'/\RV φ E' st.r w' v x/\Nv w0 L E' st a w' v x
def QR.two(h:lf φ w0 L E st a w){S:Sem Value}{x:A}:QR P φ E st a w S x->anv P φ w0 L E st a w S x
 |⟨v,h1,h2,h3⟩=>⟨v,w,E,h1,.refl w,.refl E w w,h2,h3.tok h⟩
def ahv{s d:TypeId}{k:IntKind}{ds:TypeDesc}{x:Operand}{x':bZ}(h:lf φ w0 L E st a w)(hx:bV φ x x'=ar)(hs:P.underlying s=ae ds)(hd:P.underlying d=ae (.int k)){r:A} (hr:(match x'.v st with|.int _ n=>ae (A.int k (k.wrap n))|_=>ai)=ae r):QR P φ E st a w (convert s d (a.eval x)) r:=by
 have vx:=(dz h hx).1;split at hr;·rename_i j n e;simp only[aq]at hr;subst hr;rw[e]at vx;rw[vx.lL];exact fQ (by simp[convert,run_underlying hs,run_underlying hd];rfl) (.int _ _)
 ·cases hr
def aeD{s d:TypeId}{x:Operand}{x':bZ}(h:lf φ w0 L E st a w)(hx:bV φ x x'=ar)(hs:P.underlying s=ae .string)(hd:P.underlying d=ae .string){r:A} (hr:(match x'.v st with|.str n=>ae (A.str n)|_=>ai)=ae r):QR P φ E st a w (convert s d (a.eval x)) r:=by
 have vx:=(dz h hx).1;split at hr;·rename_i n e;simp only[aq]at hr;subst hr;rw[e]at vx;rw[vx.HT];exact fQ (by simp[convert,run_underlying hs,run_underlying hd]) (.str _)
 ·cases hr
def aie{v:Value}{x:A}{z:Nat}{xs:List A}(hr:∀q R,st.r q=ae R->l9 φ E st.r w q R)(hv:RV φ E st.r w v x)(hx:elems st.r x=ae (z,xs)): ∃ad cap,v=.slice ad xs.length cap/\xs.length<=cap/\(xs=[]\/∃b o vs,ad=ae ⟨b,o,ai⟩/\cW φ w E.ok vs (xs.flatMap A.cells)/\cH w b o vs/\(∀y∈xs,y.cells.length=z)):=by
 unfold elems at hx;split at hx<;>(try(cases hx;done))
 ·simp only[aq,be]at hx;obtain⟨rfl,rfl⟩:=hx;cases hv.acE with|No ad cap z=>exact⟨ad,cap,rfl,iW _,.inl rfl⟩|sl b o cap z xs vs hb hz hc h hcc=>exact⟨_,cap,rfl,hc,.inr ⟨b,o,vs,rfl,h,hcc,hz⟩⟩
 ·simp only[aq,be]at hx;obtain⟨rfl,rfl⟩:=hx;cases hv.PL with|data _ _ h=>cases h|DI ad k z=>exact⟨ad,0,rfl,iW _,.inl rfl⟩|tok b o cap k z xs vs hc h0 hz h hcc hm=>exact⟨_,cap,rfl,hc,.inr ⟨b,o,vs,rfl,h,hcc,hz⟩⟩
 ·simp only[aq,be]at hx;obtain⟨rfl,rfl⟩:=hx;exact⟨ai,0,hv.JY,iW _,.inl rfl⟩
 ·rename_i q off n;obtain⟨R,hR,hx⟩:=au.1 hx;simp only[be]at hx;obtain⟨rfl,rfl⟩:=hx;cases hv.zm with|data _ _ h=>cases h|lA _ _ _ _ h1=>rw[h1]at hR;cases hR|kP ad q off R' h1 hb hn=>exact⟨ad,0,by simp,by simp,.inl (by simp)⟩|view b o cap q off n R' h1 hb hn hc h0 hρ hm=>rw[h1]at hR;cases hR;(have hlen:((R.xs.drop off).take n).length=n:=by simp;omega);refine⟨_,cap,by rw[hlen],by omega,?_⟩;have hro:=hr q R h1;cases hro with|empty z h=>exact .inl (by simp)|sl b' o' z xs vs hρ' hz h hv' hr'=>rw[hρ]at hρ';cases hρ';refine .inr ⟨b,_,(vs.drop (off*z)).take (n*z),rfl,?_,(hv'.drop _).take _,λy hy=>hz y (cA (fo hy))⟩;rw[tP (λx hx=>hz x (cA hx)),nh hz];exact(h.drop _).take _|box=>cases hb
def Tx{x:A}{xs:List A}{l:List UInt8}(h:bytesOf (x::xs)=ae l):∃n l',x=.int .u8 n/\bytesOf xs=ae l'/\l=oD n.toNat::l':=by
 unfold bytesOf at h;split at h;·rename_i e;cases e
 ·rename_i n l0 e;cases e;obtain⟨l',hl',rfl⟩:=au.1 h;exact⟨n,l',rfl,hl',rfl⟩
 ·cases h
def aaH:∀{xs:List A} {l:List UInt8} {vs:List Value},bytesOf xs=ae l->cW φ w E.ok vs xs->
 ∃ns:List Int,vs=ns.map (jC .u8)/\l=ns.map (λn=>oD n.toNat)
 | [],l,vs,hl,h=>by cases h;simp[bytesOf]at hl;subst hl;exact⟨[],rfl,rfl⟩
 |x::xs,l,vs,hl,h=>by
  obtain⟨n,l',rfl,hl',rfl⟩:=Tx hl
  cases h with
  |cons v _ vs _ hv ht=>
   obtain⟨ns,rfl,rfl⟩:=aaH hl' ht
   cases hv
   exact⟨n::ns,rfl,rfl⟩
def aaG:∀{xs:List A} {l:List UInt8},bytesOf xs=ae l->xs.flatMap A.cells=xs
 | [],l,hl=>rfl
 |x::xs,l,hl=>by
  obtain⟨n,l',rfl,hl',rfl⟩:=Tx hl
  rw[cg,aaG hl'];rfl
def foldl_push(ns:List Int):∀acc:ByteArray,ns.foldl (λr n=>r.push (oD n.toNat)) acc=⟨(acc.data.toList++ns.map λn=>oD n.toNat).toArray⟩:=by induction ns with|nil=>intro acc;apply Ps;simp|cons n ns ih=>intro acc;rw[asw,ih];apply Ps;simp
def adg{s d e:TypeId}{x:Operand}{x':bZ}(h:lf φ w0 L E st a w)(hx:bV φ x x'=ar)(hs:P.underlying s=ae (.slice e))(he:P.underlying e=ae (.int .u8)) (hd:P.underlying d=ae .string) {r:A} (hr:((elems st.r (x'.v st)).bind λ(z,xs)=>if z=1 then(bytesOf xs).map A.str else ai)=ae r):QR P φ E st a w (convert s d (a.eval x)) r:=by
 have vx:=(dz h hx).1;obtain⟨⟨z,xs⟩,hel,hr⟩:=ak.1 hr;simp only at hr;split at hr
 ·rename_i hz;obtain⟨l,hl,rfl⟩:=au.1 hr;obtain⟨ad,cap,ev,hc,hcase⟩:=aie h.roots vx hel;rw[ev];refine fQ (v:=.string ⟨l.toArray⟩) ?_ (.str _);rw[run_convert_bytes_string w s d e ad _ cap hs he hd];rcases hcase with rfl|⟨b,o,vs,rfl,hrs,hcs,hzz⟩
  ·simp[bytesOf]at hl;subst hl;cases ad with|none=>rfl|some ad=>simp[Conv.bytesToString,loadCells,loadCellsFrom];rfl
  ·rw[aaG hl]at hrs;obtain⟨ns,rfl,rfl⟩:=aaH hl hrs;have hlen:=hrs.length;have hlc:=run_loadCells_list (P:=P) (w:=w) ⟨b,o,ai⟩ _ (λj v hj=>by rw[World.cell?_add];exact hcs j v hj);rw[run_bytesToString w ⟨b,o,ai⟩ xs.length cap ns (by rw[<-hlen];exact hlc),foldl_push];simp
 ·cases hr
end
end Go.Ab
namespace Go.Ab
section
variable {P:Program} {φ:Nat->Nat} {w0:World} {L:kU} {E:Env} {st:St} {a:Act} {w w':World}
def Ea{C:Array Value}{e:TypeId}(hh:w'.heap=w.heap.push (.cells C e))(he:w'.os=w.os/\w'.output=w.output):Ext w w':=
 ⟨by rw[hh];simp,λb hb=>by rw[hh,Array.getElem?_push,aO (by omega)],he⟩
def Ax{z:Nat}{C:Array Value}{e:TypeId}(hh:w'.heap=w.heap.push (.cells C e)):fA z w' w.heap.size C.size:=
 ⟨C,e,(0,0),by rw[hh];simp,bm _,λoff _=>by simp[xF,hh]⟩
def pG{C:Array Value}{e:TypeId}(hh:w'.heap=w.heap.push (.cells C e)):cH w' w.heap.size 0 C.toList:=λj v hj=>by simp only[df,hh,xy];simpa using hj
def aiO(h:lf φ w0 L E st a w){m:Nat}(he:Ext w w')(hsz:w.heap.size<w'.heap.size){k z cap:Nat}(hrm:fA z w' w.heap.size m){xs:List A}{vs:List Value}(hz:∀x∈xs,x.cells.length=z) (hr:cW φ w E.ok vs (xs.flatMap A.cells)) (hv:cH w' w.heap.size 0 vs) (hc:xs.length<=cap) (hs:cap*z<=m): RV φ E st.r w' (.slice (ae ⟨w.heap.size,0,ai⟩) xs.length cap) (.tok k z xs)/\Nv w0 L E st a w' (.slice (ae ⟨w.heap.size,0,ai⟩) xs.length cap) (.tok k z xs):=by
 have hnok:¬E.ok w.heap.size:=λhk=>Nat.lt_irrefl _ (h.UP _ hk);have hr':cW φ w' E.ok vs (xs.flatMap A.cells):=hr.mono (λb hb=>he.same b (h.UP b hb)) (λ_ hb=>hb);by_cases h0:cap=0
 ·subst h0;obtain rfl:xs=[]:=gy (by omega);have hno:∀k' b,¬Tk (.slice (ae ⟨w.heap.size,0,ai⟩) ([]:List A).length 0) (.tok k z []) k' b:=by intro k' b ht;cases ht with|one _ _ _ _ ht=>cases ht;contradiction
  exact⟨.one _ _ (.DI _ _ _),⟨λk' b ht=>(hno k' b ht).elim,λi k1 k2 b b' ht=>(hno _ _ ht).elim,λk1 k2 b b' ht=>(hno _ _ ht).elim⟩⟩
 ·have hb:∀k' b,Tk (.slice (ae ⟨w.heap.size,0,ai⟩) xs.length cap) (.tok k z xs) k' b->b=w.heap.size/\k'=k:=by intro k' b ht;cases ht with|one _ _ _ _ ht=>cases ht;exact⟨rfl,rfl⟩
  refine⟨.one _ _ (.tok w.heap.size 0 cap k z xs vs hc h0 hz hr' hv (hrm.le (by omega))),⟨λk' b ht=> ?_,λi k1 k2 b b' ht ht' _=> ?_,λk1 k2 b b' ht ht' hne=> ?_⟩⟩;·obtain⟨rfl,rfl⟩:=hb _ _ ht;exact⟨⟨hnok,.inl h.grow,hsz⟩,λq b' o hq hρ e=>by have:=(h.rz q b' o hq hρ).2.2;omega⟩
  ·obtain⟨rfl,rfl⟩:=hb _ _ ht;have:=(h.tz i k2 b' ht').1.2.2;omega
  ·obtain⟨_,rfl⟩:=hb _ _ ht;obtain⟨_,rfl⟩:=hb _ _ ht';exact absurd rfl hne
def agL(h:lf φ w0 L E st a w){C:Array Value}{e:TypeId}(hh:w'.heap=w.heap.push (.cells C e))(hev:w'.os=w.os/\w'.output=w.output){k z cap:Nat}{xs:List A}{vs:List Value}(hz:∀x∈xs,x.cells.length=z)
 (hr:cW φ w E.ok vs (xs.flatMap A.cells)) (hv:cH w' w.heap.size 0 vs) (hc:xs.length<=cap) (hs:cap*z<=C.size):
 RV φ E st.r w' (.slice (ae ⟨w.heap.size,0,ai⟩) xs.length cap) (.tok k z xs)/\Nv w0 L E st a w' (.slice (ae ⟨w.heap.size,0,ai⟩) xs.length cap) (.tok k z xs):=
 aiO h (Ea hh hev) (by rw[hh];simp) (Ax hh) hz hr hv hc hs
def ajR(h:lf φ w0 L E st a w){S:Sem Value}{C:Array Value}{e:TypeId}(hh:w'.heap=w.heap.push (.cells C e))(hev:w'.os=w.os/\w'.output=w.output){k z cap:Nat}{xs:List A}{vs:List Value}(hz:∀x∈xs,x.cells.length=z) (hrun:S.run P w=.ok (.slice (ae ⟨w.heap.size,0,ai⟩) xs.length cap) w') (hr:cW φ w E.ok vs (xs.flatMap A.cells)) (hv:cH w' w.heap.size 0 vs) (hc:xs.length<=cap) (hs:cap*z<=C.size):anv P φ w0 L E st a w S (.tok k z xs):=by obtain⟨h1,h2⟩:=agL (k:=k) h hh hev hz hr hv hc hs;exact⟨_,w',E,hrun,Ea hh hev,.refl E w w',h1,h2⟩
def agn(P:Program)(e:TypeId)(z:Nat)(zero:A):Bool:=
 match P.info? e with
 |some i=>i.size==z&&(match i.zero with|some v=>TA v.cells.toList zero.cells&&v.cells.size==z|none=>aw)
 |none=>aw
def Pv{e:TypeId}{z:Nat}{zero:A}(h:agn P e z zero=ar):∃i v,P.info? e=ae i/\i.size=z/\i.zero=ae v/\TA v.cells.toList zero.cells=ar/\v.cells.size=z:=by
 unfold agn at h;split at h
 ·rename_i i hi;simp only[aj,b9]at h;obtain⟨h1,h2⟩:=h;split at h2;·rename_i v hv;simp only[aj,b9]at h2;exact⟨i,v,hi,h1,hv,h2.1,h2.2⟩
  ·cases h2
 ·cases h
def ox(z:Array Value):∀c:Nat,(madeCells z (c*z.size)).toList=(aZ c z.toList).flatten
 |0=>by simp[madeCells]
 |c+1=>by
  have ih:=ox z c
  rw[List.replicate_succ',anp,<-ih]
  simp only[madeCells,Array.toList_map,Array.toList_range,dW,List.range_add,eu,uX,Mt,List.flatten_nil,bS]
  congr 1
  apply List.ext_getElem?
  intro i
  by_cases hi:i<z.size
  ·simp[hi,Nat.mod_eq_of_lt hi]
  ·simp[hi]
def yP{ok:Nat->Prop}{vs:List Value}{zero:A}(h:cW φ w ok vs zero.cells):∀c:Nat,cW φ w ok (aZ c vs).flatten ((aZ c zero).flatMap A.cells)
 |0=>.nil
 |c+1=>by simpa[List.replicate_succ]using h.append (yP h c)
def atU{t e:TypeId}{z d bytes:Nat}{zero:A}{l c:Operand}{l' c':bZ}(h:lf φ w0 L E st a w)(hl:bV φ l l'=ar)(hc:bV φ c c'=ar)(ht:P.underlying t=ae (.slice e))
 (hz:agn P e z zero=ar) (hb:∀i,P.info? e=ae i->i.bytes=bytes) {r:A}
 (hr:(match l'.v st,c'.v st with
  |.int .i64 n,.int .i64 m=>
   if 0<=n/\n<=m/\m<(lim:Int)/\bytes<=256/\zero.cells.length=z then ae (A.tok (8*d) z (aZ n.toNat zero))else ai
  |_,_=>ai)=ae r):anv P φ w0 L E st a w (Instr.makeSlice t (a.eval l) (a.eval c)) r:=by
 have vl:=(dz h hl).1
 have vc:=(dz h hc).1
 split at hr
 ·rename_i n m e1 e2
  rw[e1]at vl;rw[e2]at vc
  rw[vl.lL,vc.lL]
  split at hr
  ·rename_i hcond
   obtain⟨h0,hnm,hm,hb256,hzl⟩:=hcond
   simp only[aq]at hr;subst hr
   obtain⟨i,v,hi,hsz,hzero,hcs,hvz⟩:=Pv hz
   have hbi:=hb i hi
   have hlim:m<1099511627776:=by simpa[lim]using hm
   have hbytes:(i.bytes:Int)*m<=281474976710656:=by rw[hbi];(have h1:(bytes:Int)<=256:=by omega);have h2:(bytes:Int)*m<=256*m:=kT h1 (by omega);omega
   have hrun:=run_make w t e i v ht hi hzero .i64 .i64 n m h0 hnm hbytes (by omega)
   have hlen:(aZ n.toNat zero).length=n.toNat:=by simp
   have hmade:(madeCells v.cells (m.toNat*i.size)).toList=(aZ m.toNat v.cells.toList).flatten:=by rw[hsz,<-hvz];exact ox _ _
   have hcells:=pG (w:=w) (w':=w.alloc (.cells (madeCells v.cells (m.toNat*i.size)) e)) rfl
   rw[hmade]at hcells
   have hsplit:(aZ m.toNat v.cells.toList).flatten=(aZ n.toNat v.cells.toList).flatten++(aZ (m.toNat-n.toNat) v.cells.toList).flatten:=by rw[<-anp,List.replicate_append_replicate];congr 2;omega
   rw[hsplit]at hcells
   refine ajR (w':=w.alloc (.cells (madeCells v.cells (m.toNat*i.size)) e)) h rfl ⟨rfl,rfl⟩ (λx hx=>by rw[MV hx];exact hzl) (by rw[hlen];exact hrun) (yP (wP hcs) _) hcells.left (by rw[hlen];omega) (by rw[size_madeCells,hsz];exact bm _)
  ·cases hr
 ·cases hr
def aeE{s d e:TypeId}{x:Operand}{x':bZ}{k z:Nat}(h:lf φ w0 L E st a w)(hx:bV φ x x'=ar)(hs:P.underlying s=ae .string)(hd:P.underlying d=ae (.slice e))(he:P.underlying e=ae (.int .u8)){r:A} (hr:(match x'.v st with|.str s=>if z=1 then ae (A.tok (8*k) 1 (s.map λb=>.int .u8 b.toNat))else ai|_=>ai)=ae r):anv P φ w0 L E st a w (convert s d (a.eval x)) r:=by
 have vx:=(dz h hx).1;split at hr
 ·rename_i l e1;split at hr;·simp only[aq]at hr;subst hr;rw[e1]at vx;rw[vx.HT];have hrun:=Go.Lib.run_convert_string_bytes (P:=P) w s d e ⟨l.toArray⟩ hs hd he;have hge:=grownCap_ge w l.length 0 e;(have hbs:(⟨l.toArray⟩:ByteArray).size=l.length:=by simp[Yt]);rw[hbs]at hrun;have hext:Ext w (VB w e ⟨l.toArray⟩):=⟨by rw[ahF];omega,λb hb=>Go.Lib.bytesWorld_at_old w e _ b hb,⟨rfl,rfl⟩⟩;(have hsz:(anm w e ⟨l.toArray⟩).size=grownCap w l.length 0 e:=by simp only[anm,Mo,Array.size_map,Array.size_replicate,hbs];simp only[Nu];omega);(have hroom:fA 1 (VB w e ⟨l.toArray⟩) w.heap.size (grownCap w l.length 0 e):=by refine⟨_,_,_,aeI w e _,by omega,λoff ho=> ?_⟩;simp only[xF,aeI];simp;omega);(have hcells:cH (VB w e ⟨l.toArray⟩) w.heap.size 0 (l.map λb=>jC .u8 b.toNat):=λj v hj=>by obtain⟨hlt,rfl⟩:=iL.1 hj;(have hlt':j<l.length:=by simpa using hlt);rw[c8,Go.Lib.bytesWorld_cell w e _ j (by rw[hbs];exact hlt')];simp[hlt']);(have hreps:cW φ w E.ok (l.map λb=>jC .u8 b.toNat) ((l.map λb=>A.int .u8 (b.toNat:Int)).flatMap A.cells):=by clear hrun hext hsz hroom hcells e1 hge hbs vx;induction l with|nil=>exact .nil|cons b l ih=>exact .cons _ _ _ _ (.int _ _) ih);have:=aiO (k:=8*k) (z:=1) (cap:=grownCap w l.length 0 e) h hext (by rw[ahF];omega) hroom (xs:=l.map λb=>A.int .u8 (b.toNat:Int)) (λy hy=>by obtain⟨b,_,rfl⟩:=dK.1 hy;rfl) hreps hcells (by simpa using hge) (by omega);rw[aT]at this;exact⟨_,_,E,hrun,hext,.refl E w _,this.1,this.2⟩
  ·cases hr
 ·cases hr
def anX(off:Nat):∀(vs:List Value) (j:Nat) (cs:Array Value),off+j+vs.length<=cs.size-> ((vs.zipIdx j).foldl (λcs (p:Value×Nat)=>cs.setIfInBounds (off+p.2) p.1) cs).toList=cs.toList.take (off+j)++vs++cs.toList.drop (off+j+vs.length):=by intro vs;induction vs with|nil=>intro j cs h;simp|cons v vs ih=>intro j cs h;simp only[bh]at h;rw[List.zipIdx_cons,asw,ih (j+1) _ (by simp;omega)];(have hlt:off+j<cs.toList.length:=by simp;omega);simp only[Array.toList_setIfInBounds,bh];rw[show off+(j+1)=(off+j)+1 from by omega,List.take_set,List.drop_set,aJ (by omega),show off+j+1+vs.length=off+j+(vs.length+1)from by omega];congr 1;(have hlt':off+j<cs.size:=by simpa using hlt);rw[aaw hlt,List.set_append];simp[cQ,S6 (Nat.le_of_lt hlt')]
def II{place:Nat->Option (Nat×Nat)}{cells:Array Value}{i off:Nat}{v:Value}{rest:List (Nat×Value)}(hp:place i=ae (off,v.cells.size))(hb:off+v.cells.size<=cells.size): ∃cells',cells'.toList=cells.toList.take off++v.cells.toList++cells.toList.drop (off+v.cells.size)/\VF place cells ((i,v)::rest)=VF place cells' rest:=by
 refine⟨v.cells.zipIdx.foldl (λcs (c,j)=>cs.setIfInBounds (off+j) c) cells,?_,?_⟩;·rw[<-Array.foldl_toList,Array.toList_zipIdx];have:=anX off v.cells.toList 0 cells (by simpa using hb);simpa using this
 ·simp only[VF,hp];rw[aO];simp;omega
def fE.set{p:Value->A->Prop}{vs us:List Value}{cs ds:List A}(h:fE p vs cs)(hu:fE p us ds){off:Nat}{cs':List A}(hs:setCells cs off ds=ae cs'): fE p (vs.take off++us++vs.drop (off+us.length)) cs'/\off+us.length<=vs.length/\cs'.length=cs.length:=by
 unfold setCells at hs;split at hs
 ·rename_i hle;simp only[aq]at hs;subst hs;have hul:=hu.1;refine⟨?_,by rw[h.1,hul];exact hle,by simp;omega⟩;have h1:fE p (vs.take off) (cs.take off):=by simpa using h.NA 0 off
  have h2:fE p (vs.drop (off+us.length)) (cs.drop (off+ds.length)):=by have:=h.NA (off+us.length) (vs.length);rw[dO (by simp),dO (by simp[h.1])]at this;rwa[hul]at this⊢
  exact(h1.append hu).append h2
 ·cases hs
def PC(φ:Nat->Nat)(E:Env)(st:St)(a:Act)(w:World)(v:Value)(x:A):Prop:=jr φ E st.r w v x/\∀k b,Jh v x k b->∃i,Tk (a.eval (.tmp i)) (st.t i) k b
def A.DO{x:A}(h:∀cs,x≠ .agg cs):x.cells=[x]:=by cases x<;>first|rfl|exact absurd rfl (h _)
def Xb{v:Value}{x:A}(hv:RV φ E st.r w v x)(hs:gj st.r x=ar)(hx:∀cs,x≠ .agg cs):jr φ E st.r w v x/\v.cells= #[v]:=by
 have dat:iD φ w E.ok v x->jr φ E st.r w v x/\v.cells= #[v]:=by intro h1;have h4:=h1.LG hx;exact⟨.data _ _ h1,by cases v<;>first|rfl|exact absurd rfl (h4.1 _)⟩
 cases hv with
 |one _ _ h1=>cases h1 with
  |any=>simp[gj,cr]at hs
  |undef=>simp[gj,cr]at hs
  |data _ _ h1=>exact dat h1
  |DI=>exact⟨.DI _ _ _,rfl⟩
  |tok b o cap k z xs vs hcc h0 hz h hv' hr=>exact⟨.tok b o cap k z xs vs hcc h0 hz h hv' hr,rfl⟩
  |lA _ _ _ _ h1=>simp[gj,h1]at hs
  |kP ad q off R h1 hb hn=>exact⟨.kP ad q off R h1 hb hn,rfl⟩
  |view b o cap q off n R h1 hb hn hcc h0 hρ hr=>exact⟨.view b o cap q off n R h1 hb hn hcc h0 hρ hr,rfl⟩
  |Lx _ _ _ _ h1=>simp[gj,h1]at hs
  |loc b o q i c R h1 hρ=>exact⟨.loc b o q i c R h1 hρ,rfl⟩
 |sf=>simp[gj,cr]at hs
 |agg=>exact absurd rfl (hx _)
 |fn f vs xs h1=>
  simp only[gj,cr,qk]at hs;subst hs;have:=h1.1;simp at this;subst this;exact⟨.data _ _ (.fn f [] [] .nil),rfl⟩
def OY{v:Value}{x:A}(hv:RV φ E st.r w v x)(hc:DX st a v x)(hs:x.cells.all (gj st.r)=ar):fE (PC φ E st a w) v.cells.toList x.cells:=by
 by_cases hx:∃cs,x=.agg cs;·obtain⟨cs,rfl⟩:=hx;obtain⟨vs,rfl,h⟩:=hv.xK;refine⟨by simpa[adw,A.cells]using h.1,λj v x hv' hx=> ?_⟩;simp only[adw,A.cells]at hv' hx;exact⟨h.2 j v x hv' hx,λk b ht=>hc k b (.agg vs cs j k b v x hv' hx ht)⟩
 ·have hx':∀cs,x≠ .agg cs:=λcs e=>hx ⟨cs,e⟩;rw[A.DO hx']at hs⊢;simp only[de,fK,aeG]at hs;obtain⟨h1,h2⟩:=Xb hv hs hx';rw[h2];exact .cons ⟨h1,λk b ht=>hc k b (.one _ _ _ _ ht)⟩ .nil
def Jm(φ:Nat->Nat)(place:Nat->Option (Nat×Nat)):List (Nat×Operand)->List (Nat×Nat×bZ)->Bool
 | [],[]=>ar
 |(i,x)::l,(off,z,y)::m=>place i==ae (off,z)&&bV φ x y&&Jm φ place l m
 |_,_=>aw
def aoq(h:lf φ w0 L E st a w){place:Nat->Option (Nat×Nat)}:∀(l:List (Nat×Operand)) (m:List (Nat×Nat×bZ)) (cells:Array Value) (cs cs':List A),Jm φ place l m=ar-> fE (PC φ E st a w) cells.toList cs->zC st cs m=ae cs'->∃cells',VF place cells (l.map λp=>(p.1,a.eval p.2))=ae cells'/\fE (PC φ E st a w) cells'.toList cs':=by intro l;induction l with|nil=>(intro m cells cs cs' hc hv hf;cases m with|nil=>simp[zC]at hf;subst hf;exact⟨cells,rfl,hv⟩|cons=>simp[Jm]at hc)|cons p l ih=>intro m cells cs cs' hc hv hf;obtain⟨i,x⟩:=p;cases m with|nil=>simp[Jm]at hc|cons q m=>obtain⟨off,z,y⟩:=q;simp only[Jm,aj,b9]at hc;obtain⟨⟨hp,hx⟩,hc⟩:=hc;simp only[zC]at hf;split at hf;(·rename_i hcond;obtain⟨hzl,hsol⟩:=hcond;obtain⟨cs1,hs,hf⟩:=ak.1 hf;have ho:=dz h hx;have hcell:=OY ho.1 ho.2 hsol;(have hsz:(a.eval x).cells.size=z:=by have:=hcell.1;simp at this;omega);obtain⟨h1,h2,h3⟩:=hv.set hcell hs;simp only[Ys]at h1 h2;obtain⟨cells',hc1,hc2⟩:=II (place:=place) (cells:=cells) (i:=i) (v:=a.eval x) (rest:=l.map λp=>(p.1,a.eval p.2)) (by rw[hp,hsz]) h2;simp only[aP];rw[hc2];exact ih m cells' cs1 cs' hc (by rw[hc1];exact h1) hf);·cases hf
end
end Go.Ab
namespace Go.Ab
section
variable {P:Program} {φ:Nat->Nat} {w0:World} {L:kU} {E:Env} {st:St} {a:Act} {w w':World}
def jr.cr{v:Value}{x:A}{r:Nat->Option dF}(h:jr φ E r w v x)(hp:Ab.cr x=ar):iD φ w E.ok v x:=by cases h with|data _ _ h=>exact h|_=>simp[Ab.cr]at hp
def RV.aqq{v:Value}{f:Nat}{r:Nat->Option dF}(h:RV φ E r w v (.fn f [])):iD φ w E.ok v (.fn f []):=by obtain⟨vs,rfl,hv⟩:=h.aa1;have:=hv.1;simp at this;subst this;exact .fn f [] [] .nil
def RV.cr{v:Value}{x:A}{r:Nat->Option dF}(h:RV φ E r w v x)(hp:Ab.cr x=ar):iD φ w E.ok v x:=by cases x with|fn f caps=>simp only[Ab.cr,qk]at hp;subst hp;exact h.aqq|agg=>simp[Ab.cr]at hp|sf=>simp[Ab.cr]at hp|_=>cases h with|one _ _ h=>exact h.cr hp
def amo{v:Value}{x y:A}{r:Nat->Option dF}(h:RV φ E r w v x)(hd:dat x=ae y):iD φ w E.ok v y:=by
 unfold dat at hd;split at hd
 ·rename_i hp;simp only[aq]at hd;subst hd;by_cases hx:∃cs,x=.agg cs;·obtain⟨cs,rfl⟩:=hx;obtain⟨vs,rfl,hv⟩:=h.xK;simp only[Ab.pure,aG]at hp;refine .agg _ _ (cW.norm (fE.W6 ⟨hv.1,λj v x hv' hx=>(hv.2 j v x hv' hx).cr (hp x (bw hx))⟩))
  ·(have hp':Ab.cr x=ar:=by cases x<;>first|exact hp|exact absurd ⟨_,rfl⟩ hx);(have hn:afl x=qz x:=by cases x<;>first|rfl|exact absurd ⟨_,rfl⟩ hx);rw[hn];exact(h.cr hp').norm
 ·cases hd
def run_places{fs:Array Field}(h:fs.toList.all (λf=>(P.info? f.type).isSome)=ar): (fs.mapM λf=>(do I4 (f.offset,<-sizeOf f.type):Sem (Nat×Nat))).run P w=.ok (fs.map λf=>(f.offset,P.cellsOf f.type)) w:=by
 rw[Array.mapM_eq_mapM_toList];have key:∀l:List Field,l.all (λf=>(P.info? f.type).isSome)=ar->(l.mapM λf=>(do I4 (f.offset,<-sizeOf f.type):Sem (Nat×Nat))).run P w=.ok (l.map λf=>(f.offset,P.cellsOf f.type)) w:=by intro l;induction l with|nil=>intro _;rfl|cons f l ih=>intro h;simp only[de,aj]at h;obtain⟨i,hi⟩:=dq.1 h.1;(have e1:(sizeOf f.type).run P w=.ok (P.cellsOf f.type) w:=by simp[sizeOf,typeInfo,hi,ao6]);simp only[List.mapM_cons,dp,jb,bP,e1,ih h.2,aP]
 have:=key fs.toList h;have e:(iN (λf:Field=>(f.offset,P.cellsOf f.type)) fs.toList).toArray=fs.map λf=>(f.offset,P.cellsOf f.type):=by apply Ri;simp
 rw[Sem.run_map,this,bP,e]
def placeOf(P:Program)(t:TypeId)(i:Nat):Option (Nat×Nat):=
 match P.underlying t with
 |some (.struct fs)=>(fs[i]?).map λf=>(f.offset,P.cellsOf f.type)
 |some (.array _ e)=>ae (i*P.cellsOf e,P.cellsOf e)
 |_=>ai
def aaP(P:Program)(φ:Nat->Nat)(t:TypeId)(parts:List (Nat×Operand))(zero:List A)(ps:List (Nat×Nat×bZ)):Bool:=
 (match P.info? t with|some i=>(match i.zero with|some v=>TA v.cells.toList zero|none=>aw)|none=>aw)&&
 (match P.underlying t with
  |some (.struct fs)=>fs.toList.all (λf=>(P.info? f.type).isSome)
  |some (.array _ e)=>(P.info? e).isSome
  |_=>aw)&&
 Jm φ (placeOf P t) parts ps
def PC.nW{v:Value}{x:A}(h:iD φ w E.ok v x):PC φ E st a w v x:=⟨.data _ _ h,λk b ht=>(Jh.nW h ht).elim⟩
def aoQ{t:TypeId}{parts:Array (Nat×Operand)}{zero:List A}{ps:List (Nat×Nat×bZ)}(h:lf φ w0 L E st a w)(hc:aaP P φ t parts.toList zero ps=ar){r:A} (hr:(zC st zero ps).map A.agg=ae r):QR P φ E st a w (awg t (parts.map λp=>(p.1,a.eval p.2))) r:=by
 obtain⟨cs',hf,rfl⟩:=au.1 hr;simp only[aaP,aj]at hc;obtain⟨⟨hz,ht⟩,hp⟩:=hc;split at hz
 ·rename_i i hi;split at hz;·rename_i z hzero;have h0:fE (PC φ E st a w) z.cells.toList zero:=(fE.mT (wP hz)).imp λv x hh=>PC.nW hh;obtain⟨cells',hfill,hall⟩:=aoq h parts.toList ps z.cells zero cs' hp h0 hf;(have hparts:(parts.map λp=>(p.1,a.eval p.2)).toList=parts.toList.map λp=>(p.1,a.eval p.2):=by simp);(have hfin:RV φ E st.r w (.agg cells') (.agg cs')/\DX st a (.agg cells') (.agg cs'):=by obtain⟨l,rfl⟩:∃l:List Value,cells'=l.toArray:=⟨cells'.toList,by simp⟩;refine⟨.agg _ _ (hall.imp λv x hh=>hh.1),λk b htk=> ?_⟩;generalize hu:qj l.toArray=u at htk;cases htk with|one _ _ _ _ htk=>cases htk|agg us xs j k b v x hv hx htk=>simp at hu;subst hu;exact(hall.2 j v x (by simpa using hv) hx).2 k b htk);(have hzv:(zeroValue t).run P w=.ok z w:=by simp[zeroValue,typeInfo,hi,hzero]);refine⟨_,?_,hfin.1,hfin.2⟩;simp only[awg,dp,hzv,bP];cases hd:P.underlying t with|none=>simp[hd]at ht|some d=>rw[run_underlying hd];(cases d<;>simp only[hd]at ht<;>(try(cases ht;done)));(·rename_i len e;obtain⟨ei,hei⟩:=dq.1 ht;(have e1:(sizeOf e).run P w=.ok (P.cellsOf e) w:=by simp[sizeOf,typeInfo,hei,ao6]);(have hpl:placeOf P t=λi=>ae (i*P.cellsOf e,P.cellsOf e):=by funext i;simp[placeOf,hd]);rw[hpl]at hfill;simp only[bP,dp,e1,hparts,hfill,jb]);·rename_i fs;(have hpl:placeOf P t=λi=>(fs.map λf=>(f.offset,P.cellsOf f.type))[i]? :=by funext i;simp[placeOf,hd]);rw[hpl]at hfill;simp only[bP,dp,run_places ht,hparts,hfill,jb]
  ·cases hz
 ·cases hz
def aa0{xs:List A}{z:Nat}(hz:∀x∈xs,x.cells.length=z){v:A}(hv:v.cells.length=z):∀{i:Nat},i<xs.length-> (xs.set i v).flatMap A.cells=(xs.flatMap A.cells).take (i*z)++v.cells++(xs.flatMap A.cells).drop (i*z+z):=by induction xs with|nil=>intro i h;simp at h|cons x xs ih=>intro i h;have hx:=hz x (di ..);cases i with|zero=>simp only[List.set_cons_zero,cg,Nat.zero_mul,xf,dU,c8];rw[F9,hx,bb (by omega),ahT,dV,dU]|succ i=>(have h1:(i+1)*z-x.cells.length=i*z:=by rw[hx,dW];omega);have h2:x.cells.take ((i+1)*z)=x.cells:=dO (by rw[hx,dW];omega);(have h3:(i+1)*z+z-x.cells.length=i*z+z:=by rw[hx,dW];omega);have h4:x.cells.drop ((i+1)*z+z)=[]:=bb (by rw[hx,dW];omega);simp only[List.set_cons_succ,cg];rw[ih (λy hy=>hz y (aL _ hy)) (by simpa using h),asc,F9,h1,h2,h3,h4];simp
def ng(φ:Nat->Nat):List (Nat×Operand)->List (Nat×bZ)->Bool
 | [],[]=>ar
 |(i,x)::l,(j,y)::m=>i==j&&bV φ x y&&ng φ l m
 |_,_=>aw
def aos(h:lf φ w0 L E st a w){z:Nat}:∀(l:List (Nat×Operand)) (m:List (Nat×bZ)) (cells:Array Value) (xs xs':List A),ng φ l m=ar->(∀x∈xs,x.cells.length=z)-> cW φ w E.ok cells.toList (xs.flatMap A.cells)->Jr st z xs m=ae xs'-> ∃cells',VF (λi=>ae (i*z,z)) cells (l.map λp=>(p.1,a.eval p.2))=ae cells'/\cW φ w E.ok cells'.toList (xs'.flatMap A.cells)/\(∀x∈xs',x.cells.length=z)/\xs'.length=xs.length:=by
 intro l
 induction l with
 |nil=>
  intro m cells xs xs' hc hz hv hf;cases m with|nil=>simp[Jr]at hf;subst hf;exact⟨cells,rfl,hv,hz,rfl⟩|cons=>simp[ng]at hc
 |cons p l ih=>
  intro m cells xs xs' hc hz hv hf;obtain⟨i,x⟩:=p
  cases m with
  |nil=>simp[ng]at hc
  |cons q m=>
   obtain⟨j,y⟩:=q;simp only[ng,aj,b9]at hc;obtain⟨⟨rfl,hx⟩,hc⟩:=hc;simp only[Jr]at hf;obtain⟨v,hd,hf⟩:=ak.1 hf;split at hf
   ·rename_i hcond;obtain⟨hvz,hlt⟩:=hcond;have hrep:=amo (dz h hx).1 hd;have hcells:=hrep.cells;(have hsz:(a.eval x).cells.size=z:=by have:=hcells.length;simp at this;omega);have hfl:=js hz;(have hcl:cells.size=xs.length*z:=by have:=hv.length;rw[hfl]at this;simpa using this);(have hle:i*z+z<=xs.length*z:=by have:(i+1)*z<=xs.length*z:=cu z hlt;rw[dW]at this;exact this);obtain⟨cells',hc1,hc2⟩:=II (place:=λi=>ae (i*z,z)) (cells:=cells) (i:=i) (v:=a.eval x) (rest:=l.map λp=>(p.1,a.eval p.2)) (by rw[hsz]) (by rw[hsz,hcl];exact hle);simp only[aP];rw[hc2];have hz':∀y∈xs.set i v,y.cells.length=z:=by intro y hy;(rcases anq hy with h'|rfl);(·exact hz y h');·exact hvz
    obtain⟨c2,h1,h2,h3,h4⟩:=ih m cells' (xs.set i v) xs' hc hz' (by
     rw[hc1,hsz,aa0 hz hvz hlt]
     exact((hv.take _).append hcells).append (hv.drop _)) hf
    exact⟨c2,h1,h2,h3,by simpa using h4⟩
   ·cases hf
def atL{t e:TypeId}{n z d:Nat}{parts:Array (Nat×Operand)}{zero:A}{ps:List (Nat×bZ)}(h:lf φ w0 L E st a w)(ht:P.underlying t=ae (.slice e))(hz:agn P e z zero=ar) (hc:ng φ parts.toList ps=ar) {r:A} (hr:(if n*z<=16777216/\zero.cells.length=z then(Jr st z (aZ n zero) ps).map λxs=>A.tok (8*d) z xs else ai)=ae r): anv P φ w0 L E st a w (vH t n (parts.map λp=>(p.1,a.eval p.2))) r:=by
 split at hr
 ·rename_i hcond;obtain⟨xs,hf,rfl⟩:=au.1 hr;obtain⟨i,v,hi,hsz,hzero,hcs,hvz⟩:=Pv hz;have hmade:(madeCells v.cells (n*z)).toList=(aZ n v.cells.toList).flatten:=by rw[<-hvz];exact ox _ _
  have h0:cW φ w E.ok (madeCells v.cells (n*z)).toList ((aZ n zero).flatMap A.cells):=by rw[hmade];exact yP (wP hcs) n
  obtain⟨cells',h1,h2,h3,h4⟩:=aos h parts.toList ps _ _ xs hc (λx hx=>by rw[MV hx];exact hcond.2) h0 hf;have hxl:xs.length=n:=by simpa using h4
  have hparts:(parts.map λp=>(p.1,a.eval p.2)).toList=parts.toList.map λp=>(p.1,a.eval p.2):=by simp
  have hlim:¬n*z>16777216:=by omega
  have hcl:cells'.size=n*z:=by have:=h2.length;rw[js h3,hxl]at this;simpa using this
  have hrun:(vH t n (parts.map λp=>(p.1,a.eval p.2))).run P w=.ok (.slice (ae ⟨w.heap.size,0,ai⟩) n n) {w with heap:=w.heap.push (.cells cells' e)}:=by(have e1:(sizeOf e).run P w=.ok z w:=by simp[sizeOf,typeInfo,hi,hsz]);(have hzv:(zeroValue e).run P w=.ok v w:=by simp[zeroValue,typeInfo,hi,hzero]);by_cases hn:n*z=0;(·(have hm0:madeCells v.cells (n*z)= #[]:=by rw[hn];simp[madeCells,Yu]);rw[hm0]at h1;(have hm1:((ani (n*z)).map ((#[]:Array Value)[· %(#[]:Array Value).size]!))= #[]:=by rw[hn];simp[Yu]);simp only[vH,dp,run_underlying ht,bP,e1,asq,hn,aC,jb,hparts,show¬(0>2^24)from by decide,aH];simp only[hn]at hm1;simp only[hm1,h1];simp[newRow]);·simp only[vH,dp,run_underlying ht,bP,e1,hlim,asq,aH,hn,hzv,jb,hparts];have hm1:((ani (n*z)).map (v.cells[· %v.cells.size]!))=madeCells v.cells (n*z):=rfl;simp only[hm1,h1];simp[newRow]
  refine ajR (w':={w with heap:=w.heap.push (.cells cells' e)}) h (C:=cells') (e:=e) (cap:=n) (vs:=cells'.toList) rfl ⟨rfl,rfl⟩ h3 (by rw[hxl];exact hrun) h2 (pG rfl) (by omega) (by rw[hcl];exact bm _)
 ·cases hr
end
end Go.Ab
namespace Go.Ab
inductive gD(φ:Nat->Nat)(w:World)(K:Nat->Prop):Value->Nat->List A->Option Nat->Prop
 |empty (ad:Option Addr) (z:Nat):gD φ w K (.slice ad 0 0) z [] ai
 |mk (b o cap z:Nat) (xs:List A) (vs:List Value) (hc:xs.length<=cap) (h0:cap≠0) (hz:∀x∈xs,x.cells.length=z)
   (h:cW φ w K vs (xs.flatMap A.cells)) (hv:cH w b o vs) (hr:fA z w b (o+cap*z)):gD φ w K (.slice (ae ⟨b,o,ai⟩) xs.length cap) z xs (ae b)
inductive AL(φ:Nat->Nat)(w:World)(K:Nat->Prop):Value->A->Option Nat->Prop
 |data (v:Value) (a:A) (h:iD φ w K v a) (ha:∀cs,a≠ .agg cs):AL φ w K v a ai
 |own (v:Value) (z:Nat) (xs:List A) (b:Option Nat) (h:gD φ w K v z xs b):AL φ w K v (.own z xs) b
inductive dj(φ:Nat->Nat)(w:World)(K:Nat->Prop):List Value->List A->List Nat->Prop
 |nil:dj φ w K [] [] []
 |cons (v:Value) (a:A) (b:Option Nat) (vs:List Value) (ab:List A) (bs:List Nat) (h:AL φ w K v a b) (t:dj φ w K vs ab bs):dj φ w K (v::vs) (a::ab) (b.toList++bs)
inductive jE(φ:Nat->Nat)(w:World)(K:Nat->Prop):Value->Nat->A->List Nat->Prop
 |mk (b o z:Nat) (x:A) (vs:List Value) (bs:List Nat) (h:dj φ w K vs x.cells bs) (hv:cH w b o vs) (hr:fA z w b (o+z)) (hz:x.cells.length=z):jE φ w K (.pointer (ae ⟨b,o,ai⟩)) z x (b::bs)
inductive H0(φ:Nat->Nat)(w:World)(K:Nat->Prop):Value->A->List Nat->Prop
 |data (v:Value) (a:A) (h:iD φ w K v a):H0 φ w K v a []
 |iB (v:Value) (z:Nat) (x:A) (bs:List Nat) (h:jE φ w K v z x bs):H0 φ w K v (.iB z [x]) bs
 |lB (v:Value) (z:Nat) (xs:List A) (b:Option Nat) (h:gD φ w K v z xs b):H0 φ w K v (.lB z xs) b.toList
inductive fL(φ:Nat->Nat)(w:World)(K:Nat->Prop):List Value->List A->List Nat->Prop
 |nil:fL φ w K [] [] []
 |cons (v:Value) (a:A) (b:List Nat) (vs:List Value) (ab:List A) (bs:List Nat) (h:H0 φ w K v a b) (t:fL φ w K vs ab bs):fL φ w K (v::vs) (a::ab) (b++bs)
inductive so(φ:Nat->Nat)(w:World)(K:Nat->Prop):Value->A->List Nat->Prop
 |data (v:Value) (a:A) (h:iD φ w K v a):so φ w K v a []
 |tok (v:Value) (j z:Nat) (xs:List A) (b:Option Nat) (h:gD φ w K v z xs b):so φ w K v (.tok j z xs) b.toList
 |iB (v:Value) (z:Nat) (x:A) (bs:List Nat) (h:jE φ w K v z x bs):so φ w K v (.iB z [x]) bs
 |str (v:Value) (vs:List Value) (cs:List A) (bs:List Nat) (e:v=.agg vs.toArray) (h:dj φ w K vs cs bs):so φ w K v (.agg cs) bs
inductive fZ(φ:Nat->Nat)(w:World)(K:Nat->Prop):List Value->List A->List Nat->Prop
 |nil:fZ φ w K [] [] []
 |cons (v:Value) (a:A) (b:List Nat) (vs:List Value) (ab:List A) (bs:List Nat) (h:so φ w K v a b) (t:fZ φ w K vs ab bs):fZ φ w K (v::vs) (a::ab) (b++bs)
inductive jc(φ:Nat->Nat)(w:World)(K:Nat->Prop):List Value->List A->List A->List Nat->Prop
 |nil:jc φ w K [] [] [] []
 |data (v:Value) (a:A) (vs:List Value) (ab os:List A) (bs:List Nat) (ha:(∀z xs,a≠ .iB z xs)/\∀z xs,a≠ .lB z xs) (t:jc φ w K vs ab os bs):jc φ w K (v::vs) (a::ab) os bs
 |iB (v:Value) (z:Nat) (x y:A) (b:List Nat) (vs:List Value) (ab os:List A) (bs:List Nat) (h:jE φ w K v z y b) (t:jc φ w K vs ab os bs):
   jc φ w K (v::vs) (.iB z [x]::ab) (.iB z [y]::os) (b++bs)
 |lB (v:Value) (z:Nat) (xs ys:List A) (b:Option Nat) (vs:List Value) (ab os:List A) (bs:List Nat) (h:gD φ w K v z ys b) (hl:ys.length=xs.length) (t:jc φ w K vs ab os bs):
   jc φ w K (v::vs) (.lB z xs::ab) (.lB z ys::os) (b.toList++bs)
 |gone (v:Value) (z:Nat) (xs:List A) (vs:List Value) (ab os:List A) (bs:List Nat) (t:jc φ w K vs ab os bs):jc φ w K (v::vs) (.lB z xs::ab) (.any::os) bs
def C7:List Value->Value
 | [v]=>v
 |vs=>.tuple vs.toArray
structure auS(φ:Nat->Nat)(w:World)(K:Nat->Prop)(vs:List Value)(args res outs:List A)(bs:List Nat)(v:Value)(w':World):Prop where
 grow:w.heap.size<=w'.heap.size
 frame:∀b,b<w.heap.size->b∉bs->w'.heap[b]? =w.heap[b]?
 env:w'.os=w.os/\w'.output=w.output
 fr:∀b off,b<w.heap.size->w'.frozen? ⟨b,off,ai⟩=w.frozen? ⟨b,off,ai⟩
 room:∀{z:Nat} b n,fA z w b n->fA z w' b n
 rest:∃rvs K' rb ob,v=C7 rvs/\(∀b,K b->K' b)/\(∀b,K' b->K b\/b∈bs\/(w.heap.size<=b/\b<w'.heap.size))/\fZ φ w' K' rvs res rb/\jc φ w' K' vs args outs ob/\
  (rb++ob).Nodup/\∀b∈rb++ob,¬K' b/\b<w'.heap.size/\(b∈bs\/w.heap.size<=b)
def uE:String:= "internal/strconv.uint64pow10"
def TE:List String:=["strconv.ErrSyntax","strconv.ErrRange"]
structure I6(P:Program)(K:Nat->Prop)(w:World):Prop where
 sh:∃W:World,W.ShapedOpen P/\∀g,g<P.globals.size->g<W.heap.size->K g/\w.heap[g]? =W.heap[g]?
 tab:∀g,P.globalNamed uE=ae g->K g/\Lib.TabIs P w uE .u64 apo
 err:∀n,TE.contains n=ar->∀g,P.globalNamed n=ae g->K g/\∃u v,w.var? P n=ae #[.iface u v]
def var?_same{P:Program}{n:String}{g:Nat}(hg:P.globalNamed n=ae g){w w':World}(h:w'.heap[g]? =w.heap[g]?):w'.var? P n=w.var? P n:=by unfold World.var?;rw[hg];simp only[af];rw[h]
def var?_lt{P:Program}{n:String}{g:Nat}(hg:P.globalNamed n=ae g){w:World}{cs:Array Value}(h:w.var? P n=ae cs):g<w.heap.size:=by
 unfold World.var? at h;rw[hg]at h;simp only[af]at h;rcases bH g w.heap.size with h'|h'
 ·exact h'
 ·rw[nu h']at h;cases h
def I6.on{P:Program}{K K':Nat->Prop}{w w':World}(h:I6 P K w)(hK:∀b,K b->K' b)(hw:∀b,K b->w'.heap[b]? =w.heap[b]?):I6 P K' w' where
 sh:=by obtain⟨W,h1,h2⟩:=h.sh;exact⟨W,h1,λg hg hs=>⟨hK g (h2 g hg hs).1,(hw g (h2 g hg hs).1).trans (h2 g hg hs).2⟩⟩
 tab g hg:=by obtain⟨h1,h2⟩:=h.tab g hg;refine⟨hK g h1,?_⟩;unfold Lib.TabIs at h2⊢;rw[var?_same hg (hw g h1)];exact h2
 err n hn g hg:=by obtain⟨h1,u,v,h2⟩:=h.err n hn g hg;exact⟨hK g h1,u,v,by rw[var?_same hg (hw g h1)];exact h2⟩
def I6.start{P:Program}{W:World}(h:W.ShapedOpen P)(ht:∀g,P.globalNamed uE=ae g->Lib.TabIs P W uE .u64 apo)
 (he:∀n,TE.contains n=ar->∀g,P.globalNamed n=ae g->∃u v,W.var? P n=ae #[.iface u v]):I6 P (λb=>b<W.heap.size) W where
 sh:=⟨W,h,λg _ hs=>⟨hs,rfl⟩⟩
 tab g hg:=⟨var?_lt hg (ht g hg),ht g hg⟩
 err n hn g hg:=by obtain⟨u,v,h2⟩:=he n hn g hg;exact⟨var?_lt hg h2,u,v,h2⟩
def dB(P:Program)(φ:Nat->Nat)(f:Nat)(args res outs:List A):Prop:=
 ∀(w:World) (K:Nat->Prop) (vs:List Value) (bs:List Nat),fL φ w K vs args bs->bs.Nodup->(∀b∈bs,¬K b)->(∀b,K b->b<w.heap.size)->I6 P K w->
  Calls P (φ f) vs.toArray w λe w'=>∃v,e=.returned v/\auS φ w K vs args res outs bs v w'
def jR(P:Program)(f:FuncId):Prop:=∃fn,P.funcs[f]? =ae fn∧fn.name≠ "runtime.NumGoroutine" ∧fn.body.isSome=ar
def auU(P:Program)(φ:Nat->Nat)(cf:CF):Prop:=∀f args res outs,cf f args=ae (res,outs)->jR P (φ f)/\dB P φ f args res outs
def Gl(P:Program)(w0:World)(L:kU):Prop:=I6 P L.K0 w0/\∀b,L.K0 b->b<w0.heap.size/\¬L.blk b
def Gl.at{P:Program}{φ:Nat->Nat}{w0:World}{L:kU}{E:Env}{st:St}{ev:Nat->Value}{w:World}(hG:Gl P w0 L)(h:cI φ w0 L E st ev w){K:Nat->Prop}(hK:∀b,E.ok b->K b):I6 P K w:=
 hG.1.on (λb hb=>hK b (h.okU b hb)) λb hb=>h.frame b (hG.2 b hb).1 (hG.2 b hb).2
def CfG(P:Program)(φ:Nat->Nat)(w0:World)(L:kU)(cf:CF):Prop:=auU P φ cf/\Gl P w0 L
section
variable {P:Program} {φ:Nat->Nat} {w0:World} {L:kU} {E:Env} {st:St} {a:Act} {w:World}
def LP{f:FuncId}(h:jR P f)(args:Array Value):(callFunc f args).run P w=.ok (.enter f args) w:=by obtain⟨fn,h1,h2,h3⟩:=h;obtain⟨c,hc⟩:=dq.1 h3;simp[callFunc,h1,h2,hc]
def ajq{o:Oper}{c:Call}{x:Operand}(ho:o.op=.call c)(hc:c.callee=.value x){f:FuncId}{caps:Array Value}(hx:a.eval x=.func (.func f) #[] caps)(h:jR P f): (execOp a.eval o).run P w=.ok (.enter f (c.args.map a.eval++caps)) w:=by simp only[execOp,ho,resolve,hc,hx,Deferred.ofValue,dp,jb,bP,invoke,Array.empty_append];exact LP h _
def avj(w:World)(b:Nat):Prop:=b<w.heap.size
structure Zn(E:Env)(st:St)(K:Nat->Prop):Prop where
 ok:∀b,E.ok b->K b
 root:∀q b o,(st.r q).isSome->E.ρ q=ae (b,o)->K b
def Zn.all{ev:Nat->Value}(h:cI φ w0 L E st ev w):Zn E st (avj w):=
 ⟨h.UP,λq b o h1 h2=>(h.rz q b o h1 h2).2.2⟩
def ae3{ev:Nat->Value}(h:cI φ w0 L E st ev w){K:Nat->Prop}(hK:Zn E st K){v:Value}{x y:A}(hv:jr φ E st.r w v x)(ht:∀k b,Jh v x k b->K b)(hc:rF st.r x=ae y): iD φ w K v y:=by
 have hm:∀{v:Value} {x:A},iD φ w E.ok v x->iD φ w K v x:=λh=>h.mono (λ_ _=>rfl) hK.ok;unfold rF at hc;split at hc
 ·rename_i q off n;obtain⟨R,hR,rfl⟩:=au.1 hc
  cases hv with
  |data _ _ h=>cases h
  |lA _ _ _ _ h1=>rw[h1]at hR;cases hR
  |kP ad q off R' h1 hb hn=>
   rw[xf];exact .No _ _ _
  |view b o cap q off n R' h1 hb hn hcc h0 hρ hm'=>
   rw[h1]at hR;cases hR;(have hlen:((R.xs.drop off).take n).length=n:=by simp;omega);have hro:=h.roots q R h1
   cases hro with
   |empty z h=>
    simp at hn;obtain⟨rfl,rfl⟩:=hn;exact .No _ _ _
   |sl b' o' z xs vs hρ' hz hh hv' hr'=>
    rw[hρ]at hρ';cases hρ'
    have:=iD.sl (φ:=φ) (w:=w) (ok:=K) b (o+off*z) cap z ((xs.drop off).take n) ((vs.drop (off*z)).take (n*z)) (hK.root q b o (by rw[h1];rfl) hρ)
     (λy hy=>hz y (cA (fo hy))) (by rw[hlen];omega) (by
       rw[tP (λx hx=>hz x (cA hx)),nh hz]
       exact((hh.mono (λ_ _=>rfl) hK.ok).drop _).take _) ((hv'.drop _).take _)
    rw[hlen]at this;exact this
   |box=>cases hb
 ·rename_i k z xs;simp only[aq]at hc;subst hc;cases hv with|data _ _ h=>cases h|DI=>exact .No _ _ _|tok b o cap k z xs vs hcc h0 hz hh hv' hr=>exact .sl b o cap z xs vs (ht _ _ (.mk _ _ _ _ _ _ h0)) hz hcc (hh.mono (λ_ _=>rfl) hK.ok) hv'
 ·split at hc;·rename_i hp;simp only[aq]at hc;subst hc;exact(hm (hv.cr hp)).norm
  ·cases hc
def KI{ev:Nat->Value}(h:cI φ w0 L E st ev w){K:Nat->Prop}(hK:Zn E st K):∀{vs:List Value} {xs ys:List A},fE (λv x=>jr φ E st.r w v x/\∀k b,Jh v x k b->K b) vs xs->vK st.r xs=ae ys->
 cW φ w K vs ys
 | [],[],ys,_,hc=>by simp[vK]at hc;subst hc;exact .nil
 | [],_::_,_,h',_=>by have:=h'.1;simp at this
 |_::_,[],_,h',_=>by have:=h'.1;simp at this
 |v::vs,x::xs,ys,h',hc=>by
  obtain⟨u,us,he,h1,h2⟩:=h'.Pg
  cases he
  simp only[vK]at hc
  obtain⟨y,hy,hc⟩:=ak.1 hc
  obtain⟨ys',hys,rfl⟩:=au.1 hc
  exact .cons _ _ _ _ (ae3 h hK h1.1 h1.2 hy) (KI h hK h2 hys)
def Yn{ev:Nat->Value}(h:cI φ w0 L E st ev w){K:Nat->Prop}(hK:Zn E st K){v:Value}{x y:A}(hv:RV φ E st.r w v x)(ht:∀k b,Tk v x k b->K b)(hc:kO st.r x=ae y): iD φ w K v y:=by
 unfold kO at hc;split at hc;·rename_i q i c;obtain⟨R,hR,hc⟩:=ak.1 hc;obtain⟨e,he,hc⟩:=ak.1 hc;obtain⟨cs,hcs,rfl⟩:=au.1 hc;obtain⟨b,o,hρ,rfl⟩:=hv.Dl.R9 hR;have hKb:K b:=hK.root q b o (by rw[hR];rfl) hρ;have hro:=h.roots q R hR;cases hro with|empty z h=>simp at he|sl b' o' z xs vs hρ' hz hh hv' hr'=>rw[hρ]at hρ';cases hρ';simp only at he;have hel:=hh.elem hz he;have hall:fE (λv x=>jr φ E st.r w v x/\∀k b,Jh v x k b->K b) ((vs.drop (i*z)).take e.cells.length) e.cells:= (fE.mT hel).imp λv x hr=>⟨.data _ _ hr,λk b hk=>(Jh.nW hr hk).elim⟩;exact .ptr b (o+i*z) c cs _ hKb (KI h hK hall hcs) ((hv'.drop _).take _)|box b' o' z x vs hρ' hz hlt hl hcell hv' hr'=>rw[hρ]at hρ';cases hρ';cases i with|succ i=>simp at he|zero=>simp at he;subst he;have hall:fE (λv x=>jr φ E st.r w v x/\∀k b,Jh v x k b->K b) vs x.cells:= ⟨hl,λj v y hv hy=>⟨(hcell j v y hv hy).rv,λk b hk=>((hcell j v y hv hy).axm k b hk).elim⟩⟩;have:=iD.ptr (φ:=φ) (w:=w) (ok:=K) b o c cs vs hKb (KI h hK hall hcs) hv';simpa using this
 ·rename_i cs;obtain⟨ds,hds,rfl⟩:=au.1 hc;obtain⟨vs,rfl,hvs⟩:=hv.xK;refine .agg _ _ (KI h hK ⟨hvs.1,λj v x hv hx=>⟨hvs.2 j v x hv hx,λk b hk=>ht k b (.agg vs cs j k b v x hv hx hk)⟩⟩ hds)
 ·rename_i hnl hna;have hv1:jr φ E st.r w v x\/∃f,x=.fn f []:=by cases hv with|one _ _ h=>exact .inl h|sf=>simp[rF,cr]at hc|agg=>exact absurd rfl (hna _)|fn f vs xs h1=>cases xs with|nil=>exact .inr ⟨f,rfl⟩|cons=>simp[rF,cr]at hc
  rcases hv1 with hv1|⟨f,rfl⟩
  ·exact ae3 h hK hv1 (λk b hk=>ht k b (.one _ _ _ _ hk)) hc
  ·simp[rF,cr,qz]at hc;subst hc;exact hv.aqq.mono (λ_ _=>rfl) hK.ok
def Vo{ev:Nat->Value}(h:cI φ w0 L E st ev w){K:Nat->Prop}(hK:Zn E st K):∀{vs:List Value} {xs ys:List A},fE (λv x=>RV φ E st.r w v x/\∀k b,Tk v x k b->K b) vs xs->wM st.r xs=ae ys->
 cW φ w K vs ys
 | [],[],ys,_,hc=>by simp[wM]at hc;subst hc;exact .nil
 | [],_::_,_,h',_=>by have:=h'.1;simp at this
 |_::_,[],_,h',_=>by have:=h'.1;simp at this
 |v::vs,x::xs,ys,h',hc=>by
  obtain⟨u,us,he,h1,h2⟩:=h'.Pg
  cases he
  simp only[wM]at hc
  obtain⟨y,hy,hc⟩:=ak.1 hc
  obtain⟨ys',hys,rfl⟩:=au.1 hc
  exact .cons _ _ _ _ (Yn h hK h1.1 h1.2 hy) (Vo h hK h2 hys)
def ae0{ev:Nat->Value}(h:cI φ w0 L E st ev w){K:Nat->Prop}(hK:Zn E st K){vs:List Value}{xs ys:List A}(hv:fE (jr φ E st.r w) vs xs)(hn:xs.any pF=aw)(hc:wM st.r xs=ae ys):
 cW φ w K vs ys:=
 Vo h hK ⟨hv.1,λj v x hv' hx=>⟨.one _ _ (hv.2 j v x hv' hx),λk b hk=>by
  have hx1:pF x=aw:=by have:=CI.1 hn x (bw hx);simpa using this
  have hr:=hv.2 j v x hv' hx
  cases hk with
  |one _ _ _ _ hk=>cases hk;simp[pF]at hx1
  |sf=>cases hr with|data _ _ h=>cases h
  |agg us zs j k b v' a' hv1 ha1 hk=>
   generalize hu:qj us.toArray=u at hr
   cases hr with
   |data _ _ h1=>subst hu;exact absurd (.agg us zs j k b v' a' hv1 ha1 hk) (Tk.nW h1)⟩⟩ hc
def adb{ev:Nat->Value}(h:cI φ w0 L E st ev w){K:Nat->Prop}(hK:Zn E st K){v:Value}{x y:A}(hv:RV φ E st.r w v x)(ht:∀k b,Tk v x k b->K b)(hc:AH st.r x=ae y): iD φ w K v y:=by
 unfold AH at hc;split at hc
 ·rename_i f caps;split at hc;·cases hc
  ·rename_i hnt;obtain⟨ds,hds,rfl⟩:=au.1 hc;obtain⟨vs,rfl,hvs⟩:=hv.aa1;exact .fn f ds vs (ae0 h hK hvs (by simpa using hnt) hds)
 ·exact Yn h hK hv ht hc
end
end Go.Ab
namespace Go.Ab
section
variable {P:Program} {φ:Nat->Nat} {w0:World} {L:kU} {E:Env} {st:St} {a:Act} {w w':World} {r:Nat->Option dF} {ok:Nat->Prop}
def iD.rF{v:Value}{x y:A}(h:iD φ w ok v x)(hc:Ab.rF r x=ae y):iD φ w ok v y:=by
 unfold Ab.rF at hc;split at hc;·cases h
 ·cases h
 ·split at hc;·simp only[aq]at hc;subst hc;exact h.norm
  ·cases hc
def cW.vK:∀{vs:List Value} {xs ys:List A},cW φ w ok vs xs->Ab.vK r xs=ae ys->cW φ w ok vs ys
 |_,_,ys,.nil,hc=>by simp[Ab.vK]at hc;subst hc;exact .nil
 |_,_,ys,.cons v x vs xs h t,hc=>by
  simp only[Ab.vK]at hc
  obtain⟨y,hy,hc⟩:=ak.1 hc
  obtain⟨ys',hys,rfl⟩:=au.1 hc
  exact .cons _ _ _ _ (h.rF hy) (t.vK hys)
def iD.kO{v:Value}{x y:A}(h:iD φ w ok v x)(hc:Ab.kO r x=ae y):iD φ w ok v y:=by
 unfold Ab.kO at hc;split at hc;·cases h
 ·obtain⟨ds,hds,rfl⟩:=au.1 hc;cases h with|agg vs cs h=>exact .agg _ _ (h.vK hds)
 ·exact h.rF hc
def jr.free{v:Value}{x y:A}(h:jr φ E r w v x)(ho:Fb x=aw)(hc:Ab.kO r x=ae y):iD φ w E.ok v y:=by cases h with|data _ _ h=>exact h.kO hc|any=>simp[Ab.kO,Ab.rF,Ab.cr]at hc|undef=>simp[Ab.kO,Ab.rF,Ab.cr]at hc|_=>simp[Fb]at ho
def fE.free:∀{vs:List Value} {xs ys:List A},fE (jr φ E r w) vs xs->xs.any Fb=aw->wM r xs=ae ys->cW φ w E.ok vs ys
 | [],[],ys,_,_,hc=>by simp[wM]at hc;subst hc;exact .nil
 | [],_::_,_,h',_,_=>by have:=h'.1;simp at this
 |_::_,[],_,h',_,_=>by have:=h'.1;simp at this
 |v::vs,x::xs,ys,h',ho,hc=>by
  obtain⟨u,us,he,h1,h2⟩:=h'.Pg
  cases he
  simp only[wM]at hc
  obtain⟨y,hy,hc⟩:=ak.1 hc
  obtain⟨ys',hys,rfl⟩:=au.1 hc
  simp only[zy,oA]at ho
  exact .cons _ _ _ _ (h1.free ho.1 hy) (h2.free ho.2 hys)
def aaU:∀{vs:List Value} {xs ys:List A},fE (jr φ E r w) vs xs->xs.any Fb=aw->Ab.vK r xs=ae ys->cW φ w E.ok vs ys
 | [],[],ys,_,_,hc=>by simp[Ab.vK]at hc;subst hc;exact .nil
 | [],_::_,_,h',_,_=>by have:=h'.1;simp at this
 |_::_,[],_,h',_,_=>by have:=h'.1;simp at this
 |v::vs,x::xs,ys,h',ho,hc=>by
  obtain⟨u,us,he,h1,h2⟩:=h'.Pg
  cases he
  simp only[Ab.vK]at hc
  obtain⟨y,hy,hc⟩:=ak.1 hc
  obtain⟨ys',hys,rfl⟩:=au.1 hc
  simp only[zy,oA]at ho
  refine .cons _ _ _ _ ?_ (aaU h2 ho.2 hys)
  cases h1 with
  |data _ _ h=>exact h.rF hy
  |any=>simp[Ab.rF,Ab.cr]at hy
  |undef=>simp[Ab.rF,Ab.cr]at hy
  |_=>simp[Fb]at ho
def RV.free{v:Value}{x y:A}(h:RV φ E r w v x)(ho:owned x=aw)(hc:Ab.AH r x=ae y):iD φ w E.ok v y:=by
 unfold Ab.AH at hc;split at hc
 ·rename_i f caps;split at hc;·cases hc
  ·obtain⟨ds,hds,rfl⟩:=au.1 hc;obtain⟨vs,rfl,hvs⟩:=h.aa1;exact .fn f ds vs (hvs.free ho hds)
 ·rename_i hnf;by_cases hx:∃cs,x=.agg cs;·obtain⟨cs,rfl⟩:=hx;simp only[Ab.kO]at hc;obtain⟨ds,hds,rfl⟩:=au.1 hc;obtain⟨vs,rfl,hvs⟩:=h.xK;exact .agg _ _ (aaU hvs ho hds)
  ·(have ho':Fb x=aw:=by cases x<;>first|exact ho|exact absurd ⟨_,rfl⟩ hx|exact absurd rfl (hnf _ _));cases h with|one _ _ h=>exact h.free ho' hc|sf=>simp[Ab.kO,Ab.rF,Ab.cr]at hc|agg=>exact absurd ⟨_,rfl⟩ hx|fn=>exact absurd rfl (hnf _ _)
mutual
def iD.plain{ok':Nat->Prop}:∀{v:Value} {x:A},iD φ w ok v x->x.plain=ar->iD φ w ok' v x
 |_,_,.bool b,_=>.bool b
 |_,_,.int k n,_=>.int k n
 |_,_,.str s,_=>.str s
 |_,_,.agg vs cs h,hp=>.agg vs cs (cW.plain h (by simpa[A.plain]using hp))
 |_,_,.jo z,hp=>by simp[A.plain]at hp
 |_,_,.Yw v h,hp=>by simp[A.plain]at hp
 |_,_,.No ..,hp=>by simp[A.plain]at hp
 |_,_,.sl ..,hp=>by simp[A.plain]at hp
 |_,_,.ptr ..,hp=>by simp[A.plain]at hp
 |_,_,.fn ..,hp=>by simp[A.plain]at hp
def cW.plain{ok':Nat->Prop}:∀{vs:List Value} {xs:List A},cW φ w ok vs xs->A.tp xs=ar->cW φ w ok' vs xs
 |_,_,.nil,_=>.nil
 |_,_,.cons v x vs xs h t,hp=>by
  simp only[A.tp,aj]at hp
  exact .cons _ _ _ _ (iD.plain h hp.1) (cW.plain t hp.2)
end
def Q4:∀{xs ys:List A},A.tp xs=ar->A.tp ys=ar->A.tp (xs++ys)=ar
 | [],ys,_,h=>h
 |x::xs,ys,h,h'=>by
  simp only[A.tp,aj,sn]at h⊢
  exact⟨h.1,Q4 h.2 h'⟩
def ai5{x:A}(h:x.plain=ar):A.tp x.cells=ar:=by cases x<;>simp[A.plain,A.cells,A.tp]at h⊢<;>exact h
def Bb:∀{xs:List A},xs.all A.plain=ar->A.tp (xs.flatMap A.cells)=ar
 | [],_=>rfl
 |x::xs,h=>by
  simp only[de,aj]at h
  rw[cg]
  exact Q4 (ai5 h.1) (Bb h.2)
def fL.mT{K:Nat->Prop}:∀{vs:List Value} {xs:List A},cW φ w K vs xs->fL φ w K vs xs []
 |_,_,.nil=>.nil
 |_,_,.cons v x vs xs h t=>.cons v x [] vs xs [] (.data v x h) (fL.mT t)
def fZ.mem{K:Nat->Prop}:∀{vs:List Value} {xs:List A} {bs:List Nat},fZ φ w K vs xs bs->∀{i:Nat} {v:Value} {k z k' b:Nat} {ys:List A},vs[i]? =ae v->xs[i]? =ae (.tok k z ys)->
 ∀j,Jh v (.tok j z ys) k' b->b∈bs
 |_,_,_,.nil,i,_,_,_,_,_,_,h,_,_,_=>by simp at h
 |_,_,_,.cons v x b vs xs bs h t,0,u,k,z,k',b',ys,hu,hx,j,ht=>by
  simp at hu hx;subst hu;subst hx
  refine bW _ ?_
  cases h with
  |data _ h=>cases h
  |tok _ _ _ ob h=>cases h with
   |empty=>cases ht;contradiction
   |mk=>cases ht;simp
 |_,_,_,.cons v x b vs xs bs h t,i+1,u,k,z,k',b',ys,hu,hx,j,ht=>
  aS _ (t.mem (by simpa using hu) (by simpa using hx) j ht)
def fZ.head_mem{K:Nat->Prop}{v:Value}{k z k' b:Nat}{ys:List A}{bs:List Nat}(h:so φ w K v (.tok k z ys) bs){j:Nat}(ht:Jh v (.tok j z ys) k' b):b∈bs:=by
 cases h with
 |data _ h=>cases h
 |tok _ _ _ ob h=>cases h with
  |empty=>cases ht;contradiction
  |mk=>cases ht;simp
def fZ.sep{K:Nat->Prop}:∀{vs:List Value} {xs:List A} {bs:List Nat},fZ φ w K vs xs bs->bs.Nodup->
 ∀{i j:Nat} {v u:Value} {k z l y k1 k2 b c:Nat} {ys zs:List A},vs[i]? =ae v->xs[i]? =ae (.tok k z ys)->vs[j]? =ae u->xs[j]? =ae (.tok l y zs)->i≠j->
  ∀{p q:Nat},Jh v (.tok p z ys) k1 b->Jh u (.tok q y zs) k2 c->b≠c
 |_,_,_,.nil,_,i,j,_,_,_,_,_,_,_,_,_,_,_,_,h,_,_,_,_,_,_,_,_=>by simp at h
 |_,_,_,.cons v x b vs xs bs h t,hn,i,j,v1,u1,k,z,l,y,k1,k2,b1,c1,ys,zs,hv,hx,hu,hy,hij,p,q,ht1,ht2=>by
  obtain⟨hn1,hn2,hn3⟩:=cZ.1 hn
  cases i with
  |zero=>
   cases j with
   |zero=>exact absurd rfl hij
   |succ j=>
    simp at hv hx;subst hv;subst hx
    exact hn3 _ (fZ.head_mem h ht1) _ (t.mem (by simpa using hu) (by simpa using hy) q ht2)
  |succ i=>
   cases j with
   |zero=>
    simp at hu hy;subst hu;subst hy
    exact tN (hn3 _ (fZ.head_mem h ht2) _ (t.mem (by simpa using hv) (by simpa using hx) p ht1))
   |succ j=>
    exact t.sep hn2 (by simpa using hv) (by simpa using hx) (by simpa using hu) (by simpa using hy) (by omega) ht1 ht2
def LN(d:Nat):∀(j:Nat) (l:List A),(oa d j l).length=l.length
 |_,[]=>rfl
 |j,.tok k z xs::l=>by simp[oa,LN d (j+1) l]
 |j,.any::l|j,.undef::l|j,.bool _::l|j,.int _ _::l|j,.str _::l|j,.agg _::l|j,.sl _ _::l|j,.jo _::l|j,.Yw _::l|j,.view _ _ _::l|j,.loc _ _ _::l
 |j,.ptr _ _::l|j,.fn _ _::l|j,.sf _::l|j,.own _ _::l|j,.iB _ _::l|j,.lB _ _::l=>by simp[oa,LN d (j+1) l]
def Kh(d:Nat):∀(l:List A) (j i:Nat) {x:A},(oa d j l)[i]? =ae x->∃y,l[i]? =ae y/\((∃k z xs,y=.tok k z xs/\x=.tok (8*d+(j+i)) z xs)\/((∀k z xs,y≠ .tok k z xs)/\x=y/\∀cs,y=.agg cs->cs.any Wq=aw)\/x=.any)
 | [],j,i,x,h=>by simp[oa]at h
 |y::l,j,i,x,h=>by
  cases i with
  |zero=>
   refine⟨y,rfl,?_⟩
   by_cases hy:∃cs,y=.agg cs
   ·obtain⟨cs,rfl⟩:=hy
    simp only[oa,bg,aq]at h
    split at h
    ·exact .inr (.inr h.symm)
    ·rename_i hn
     exact .inr (.inl ⟨(λ_ _ _ e=>by cases e),h.symm,λcs' e=>by cases e;simpa using hn⟩)
   ·cases y<;>first
     |(simp[oa]at h;subst h;exact .inl ⟨_,_,_,rfl,rfl⟩)
     |(simp[oa]at h;subst h;exact .inr (.inl ⟨(λ_ _ _ e=>by cases e),rfl,λcs e=>by cases e⟩))
     |exact absurd ⟨_,rfl⟩ hy
  |succ i=>
   have h':(oa d (j+1) l)[i]? =ae x:=by cases y<;>simpa[oa]using h
   obtain⟨y',hy,hc⟩:=Kh d l (j+1) i h'
   rw[show j+1+i=j+(i+1)from by omega]at hc
   exact⟨y',by simpa using hy,hc⟩
def dj.W6{w:World}{K:Nat->Prop}:∀{vs:List Value} {cs:List A} {bs:List Nat},dj φ w K vs cs bs->cs.any Wq=aw->cW φ w K vs cs
 |_,_,_,.nil,_=>.nil
 |_,_,_,.cons v x ob vs xs bs h t,hp=>by
  simp only[zy,oA]at hp
  refine .cons _ _ _ _ ?_ (dj.W6 t hp.2)
  cases h with
  |data _ h ha=>exact h
  |own=>simp[Wq]at hp
def gD.mono{w:World}{K K':Nat->Prop}(hk:∀b,K b->K' b){v:Value}{z:Nat}{xs:List A}{ob:Option Nat}(h:gD φ w K v z xs ob):gD φ w K' v z xs ob:=by cases h with|empty=>exact .empty _ _|mk b o cap z xs vs hc h0 hz h hv hr=>exact .mk b o cap z xs vs hc h0 hz (h.mono (λ_ _=>rfl) hk) hv hr
def dj.mono{w:World}{K K':Nat->Prop}(hk:∀b,K b->K' b):∀{vs:List Value} {xs:List A} {bs:List Nat},dj φ w K vs xs bs->dj φ w K' vs xs bs
 |_,_,_,.nil=>.nil
 |_,_,_,.cons v x ob vs xs bs h t=>by
  refine .cons v x ob vs xs bs ?_ (t.mono hk)
  cases h with
  |data _ h ha=>exact .data _ _ (h.mono (λ_ _=>rfl) hk) ha
  |own _ _ _ h=>exact .own _ _ _ _ (h.mono hk)
def dj.plain{K K':Nat->Prop}{w':World}:∀{vs:List Value} {xs:List A} {bs:List Nat},dj φ w' K vs xs bs->A.tp xs=ar->dj φ w' K' vs xs bs
 |_,_,_,.nil,_=>.nil
 |_,_,_,.cons v x ob vs xs bs h t,hp=>by
  simp only[A.tp,aj]at hp
  refine .cons v x ob vs xs bs ?_ (dj.plain t hp.2)
  cases h with
  |data _ h ha=>exact .data _ _ (h.plain hp.1) ha
  |own=>simp[A.plain]at hp
def Yi{K:Nat->Prop}{w':World}{d:Nat}:∀{vs:List Value} {cs:List A} {j:Nat},cW φ w' K vs cs->rm d j cs=cs
 |_,_,_,.nil=>rfl
 |_,_,j,.cons v a vs ab h t=>by
  have:=Yi (d:=d) (j:=j+1) t
  cases a<;>first
   |(simp only[rm,this];done)
   |cases h
def aaN{E':Env}{r:Nat->Option dF}{w':World}{d:Nat}:∀{vs:List Value} {cs:List A} {bs:List Nat} {j:Nat},dj φ w' E'.ok vs cs bs->
 fE (jr φ E' r w') vs (rm d j cs)/\(∀(i:Nat) v x k b,vs[i]? =ae v->(rm d j cs)[i]? =ae x->Jh v x k b->b∈bs/\k=8*d+(j+i))/\
  (bs.Nodup->∀(i i':Nat) v v' x x' k k' b b',vs[i]? =ae v->(rm d j cs)[i]? =ae x->Jh v x k b->vs[i']? =ae v'->(rm d j cs)[i']? =ae x'->Jh v' x' k' b'->i≠i'->b≠b')
 |_,_,_,j,.nil=>⟨fE.nil,λi v x k b h=>by simp at h,λ_ i i' v v' x x' k k' b b' h=>by simp at h⟩
 |_,_,_,j,.cons v x ob vs xs bs h t=>by
  obtain⟨h1,h2,h3⟩:=aaN (r:=r) (d:=d) (j:=j+1) t
  have hd:∃y,rm d j (x::xs)=y::rm d (j+1) xs/\jr φ E' r w' v y/\∀k b,Jh v y k b->b∈ob.toList/\k=8*d+j:=by cases h with|data _ hr ha=>refine⟨x,(by cases x<;>first|rfl|cases hr),.data _ _ hr,λk b ht=>absurd ht (Jh.nW hr)⟩|own z ys _ ho=>refine⟨_,rfl,?_,λk b ht=> ?_⟩;(·cases ho with|empty ad=>exact .DI _ _ _|mk b o cap _ _ vs hcc h0 hz hh hv' hrm=>exact .tok b o cap _ _ _ vs hcc h0 hz hh hv' hrm);·cases ho with|empty ad=>cases ht;contradiction|mk=>cases ht;simp
  obtain⟨y,e,hy,ht⟩:=hd
  rw[e]
  refine⟨fE.cons hy h1,λi u z k b hu hz hk=> ?_,λhn i i' u u' z z' k k' b b' hu hz hk hu' hz' hk' hne=> ?_⟩
  ·cases i with
   |zero=>
    simp at hu hz;subst hu;subst hz
    exact⟨bW _ (ht k b hk).1,(ht k b hk).2⟩
   |succ i=>
    obtain⟨g1,g2⟩:=h2 i u z k b (by simpa using hu) (by simpa using hz) hk
    exact⟨aS _ g1,by omega⟩
  ·obtain⟨n1,n2,n3⟩:=cZ.1 hn
   cases i with
   |zero=>
    simp at hu hz;subst hu;subst hz
    cases i' with
    |zero=>exact absurd rfl hne
    |succ i'=>exact n3 _ (ht k b hk).1 _ (h2 i' u' z' k' b' (by simpa using hu') (by simpa using hz') hk').1
   |succ i=>
    cases i' with
    |zero=>
     simp at hu' hz';subst hu';subst hz'
     exact tN (n3 _ (ht k' b' hk').1 _ (h2 i u z k b (by simpa using hu) (by simpa using hz) hk).1)
    |succ i'=>exact h3 n2 i i' u u' z z' k k' b b' (by simpa using hu) (by simpa using hz) hk (by simpa using hu') (by simpa using hz') hk' (by omega)
def aqA{E':Env}{K':Nat->Prop}{rvs:List Value}{rs:List A}{rb:List Nat}(hr:fZ φ w' K' rvs rs rb)(hn:rb.Nodup) (hfacts:∀b∈rb,(¬E'.ok b/\Tv w0 L b/\b<w'.heap.size)/\∀q b' o,(st.r q).isSome->E'.ρ q=ae (b',o)->b'≠b) (htok:∀b∈rb,∀i k b',Tk (a.eval (.tmp i)) (st.t i) k b'->b'≠b) (hio:rs.any Q0=aw) (hd:∀x∈rs,(∀v,iD φ w' K' v x->iD φ w' E'.ok v x)) (hdt:∀k z xs,A.tok k z xs∈rs->∀vs,cW φ w' K' vs (xs.flatMap A.cells)->cW φ w' E'.ok vs (xs.flatMap A.cells)) (hna:∀cs,rs≠ [.agg cs]) (d:Nat): RV φ E' st.r w' (C7 rvs) (zS d rs)/\Nv w0 L E' st a w' (C7 rvs) (zS d rs):=by
 have hlen:∀{vs:List Value} {xs:List A} {bs:List Nat},fZ φ w' K' vs xs bs->vs.length=xs.length:=by intro vs xs bs hh;induction hh with|nil=>rfl|cons _ _ _ _ _ _ _ _ ih=>simp[ih]
 have Yx:∀{vs:List Value} {xs:List A} {bs:List Nat},fZ φ w' K' vs xs bs->∀(i:Nat) v x,vs[i]? =ae v->xs[i]? =ae x->∃c,so φ w' K' v x c:=by intro vs xs bs hh;induction hh with|nil=>intro i v x h;simp at h|cons v0 x0 b0 vs xs bs h0 t ih=>intro i v x hv hx;cases i with|zero=>simp at hv hx;subst hv;subst hx;exact⟨_,h0⟩|succ i=>exact ih i v x (by simpa using hv) (by simpa using hx)
 have hall:fE (jr φ E' st.r w') rvs (oa d 0 rs):=by
  refine⟨by rw[LN,hlen hr],λj v x hv hx=> ?_⟩;obtain⟨y,hy,hc⟩:=Kh d rs 0 j hx;obtain⟨c,hres⟩:=Yx hr j v y hv hy;rcases hc with ⟨k,z,xs,rfl,rfl⟩|⟨hnt,rfl,hno⟩|rfl
  ·cases hres with
   |data _ h=>cases h
   |tok _ _ _ ob ho=>cases ho with
    |empty ad=>exact .DI _ _ _
    |mk b o cap z xs vs hcc h0 hz hh hv' hrm=>exact .tok b o cap _ z xs vs hcc h0 hz (hdt _ _ _ (bw hy) _ hh) hv' hrm
  ·cases hres with|data _ hh=>exact .data _ _ (hd x (bw hy) v hh)|tok k z xs=>exact absurd rfl (hnt _ _ _)|str vs cs bs e hc=>exact .data _ _ (hd _ (bw hy) v (by rw[e];exact .agg _ _ (hc.W6 (hno _ rfl))))|iB=>have:=CI.1 hio _ (bw hy);simp[Q0]at this
  ·exact .any _
 have htk1:∀(j:Nat) v x k b,rvs[j]? =ae v->(oa d 0 rs)[j]? =ae x->Jh v x k b->b∈rb/\k=8*d+j:=by intro j v x k b hv hx ht;obtain⟨y,hy,hc⟩:=Kh d rs 0 j hx;(rcases hc with ⟨k0,z,xs,rfl,rfl⟩|⟨hnt,rfl,_⟩|rfl);(·refine⟨hr.mem hv hy _ ht,?_⟩;cases ht;simp);(·cases ht;exact absurd rfl (hnt _ _ _));·cases ht
 have hsep:∀(i j:Nat) v u x y k l b c,rvs[i]? =ae v->(oa d 0 rs)[i]? =ae x->rvs[j]? =ae u->(oa d 0 rs)[j]? =ae y->Jh v x k b->Jh u y l c->k≠l->b≠c:=by intro i j v u x y k l b c hv hx hu hy h1 h2 hkl;(have hij:i≠j:=by rintro rfl;exact hkl ((htk1 i v x k b hv hx h1).2.trans (htk1 i u y l c hu hy h2).2.symm));obtain⟨x',hx',hcx⟩:=Kh d rs 0 i hx;obtain⟨y',hy',hcy⟩:=Kh d rs 0 j hy;(rcases hcx with ⟨k0,z,xs,rfl,rfl⟩|⟨hnt,rfl,_⟩|rfl);(·(rcases hcy with ⟨l0,z',ys,rfl,rfl⟩|⟨hnt,rfl,_⟩|rfl);(·exact hr.sep hn hv hx' hu hy' hij h1 h2);(·cases h2;exact absurd rfl (hnt _ _ _));·cases h2);(·cases h1;exact absurd rfl (hnt _ _ _));·cases h1
 have hcase:(∃v x,rvs=[v]/\oa d 0 rs=[x]/\C7 rvs=v/\zS d rs=x)\/(C7 rvs=.tuple rvs.toArray/\zS d rs=.sf (oa d 0 rs)):=by have hl:=hall.1;(have hpk:zS d rs=(match oa d 0 rs with| [a]=>a|l=>.sf l):=by unfold zS;split;(·exact absurd rfl (hna _));·rfl);rw[hpk];match rvs,hrt:oa d 0 rs,hl with| [],[],_=>exact .inr ⟨rfl,rfl⟩| [v],[x],_=>exact .inl ⟨v,x,rfl,rfl,rfl,rfl⟩|v::u::vs,x::y::xs,_=>exact .inr ⟨rfl,rfl⟩| [],_::_,h=>simp at h|_::_,[],h=>simp at h| [_],_::_::_,h=>simp at h|_::_::_,[_],h=>simp at h
 rcases hcase with ⟨v,x,rfl,hrt,hpv,hpr⟩|⟨hpv,hpr⟩
 ·rw[hpv,hpr];have h1:jr φ E' st.r w' v x:=hall.2 0 v x rfl (by rw[hrt];rfl);have hTk:∀k b,Tk v x k b->b∈rb/\k=8*d:=by intro k b ht;cases ht with|one _ _ _ _ ht=>simpa using htk1 0 v x k b rfl (by rw[hrt];rfl) ht|sf=>(cases h1 with|data _ _ h=>cases h)|agg us ys j k b v' a' hv' ha' ht=>generalize hu:qj us.toArray=u at h1;cases h1 with|data _ _ h=>subst hu;exact absurd (.agg us ys j k b v' a' hv' ha' ht) (Tk.nW h)
  refine⟨.one _ _ h1,⟨λk b ht=>hfacts b (hTk k b ht).1,λi k k' b b' ht ht' _=> ?_,λk k' b b' ht ht' hne=>absurd ((hTk k b ht).2.trans (hTk k' b' ht').2.symm) hne⟩⟩;exactλe=>htok b (hTk k b ht).1 i k' b' ht' e.symm
 ·rw[hpv,hpr];have hTk:∀k b,Tk (.tuple rvs.toArray) (.sf (oa d 0 rs)) k b->∃(j:Nat) (v:Value) (x:A),rvs[j]? =ae v/\(oa d 0 rs)[j]? =ae x/\Jh v x k b:=by intro k b ht;generalize hu:Value.tuple rvs.toArray=u at ht;cases ht with|one _ _ _ _ ht=>cases ht|sf us ys j k b v x hv hx ht=>simp at hu;subst hu;exact⟨j,v,x,hv,hx,ht⟩
  refine⟨.sf _ _ hall,⟨λk b ht=> ?_,λi k k' b b' ht ht' _=> ?_,λk k' b b' ht ht' hne=> ?_⟩⟩;·obtain⟨j,v,x,hv,hx,ht⟩:=hTk k b ht;exact hfacts b (htk1 j v x k b hv hx ht).1
  ·obtain⟨j,v,x,hv,hx,ht⟩:=hTk k b ht;exactλe=>htok b (htk1 j v x k b hv hx ht).1 i k' b' ht' e.symm
  ·obtain⟨j,v,x,hv,hx,ht⟩:=hTk k b ht;obtain⟨j',v',x',hv',hx',ht'⟩:=hTk k' b' ht';exact hsep j j' v v' x x' k k' b b' hv hx hv' hx' ht ht' hne
def amD{E':Env}{K':Nat->Prop}{rvs:List Value}{rs:List A}{rb:List Nat}(hr:fZ φ w' K' rvs rs rb)(hn:rb.Nodup) (hfacts:∀b∈rb,(¬E'.ok b/\Tv w0 L b/\b<w'.heap.size)/\∀q b' o,(st.r q).isSome->E'.ρ q=ae (b',o)->b'≠b) (htok:∀b∈rb,∀i k b',Tk (a.eval (.tmp i)) (st.t i) k b'->b'≠b) (hio:rs.any Q0=aw) (hd:∀x∈rs,(∀v,iD φ w' K' v x->iD φ w' E'.ok v x)) (hdt:∀k z xs,A.tok k z xs∈rs->∀vs,cW φ w' K' vs (xs.flatMap A.cells)->cW φ w' E'.ok vs (xs.flatMap A.cells)) (hds:∀cs,A.agg cs∈rs->∀vs bs,dj φ w' K' vs cs bs->dj φ w' E'.ok vs cs bs) (d:Nat): RV φ E' st.r w' (C7 rvs) (zS d rs)/\Nv w0 L E' st a w' (C7 rvs) (zS d rs):=by
 by_cases hna:∃cs,rs=[.agg cs];·obtain⟨cs,rfl⟩:=hna;cases hr with|cons v _ b vs _ bs h t=>cases t;rw[bS]at hn hfacts htok;show RV φ E' st.r w' v (.agg (rm d 0 cs))/\Nv w0 L E' st a w' v (.agg (rm d 0 cs));cases h with|data _ h=>have h':=hd _ (aX.2 rfl) _ h;(have e:rm d 0 cs=cs:=by cases h with|agg vs _ h3=>exact Yi h3);rw[e];exact⟨.one _ _ (.data _ _ h'),⟨λk b ht=>absurd ht (Tk.nW h'),λi k k' b b' ht=>absurd ht (Tk.nW h'),λk k' b b' ht=>absurd ht (Tk.nW h')⟩⟩|str vs _ _ e hc=>subst e;obtain⟨h1,h2,h3⟩:=aaN (r:=st.r) (d:=d) (j:=0) (hds _ (aX.2 rfl) _ _ hc);(have hTk:∀k b,Tk (.agg vs.toArray) (.agg (rm d 0 cs)) k b->∃(j:Nat) (v:Value) (x:A),vs[j]? =ae v/\(rm d 0 cs)[j]? =ae x/\Jh v x k b:=by intro k b ht;generalize hu:qj vs.toArray=u at ht;cases ht with|one _ _ _ _ ht=>cases ht|agg us ys j k b v x hv hx ht=>simp at hu;subst hu;exact⟨j,v,x,hv,hx,ht⟩);refine⟨.agg _ _ h1,⟨λk b ht=> ?_,λi k k' b b' ht ht' _=> ?_,λk k' b b' ht ht' hne=> ?_⟩⟩;(·obtain⟨j,v,x,hv,hx,ht⟩:=hTk k b ht;exact hfacts b (h2 j v x k b hv hx ht).1);(·obtain⟨j,v,x,hv,hx,ht⟩:=hTk k b ht;exactλe=>htok b (h2 j v x k b hv hx ht).1 i k' b' ht' e.symm);·obtain⟨j,v,x,hv,hx,ht⟩:=hTk k b ht;obtain⟨j',v',x',hv',hx',ht'⟩:=hTk k' b' ht';exact h3 hn j j' v v' x x' k k' b b' hv hx ht hv' hx' ht' λe=>hne (by rw[(h2 j v x k b hv hx ht).2,(h2 j' v' x' k' b' hv' hx' ht').2,e])
 ·exact aqA hr hn hfacts htok hio hd hdt (λcs e=>hna ⟨cs,e⟩) d
def aaC(h:lf φ w0 L E st a w):∀{os:List Operand} {ys:List bZ} {ab:List A},iU φ os ys=ar->(ys.map (bZ.v st)).any owned=aw->D4 st ys=ae ab->cW φ w E.ok (os.map a.eval) ab
 | [],[],ab,_,_,hc=>by simp[D4]at hc;subst hc;exact .nil
 | [],_::_,_,h',_,_=>by simp[iU]at h'
 |_::_,[],_,h',_,_=>by simp[iU]at h'
 |o::os,y::ys,ab,h',ho,hc=>by
  simp only[iU,aj]at h'
  simp only[D4]at hc
  obtain⟨x,hx,hc⟩:=ak.1 hc
  obtain⟨xs,hxs,rfl⟩:=au.1 hc
  simp only[aP,zy,oA]at ho
  exact .cons _ _ _ _ ((dz h h'.1).1.free ho.1 hx) (aaC h h'.2 ho.2 hxs)
def aeY(h:lf φ w0 L E st a w):∀{os:List Operand} {ys:List bZ} {ab:List A},iU φ os ys=ar->D4 st ys=ae ab->cW φ w (avj w) (os.map a.eval) ab
 | [],[],ab,_,hc=>by simp[D4]at hc;subst hc;exact .nil
 | [],_::_,_,h',_=>by simp[iU]at h'
 |_::_,[],_,h',_=>by simp[iU]at h'
 |o::os,y::ys,ab,h',hc=>by
  simp only[iU,aj]at h'
  simp only[D4]at hc
  obtain⟨x,hx,hc⟩:=ak.1 hc
  obtain⟨xs,hxs,rfl⟩:=au.1 hc
  have ho:=dz h h'.1
  exact .cons _ _ _ _ (adb h.tocI (.all h.tocI) ho.1 (λk b ht=>by obtain⟨i,hi⟩:=ho.2 k b ht;exact(h.tz i k b hi).1.2.2) hx) (aeY h h'.2 hxs)
def acd{K K':Nat->Prop}:∀{vs:List Value} {ab os:List A} {bs:List Nat},cW φ w K vs ab->jc φ w' K' vs ab os bs->os=[]/\bs=[]
 |_,_,_,_,.nil,h=>by cases h;exact⟨rfl,rfl⟩
 |_,_,_,_,.cons v x vs ab h t,ho=>by
  cases ho with
  |data _ _ _ _ _ _ ha t'=>exact acd t t'
  |iB=>cases h
  |lB=>cases h
  |gone=>cases h
def lf.aV(h:lf φ w0 L E st a w){d:Option Nat}(hd:∀i,d=ae i->i<a.tmps.size){v:Value}{x:A}(hv:RV φ E st.r w v x)(ht:Nv w0 L E st a w v x): lf φ w0 L E (st.put d x) (a.put d v) w:=by cases d with|none=>exact h|some d=>exact h.put (hd d rfl) hv ht
def ah5(h:lf φ w0 L E st a w){o:Oper}{c:Call}{x:Operand}(ho:o.op=.call c)(hcx:c.callee=.value x){g:Nat}{caps:List Value}(hx:a.eval x=.func (.func (φ g)) #[] caps.toArray) {cf:CF} (hcf:CfG P φ w0 L cf) {ab rs outs:List A} (hr:cf g ab=ae (rs,outs)) {K:Nat->Prop} (hK:∀b,K b->b<w.heap.size) (hKE:∀b,E.ok b->K b) (hargs:cW φ w K (c.args.toList.map a.eval++caps) ab) (hcase:(∀b,K b->E.ok b)\/rs.all U5=ar) (hio:rs.any Q0=aw) (hd:∀i,o.dst=ae i->i<a.tmps.size) {next:Act->World->Prop} {Q:Exit->Act->World->Prop} (hn:∀E' v w',lf φ w0 L E' (st.put o.dst (zS (o.dst.getD 0) rs)) (a.put o.dst v) w'->next (a.put o.dst v) w'): o.wp P a w next Q:=by
 obtain⟨hent,hok⟩:=hcf.1 g ab rs outs hr;unfold zq;rw[ajq ho hcx hx hent,Oper.upon_enter];have hvs:(c.args.map a.eval++caps.toArray)=(c.args.toList.map a.eval++caps).toArray:=by apply Ri;simp
 rw[hvs];refine(hok w K _ [] (fL.mT hargs) iy (λb hb=>by cases hb) hK (hcf.2.at h.tocI hKE)).mono λe w' ⟨v,he,hback⟩=> ?_;subst he;obtain⟨rvs,K',rb,ob,rfl,hKK,hK',hres,hout,hnd,hbl⟩:=hback.rest;obtain⟨rfl,rfl⟩:=acd hargs hout;rw[bS]at hnd hbl;have hext:Ext w w':=⟨hback.grow,λb hb=>hback.frame b hb (by simp),hback.env⟩;let E':Env:=⟨λb=>E.ok b\/(K' b/\w.heap.size<=b/\b<w'.heap.size),E.ρ⟩
 have hle:E.Le E' w w':=⟨rfl,λb hb=>.inl hb,λb hb=>hb.imp id λh=>h.2⟩;have hnew:∀b∈rb,w.heap.size<=b:=λb hb=>(hbl b hb).2.2.resolve_left (by simp)
 have hlr:=amD (w0:=w0) (L:=L) (st:=st) (a:=a) (E':=E') hres hnd (λb hb=>by
  obtain⟨h1,h2,h3⟩:=hbl b hb
  refine⟨⟨λhk=> ?_,.inl (dZ h.grow (hnew b hb)),h2⟩,λq b' o hq hq'=> ?_⟩
  ·rcases hk with h4|h4
   ·have:=h.UP b h4;have:=hnew b hb;omega
   ·exact h1 h4.1
  ·have:=(h.rz q b' o hq hq').2.2
   have:=hnew b hb
   omega) (λb hb i k b' ht'=>by have:=hnew b hb;have:=(h.tz i k b' ht').1.2.2;omega) hio (λy hy u hu=>by
  rcases hcase with hKE|hst
  ·refine hu.mono (λ_ _=>rfl) λb hb=> ?_
   rcases hK' b hb with h1|h1
   ·exact .inl (hKE b h1)
   ·exact .inr ⟨hb,h1.resolve_left (by simp)⟩
  ·have hy1:=aG.1 hst y hy
   cases y<;>first
    |exact hu.plain hy1
    |(simp[U5]at hy1;done)
    |cases hu) (λk z xs hm vs hu=>by
  rcases hcase with hKE|hst
  ·refine hu.mono (λ_ _=>rfl) λb hb=> ?_
   rcases hK' b hb with h1|h1
   ·exact .inl (hKE b h1)
   ·exact .inr ⟨hb,h1.resolve_left (by simp)⟩
  ·exact hu.plain (Bb (aG.1 hst _ hm))) (λcs hm vs bs hu=>by
  rcases hcase with hKE|hst
  ·refine hu.mono λb hb=> ?_
   rcases hK' b hb with h1|h1
   ·exact .inl (hKE b h1)
   ·exact .inr ⟨hb,h1.resolve_left (by simp)⟩
  ·exact hu.plain (aG.1 hst _ hm)) (o.dst.getD 0)
 exact hn E' _ w' ((h.ext hext hle).aV hd hlr.1 hlr.2)
end
end Go.Ab
namespace Go.Ab
def aly(P:Program)(t:TypeId)(z:Nat):Bool:=match P.info? t with|some i=>i.size==z|none=>aw
def Tz(P:Program)(s d:TypeId):Conv->Bool
 |.int k=>(match P.underlying s,P.underlying d with|some _,ae (.int j)=>j==k|_,_=>aw)
 |.same=>(match P.underlying s,P.underlying d with|some .string,ae .string=>ar|_,_=>aw)
 |.Jk=>(match P.underlying s,P.underlying d with
  |some (.slice e),ae .string=>(match P.underlying e with|some (.int .u8)=>ar|_=>aw)
  |_,_=>aw)
 |.Kp _=>(match P.underlying s,P.underlying d with
  |some .string,ae (.slice e)=>(match P.underlying e with|some (.int .u8)=>ar|_=>aw)
  |_,_=>aw)
def Rq(P:Program)(φ:Nat->Nat)(b:Builtin)(args:List Operand)(tys:List TypeId)(x:O):Bool:=
 match b,args,tys,x with
 |.len,[y],[t],.len y'=>bV φ y y'&&(match P.underlying t with|some (.slice _)=>ar|_=>aw)
 |.len,[y],[t],.lens y'=>bV φ y y'&&(match P.underlying t with|some .string=>ar|_=>aw)
 |.len,[_],[t],.mv (.c (.int .i64 n))=>(match P.underlying t with|some (.array m _)=>n==(m:Int)|_=>aw)
 |.max,y::ys,_,.max (y'::ys')=>bV φ y y'&&iU φ ys ys'&& !ys'.isEmpty
 |.min,y::ys,_,.min (y'::ys')=>bV φ y y'&&iU φ ys ys'&& !ys'.isEmpty
 |.append,[s,y],[t,u],.app z bytes s' y'=>bV φ s s'&&bV φ y y'&&
   (match P.underlying t,P.underlying u with
    |some (.slice e),ae (.slice _)=>(match P.info? e with|some i=>i.size==z&&i.bytes==bytes&&(match i.zero with|some v=>v.cells.size==z|none=>aw)|none=>aw)
    |_,_=>aw)
 |_,_,_,_=>aw
def aqc(P:Program)(φ:Nat->Nat)(op:Go.Op)(x:O):Bool:=
 match op,x with
 |.move y,.mv z=>bV φ y z
 |.assign y,.asg z=>bV φ y z
 |.assign y,.mv z=>bV φ y z
 |.pick c a b,.pick c' a' b'=>bV φ c c'&&bV φ a a'&&bV φ b b'
 |.alloc t,.alloc z zero=>agn P t z zero
 |.box _ y,.box _ y'=>bV φ y y'
 |.build t ps,.build zero qs=>aaP P φ t ps.toList zero qs
 |.buildSlice t n ps,.VL z zero m qs=>n==m&&(match P.underlying t with|some (.slice e)=>agn P e z zero|_=>aw)&&ng φ ps.toList qs
 |.load t y,.ld n y'=>bV φ y y'&&QU P t n
 |.store t y v,.rq n y' v'=>bV φ y y'&&bV φ v v'&&aly P t n
 |.nilCheck y,.Oz y'=>bV φ y y'
 |.binOp op t y z _,.bin op' y' z'=>op==op'&&bV φ y y'&&bV φ z z'
 |.binOp op t y z _,.eqs neq ks y' z'=>op==(if neq then .neq else .eql)&&bV φ y y'&&bV φ z z'&&akx P t ks
 |.binOp op t y z _,.eqb neq y' z'=>op==(if neq then .neq else .eql)&&bV φ y y'&&bV φ z z'&&(match P.underlying t with|some .bool=>ar|_=>aw)
 |.unOp op _ y,.un op' y'=>op==op'&&bV φ y y'
 |.convert s d y,.conv k y'=>bV φ y y'&&Tz P s d k
 |.fieldAddr t y f,.fa off y'=>bV φ y y'&&amk P t f off
 |.field t y f,.fld off n y'=>bV φ y y'&&aky P t f off n
 |.indexAddr t y i,.ia z y' i'=>bV φ y y'&&bV φ i i'&&ah7 P t z
 |.indexAddr t y i,.iaa len z y' i'=>bV φ y y'&&bV φ i i'&&agl P t len z
 |.index t y i,.ix y' i'=>bV φ y y'&&bV φ i i'&&(match P.underlying t with|some .string=>ar|_=>aw)
 |.index t y i,.ixa len z n y' i'=>bV φ y y'&&bV φ i i'&&(match P.underlying t with|some (.array m e)=>m==len&&aly P e z&&QU P e n|_=>aw)
 |.slice t y lo hi ai,.slc z y' lo' hi'=>bV φ y y'&&BV φ lo lo'&&BV φ hi hi'&&(match P.underlying t with|some (.slice e)=>aly P e z|_=>aw)
 |.slice t y lo hi ai,.als y' lo' hi'=>bV φ y y'&&BV φ lo lo'&&BV φ hi hi'&&(match P.underlying t with|some .string=>ar|_=>aw)
 |.makeSlice t l c,.mks z bytes zero l' c'=>bV φ l l'&&bV φ c c'&&(match P.underlying t with
   |some (.slice e)=>agn P e z zero&&(match P.info? e with|some i=>i.bytes==bytes|none=>aw)
   |_=>aw)
 |.makeFunc (.func f) first caps,.mkf g caps'=>φ g==f&&first.size==0&&iU φ caps.toList caps'
 |.extract y i,.ext y' j=>bV φ y y'&&i==j
 |.call ⟨.builtin b,args,tys⟩,x=>Rq P φ b args.toList tys.toList x
 |.call ⟨.value f,args,_⟩,.call f' args'=>bV φ f f'&&iU φ args.toList args'
 |_,_=>aw
section
variable {P:Program} {φ:Nat->Nat} {w0:World} {L:kU} {E:Env} {st:St} {a:Act} {w w':World}
def AM{α β γ:Type}(x:Result α)(f:α->World->Result β)(g:β->World->Result γ):
 (x.andThen f).andThen g=x.andThen λa w'=>(f a w').andThen g:=by cases x<;>rfl
def Xv{t:TypeId}{z:Nat}(h:aly P t z=ar):∃i,P.info? t=ae i/\i.size=z:=by
 unfold aly at h;split at h;·rename_i i hi;exact⟨i,hi,by simpa using h⟩
 ·cases h
def Mn(h:lf φ w0 L E st a w){o:Oper}{S:Sem Value}{r:A}(hv:anv P φ w0 L E st a w S r)(he:(execOp a.eval o).run P w=(S.run P w).andThen λv w'=>.ok (.value v) w') (hd:∀i,o.dst=ae i->i<a.tmps.size) {next:Act->World->Prop} {Q:Exit->Act->World->Prop} (hn:∀E' v w',lf φ w0 L E' (st.put o.dst r) (a.put o.dst v) w'->next (a.put o.dst v) w'): o.wp P a w next Q:=by obtain⟨v,w',E',hrun,hext,hle,hrv,htk⟩:=hv;unfold zq;rw[he,hrun,bP,oi];exact hn E' v w' ((h.ext hext hle).aV hd hrv htk)
def ez(h:lf φ w0 L E st a w){o:Oper}{S:Sem Value}{r:A}(hv:QR P φ E st a w S r)(he:(execOp a.eval o).run P w=(S.run P w).andThen λv w'=>.ok (.value v) w')
 (hd:∀i,o.dst=ae i->i<a.tmps.size) {next:Act->World->Prop} {Q:Exit->Act->World->Prop} (hn:∀E' v w',lf φ w0 L E' (st.put o.dst r) (a.put o.dst v) w'->next (a.put o.dst v) w'):
 o.wp P a w next Q:=Mn h (hv.two h) he hd hn
def afg{α:Type}{xs:Array α}{y:α}(h:xs.toList=[y]):xs= #[y]:=by apply Ri;simpa using h
def auB{α:Type}{xs:Array α}{y z:α}(h:xs.toList=[y,z]):xs= #[y,z]:=by apply Ri;simpa using h
def atx{o:Oper}{f:FuncId}{first caps:Array Operand}(ho:o.op=.makeFunc (.func f) first caps)(h0:first.size=0): (execOp a.eval o).run P w=.ok (.value (.func (.func f) #[] (caps.map a.eval))) w:=by obtain rfl:first= #[]:=Array.eq_empty_of_size_eq_zero h0;simp[execOp,ho,Instr.makeFunc]
def WX(h:lf φ w0 L E st a w):∀{os:List Operand} {ys:List bZ},iU φ os ys=ar->fE (λv x=>RV φ E st.r w v x/\DX st a v x) (os.map a.eval) (ys.map (bZ.v st))
 | [],[],_=>.nil
 | [],_::_,h'=>by simp[iU]at h'
 |_::_,[],h'=>by simp[iU]at h'
 |o::os,y::ys,h'=>by
  simp only[iU,aj]at h'
  exact .cons (dz h h'.1) (WX h h'.2)
def aik{cf:CF}(hcf:CfG P φ w0 L cf){io:Nat->List Bool}(h:lf φ w0 L E st a w){o:Oper}{x:O}(hc:aqc P φ o.op x=ar)(hd:∀i,o.dst=ae i->i<a.tmps.size){r:A} (he:bJ cf io o.dst st x=ae r) {next:Act->World->Prop} {Q:Exit->Act->World->Prop} (hn:∀E' v w',lf φ w0 L E' (st.put o.dst r) (a.put o.dst v) w'->next (a.put o.dst v) w'):o.wp P a w next Q:=by
 obtain⟨dst,op,ty,pos,after,guard⟩:=o;simp only at hc hd he hn;unfold aqc at hc;split at hc<;>(try(cases hc;done))<;>(try simp only[aj]at hc)<;>simp only[bJ]at he
 ·simp only[aq]at he;subst he;exact ez h (.pure (dz h hc)) (by simp[execOp]) hd hn
 ·have:QR P φ E st a w (I4 (a.eval _)) r:=.pure (by
   split at he<;>(try(cases he;done))<;>simp only[aq]at he<;>subst he<;>exact dz h hc)
  exact ez h this (by simp[execOp]) hd hn
 ·simp only[aq]at he;subst he;exact ez h (.pure (dz h hc)) (by simp[execOp]) hd hn
 ·split at he;·rename_i t ht;simp only[aq]at he;subst he;exact ez h (arF h hc.1.1 hc.1.2 hc.2 ht) (by simp[execOp,AM]) hd hn
  ·cases he
 ·cases he
 ·cases he
 ·exact ez h (aoQ h hc he) (by simp[execOp]) hd hn
 ·split at he;·rename_i d;obtain⟨⟨hnm,hz⟩,hp⟩:=hc;simp only[b9]at hnm;subst hnm;split at hz;(·rename_i e ht;exact Mn h (atL h ht hz hp he) (by simp[execOp]) hd hn);·cases hz
  ·cases he
 ·exact ez h (arD h hc.1 hc.2 he) (by simp[execOp]) hd hn
 ·cases he
 ·rename_i y y';obtain⟨v,hrun,hrv,hcp⟩:=aoR (o:=⟨dst,.nilCheck y,ty,pos,after,guard⟩) h hc rfl he;unfold zq;rw[hrun,oi];exact hn E v w (h.aV hd hrv (hcp.tok h))
 ·obtain⟨⟨hop,h1⟩,h2⟩:=hc;simp only[b9]at hop;subst hop;exact ez h (atK (t:=_) (u:=ty) h h1 h2 he) (by simp only[execOp,dp,AM];rfl) hd hn
 ·obtain⟨⟨⟨hop,h1⟩,h2⟩,h3⟩:=hc;simp only[b9]at hop;exact ez h (atN h hop h1 h2 h3 he) (by simp[execOp,AM]) hd hn
 ·obtain⟨⟨⟨hop,h1⟩,h2⟩,h3⟩:=hc;simp only[b9]at hop;split at h3;·rename_i ht;exact ez h (atM h hop h1 h2 ht he) (by simp[execOp,AM]) hd hn
  ·cases h3
 ·obtain⟨hop,h1⟩:=hc;simp only[b9]at hop;subst hop;exact ez h (av8 h h1 he) (by simp[execOp]) hd hn
 ·rename_i s d y k y';obtain⟨h1,h2⟩:=hc;cases k with|int k=>simp only[Tz]at h2;split at h2;(·rename_i ds j hs hdd;simp only[b9]at h2;subst h2;(have he':(match y'.v st with|.int _ n=>ae (A.int j (j.wrap n))|_=>ai)=ae r:=by cases hv:y'.v st<;>rw[hv]at he<;>first|exact he|cases he);exact ez h (ahv h h1 hs hdd he') (by simp[execOp]) hd hn);·cases h2|same=>simp only[Tz]at h2;split at h2;(·rename_i hs hdd;(have he':(match y'.v st with|.str n=>ae (A.str n)|_=>ai)=ae r:=by cases hv:y'.v st<;>rw[hv]at he<;>first|exact he|cases he);exact ez h (aeD h h1 hs hdd he') (by simp[execOp]) hd hn);·cases h2|Jk=>simp only[Tz]at h2;split at h2;(·rename_i e hs hdd;split at h2;(·rename_i hee;exact ez h (adg h h1 hs hee hdd he) (by simp[execOp]) hd hn);·cases h2);·cases h2|Kp z=>simp only[Tz]at h2;split at h2;(·rename_i e hs hdd;split at h2;(·rename_i hee;cases dst with|none=>exfalso;cases hv:y'.v st<;>rw[hv]at he<;>cases he|some d1=>(have he':(match y'.v st with|.str s=>if z=1 then ae (A.tok (8*d1) 1 (s.map λb=>.int .u8 b.toNat))else ai|_=>ai)=ae r:=by cases hv:y'.v st<;>rw[hv]at he<;>first|exact he|cases he);exact Mn h (aeE h h1 hs hdd hee he') (by simp[execOp]) hd hn);·cases h2);·cases h2
 ·exact ez h (av5 h hc.1 hc.2 he) (by simp[execOp]) hd hn
 ·exact ez h (atP h hc.1 hc.2 he) (by simp[execOp]) hd hn
 ·exact ez h (av6 h hc.1.1 hc.1.2 hc.2 he) (by simp[execOp]) hd hn
 ·exact ez h (atQ h hc.1.1 hc.1.2 hc.2 he) (by simp[execOp]) hd hn
 ·obtain⟨⟨h1,h2⟩,h3⟩:=hc;split at h3;·rename_i ht;exact ez h (av7 h h1 h2 ht he) (by simp[execOp]) hd hn
  ·cases h3
 ·obtain⟨⟨h1,h2⟩,h3⟩:=hc;split at h3;·rename_i m e ht;simp only[aj,b9]at h3;obtain⟨⟨rfl,h4⟩,h5⟩:=h3;obtain⟨i,hi,hz⟩:=Xv h4;exact ez h (atS h h1 h2 ht hi hz h5 he) (by simp[execOp]) hd hn
  ·cases h3
 ·obtain⟨⟨⟨h1,h2⟩,h3⟩,h4⟩:=hc;split at h4;·rename_i e ht;obtain⟨i,hi,hz⟩:=Xv h4;exact ez h (atV h h1 h2 h3 ht hi hz he) (by simp[execOp]) hd hn
  ·cases h4
 ·obtain⟨⟨⟨h1,h2⟩,h3⟩,h4⟩:=hc;split at h4;·rename_i ht;exact ez h (arG h h1 h2 h3 ht he) (by simp[execOp]) hd hn
  ·cases h4
 ·obtain⟨⟨h1,h2⟩,h3⟩:=hc;split at he;·rename_i d n m e1 e2;split at h3;(·rename_i e ht;simp only[aj]at h3;obtain⟨h4,h5⟩:=h3;refine Mn h (atU (d:=d) (bytes:=_) h h1 h2 ht h4 (λi hi=> ?_) (by rw[e1,e2];exact he)) (by simp[execOp]) hd hn;rw[hi]at h5;simpa using h5);·cases h3
  ·cases he
 ·rename_i f first caps g caps';obtain⟨⟨h1,h2⟩,h3⟩:=hc;simp only[b9]at h1 h2;subst h1;split at he
  ·rename_i hs;simp only[aq]at he;subst he;unfold zq;rw[atx (o:=⟨dst,.makeFunc (.func (φ g)) first caps,ty,pos,after,guard⟩) rfl h2,oi];have hall:=WX h h3;(have hmap:caps.map a.eval=(caps.toList.map a.eval).toArray:=by apply Ri;simp);rw[hmap]
   have hrv:RV φ E st.r w (.func (.func (φ g)) #[] (caps.toList.map a.eval).toArray) (.fn g (caps'.map (bZ.v st))):=by
    refine .fn g _ _ ⟨hall.1,λj v x hv hx=> ?_⟩ (λx hx=>by
     have:=aG.1 hs x hx
     simp only[aj,cn]at this
     exact this.2)
    have hx1:=aG.1 hs x (bw hx);simp only[aj]at hx1;have hr:=(hall.2 j v x hv hx).1;by_cases hxa:∃cs,x=.agg cs;(·obtain⟨cs,rfl⟩:=hxa;simp[gj,cr]at hx1);·exact(Xb hr hx1.1 λcs e=>hxa ⟨cs,e⟩).1
   exact hn E _ w (h.aV hd hrv ((DX.scalar ate).tok h))
  ·cases he
 ·obtain⟨h1,h2⟩:=hc;simp only[b9]at h2;subst h2;exact ez h (atO h h1 he) (by simp[execOp]) hd hn
 ·rename_i b args tys x';unfold Rq at hc;split at hc<;>(try(cases hc;done))<;>(try simp only[aj]at hc)<;>(try simp only[bJ]at he)
  ·rename_i hargs htys;rw[afg hargs,afg htys];obtain⟨h1,h2⟩:=hc;obtain⟨n,hn1,rfl⟩:=au.1 he;split at h2;(·rename_i e ht;exact ez h (atT (ty:=ty) h h1 ht hn1) (by simp[execOp,resolve,invoke,builtin]) hd hn);·cases h2
  ·rename_i hargs htys;rw[afg hargs,afg htys];obtain⟨h1,h2⟩:=hc;split at h2;(·rename_i ht;exact ez h (arE (ty:=ty) h h1 ht he) (by simp[execOp,resolve,invoke,builtin]) hd hn);·cases h2
  ·rename_i hargs htys;rw[afg hargs,afg htys];simp only[bZ.v,aq]at he;subst he;split at hc;(·rename_i m e ht;simp only[b9]at hc;subst hc;refine ez (S:=xz #[_] ty #[a.eval _]) h (fQ (v:=.int .i64 m) ?_ (.int _ _)) (by simp[execOp,resolve,invoke,builtin];rfl) hd hn;simp[xz,run_underlying ht,goInt]);·cases hc
  ·rename_i hargs;obtain⟨⟨h1,h2⟩,h3⟩:=hc;simp only[aP]at he;(have hne:∀l:List bZ,(!l.isEmpty)=ar->l≠ []:=λl hl e=>by subst e;simp at hl);refine ez h (ajS (g:=asn) atb h h1 h2 (hne _ h3) he) ?_ hd hn;simp[execOp,resolve,invoke,builtin,Builtin.max_,hargs]
  ·rename_i hargs;obtain⟨⟨h1,h2⟩,h3⟩:=hc;simp only[aP]at he;(have hne:∀l:List bZ,(!l.isEmpty)=ar->l≠ []:=λl hl e=>by subst e;simp at hl);refine ez h (ajS (g:=aso) atc h h1 h2 (hne _ h3) he) ?_ hd hn;simp[execOp,resolve,invoke,builtin,Builtin.min_,hargs]
  ·cases he
 ·rename_i f args tys f' args';obtain⟨h1,h2⟩:=hc;have hf:=dz h h1;split at he;·rename_i g caps hfv;rw[hfv]at hf;obtain⟨cv,hev,hcaps⟩:=hf.1.aa1;split at he;(·cases he);·obtain⟨ab,has,he⟩:=ak.1 he;obtain⟨cs,hcs,he⟩:=ak.1 he;split at hcs;(·cases hcs);·rename_i hnt;(have hnt':caps.any pF=aw:=by simpa using hnt);obtain⟨⟨rs,outs⟩,hr,he⟩:=ak.1 he;simp only at he;split at he;(·rename_i hcond;simp only[aq]at he;subst he;simp only[aj,cj,cn,oA]at hcond;obtain⟨hcond,hio⟩:=hcond;(rcases hcond with hst|⟨ho1,ho2⟩);(·exact ah5 (o:=⟨dst,.call ⟨.value f,args,tys⟩,ty,pos,after,guard⟩) h rfl rfl hev hcf hr (K:=avj w) (λ_ hb=>hb) h.UP ((aeY h h2 has).append (ae0 h.tocI (.all h.tocI) hcaps hnt' hcs)) (.inr hst) hio hd hn);·exact ah5 (o:=⟨dst,.call ⟨.value f,args,tys⟩,ty,pos,after,guard⟩) h rfl rfl hev hcf hr (K:=E.ok) h.UP (λ_ hb=>hb) ((aaC h h2 ho1 has).append (hcaps.free ho2 hcs)) (.inl λ_ hb=>hb) hio hd hn);·cases he
  ·cases he
end
end Go.Ab
namespace Go.Ab
section
variable {P:Program} {φ:Nat->Nat} {w0:World} {L:kU} {E E':Env} {st st':St} {ev ev':Nat->Value} {w w':World} {r r':Nat->Option dF}
def jr.k9(hok:∀b,E.ok b->E'.ok b)(hr:∀q R,r' q=ae R->r q=ae R/\E'.ρ q=E.ρ q){v:Value}{x:A}(h:jr φ E r w v x):jr φ E' r' w v x:=by
 have hnone:∀q,r q=ai->r' q=ai:=λq hq=>by cases e:r' q with|none=>rfl|some R=>have:=(hr q R e).1;rw[hq]at this;cases this
 have hsome:∀q R,r q=ae R->r' q=ai\/(r' q=ae R/\E'.ρ q=E.ρ q):=λq R hq=>by cases e:r' q with|none=>exact .inl rfl|some R'=>have:=hr q R' e;rw[hq]at this;obtain⟨h1,h2⟩:=this;cases h1;exact .inr ⟨rfl,h2⟩
 cases h with|any=>exact .any _|undef=>exact .undef|data _ _ h=>exact .data _ _ (h.mono (λ_ _=>rfl) hok)|DI=>exact .DI _ _ _|tok b o cap k z xs vs hc h0 hz h hv hr=>exact .tok b o cap k z xs vs hc h0 hz (h.mono (λ_ _=>rfl) hok) hv hr|lA _ q off n h=>exact .lA _ _ _ _ (hnone _ h)|kP ad q off R h hb hn=>(rcases hsome q R h with h1|⟨h1,h2⟩);(·exact .lA _ _ _ _ h1);·exact .kP ad q off R h1 hb hn|view b o cap q off n R h hb hn hc h0 hq hr=>(rcases hsome q R h with h1|⟨h1,h2⟩);(·exact .lA _ _ _ _ h1);·exact .view b o cap q off n R h1 hb hn hc h0 (h2.trans hq) hr|Lx _ q i c h=>exact .Lx _ _ _ _ (hnone _ h)|loc b o q i c R h hq=>(rcases hsome q R h with h1|⟨h1,h2⟩);(·exact .Lx _ _ _ _ h1);·exact .loc b o q i c R h1 (h2.trans hq)
def fg.k9(hok:∀b,E.ok b->E'.ok b)(hr:∀q R,r' q=ae R->r q=ae R/\E'.ρ q=E.ρ q){q c:Nat}{v:Value}{x:A}(h:fg φ E r w q c v x):fg φ E' r' w q c v x:=by cases h with|data _ h ha=>exact .data _ _ (h.mono (λ_ _=>rfl) hok) ha|any h=>exact .any _ h|view off n hc h hv=>exact .view _ _ _ hc (h.k9 hok hr) hv
def l9.k9(hok:∀b,E.ok b->E'.ok b)(hr:∀q R,r' q=ae R->r q=ae R/\E'.ρ q=E.ρ q){q:Nat}{R:dF}(hq:r' q=ae R)(h:l9 φ E r w q R):l9 φ E' r' w q R:=by have hρ:=(hr q R hq).2;cases h with|empty z h=>exact .empty z (hρ.trans h)|sl b o z xs vs hq' hz h hv hrm=>exact .sl b o z xs vs (hρ.trans hq') hz (h.mono (λ_ _=>rfl) hok) hv hrm|box b o z x vs hq' hz hlt hl h hv hrm=>exact .box b o z x vs (hρ.trans hq') hz hlt hl (λc v a h1 h2=>(h c v a h1 h2).k9 hok hr) hv hrm
def cI.giveUp(h:cI φ w0 L E st ev w){N T:Nat->Prop}{ok':Nat->Prop}(h1:∀b,E.ok b->ok' b) (h2:∀b,ok' b->E.ok b\/(∃q o,N q/\(st.r q).isSome/\E.ρ q=ae (b,o))\/(∃i k,T k/\Tk (ev i) (st.t i) k b)) (hr:∀q R,st'.r q=ae R->st.r q=ae R/\¬N q) (hs:∀i,RV φ ⟨ok',E.ρ⟩ st'.r w (ev' i) (st'.t i)) (ht:∀i k b,Tk (ev' i) (st'.t i) k b->¬T k/\∃j,Tk (ev j) (st.t j) k b):cI φ w0 L ⟨ok',E.ρ⟩ st' ev' w:=by
 have hsm:∀q,(st'.r q).isSome->(st.r q).isSome/\¬N q:=λq hq=>by obtain⟨R,hR⟩:=dq.1 hq;exact⟨by rw[(hr q R hR).1];rfl,(hr q R hR).2⟩
 exact{
  iZ:=hs
  roots:=λq R hq=>l9.k9 (E:=E) (E':=⟨ok',E.ρ⟩) (r:=st.r) h1 (λq R hq=>⟨(hr q R hq).1,rfl⟩) hq (h.roots q R (hr q R hq).1)
  inj:=λq q' b o b' o' a1 a2 a3 a4=>h.inj q q' b o b' o' (hsm q a1).1 (hsm q' a2).1 a3 a4
  rz:=λq b o a1 a2=>by
   have a3:=hsm q a1
   have a4:=h.rz q b o a3.1 a2
   refine⟨λhk=> ?_,a4.2⟩
   rcases h2 b hk with h3|⟨q',o',n1,n2,n3⟩|⟨i,k,n1,n2⟩
   ·exact a4.1 h3
   ·exact h.inj q q' b o b o' a3.1 n2 a2 n3 (λe=>a3.2 (e▸n1)) rfl
   ·exact(h.tz i k b n2).2 q b o a3.1 a2 rfl
  tz:=λi k b a1=>by
   obtain⟨a2,j,a3⟩:=ht i k b a1
   have a4:=h.tz j k b a3
   refine⟨⟨λhk=> ?_,a4.1.2⟩,λq b' o a5 a6=>a4.2 q b' o (hsm q a5).1 a6⟩
   rcases h2 b hk with h3|⟨q',o',n1,n2,n3⟩|⟨i',k',n1,n2⟩
   ·exact a4.1.1 h3
   ·exact a4.2 q' b o' n2 n3 rfl
   ·exact h.td j i' k k' b b a3 n2 (λe=>a2 (e▸n1)) rfl
  td:=λi j k k' b b' a1 a2 a3=>by
   obtain⟨_,i',a4⟩:=ht i k b a1
   obtain⟨_,j',a5⟩:=ht j k' b' a2
   exact h.td i' j' k k' b b' a4 a5 a3
  UP:=λb hk=>by
   rcases h2 b hk with h3|⟨q',o',n1,n2,n3⟩|⟨i,k,n1,n2⟩
   ·exact h.UP b h3
   ·exact(h.rz q' b o' n2 n3).2.2
   ·exact(h.tz i k b n2).1.2.2
  grow:=h.grow,frame:=h.frame,env:=h.env,fr:=h.fr,room:=h.room
  Qr:=λi p a1 a2=>h.Qr i p a1 (hsm i a2).1
  okU:=λb hb=>h1 b (h.okU b hb)
  okL:=λb hk=>by
   rcases h2 b hk with h3|⟨q',o',n1,n2,n3⟩|⟨i,k,n1,n2⟩
   ·exact h.okL b h3
   ·exact .inr (h.rz q' b o' n2 n3).2.1
   ·exact .inr (h.tz i k b n2).1.2.1}
def cI.k9(h:cI φ w0 L E st ev w)(hr:∀q R,st'.r q=ae R->st.r q=ae R)(hs:∀i,RV φ E st'.r w (ev' i) (st'.t i))
 (ht:∀i k b,Tk (ev' i) (st'.t i) k b->∃j,Tk (ev j) (st.t j) k b):cI φ w0 L E st' ev' w:=
 h.giveUp (N:=λ_=>False) (T:=λ_=>False) (ok':=E.ok) (λ_ h=>h) (λb h=>.inl h) (λq R hq=>⟨hr q R hq,id⟩) hs (λi k b a=>⟨id,ht i k b a⟩)
structure Fd(f:A->A)(G:Nat->Prop):Prop where
 tk:∀v x k b,Jh v (f x) k b->Jh v x k b/\G k
 na:∀x,(∀cs,x≠ .agg cs)->(∀cs,x≠ .sf cs)->(∀cs,f x≠ .agg cs)/\(∀cs,f x≠ .sf cs)
 nt:∀x,pF x=aw->pF (f x)=aw
def Tk.cJ{f:A->A}{G:Nat->Prop}(hf:Fd f G){v:Value}{x:A}{k b:Nat}(h:Tk v (Ab.cJ f x) k b):Tk v x k b/\G k:=by
 have one:(∀cs,x≠ .agg cs)->(∀cs,x≠ .sf cs)->Tk v (f x) k b->Tk v x k b/\G k:=λh1 h2 h=>by have h3:=hf.na x h1 h2;generalize hy:f x=y at h;cases h with|one _ _ _ _ h=>subst hy;exact⟨.one _ _ _ _ (hf.tk _ _ _ _ h).1,(hf.tk _ _ _ _ h).2⟩|sf=>exact absurd hy (h3.2 _)|agg=>exact absurd hy (h3.1 _)
 cases x with|agg xs=>(simp only[Ab.cJ]at h;generalize hy:A.agg (xs.map f)=y at h;cases h with|one _ _ _ _ h=>subst hy;cases h|sf=>cases hy|agg vs ys j k b v a hv ha ht=>cases hy;simp only[bX,au]at ha;obtain⟨c,hc,rfl⟩:=ha;exact⟨.agg vs xs j k b v c hv hc (hf.tk _ _ _ _ ht).1,(hf.tk _ _ _ _ ht).2⟩)|sf xs=>(simp only[Ab.cJ]at h;generalize hy:A.sf (xs.map f)=y at h;cases h with|one _ _ _ _ h=>subst hy;cases h|agg=>cases hy|sf vs ys j k b v a hv ha ht=>cases hy;simp only[bX,au]at ha;obtain⟨c,hc,rfl⟩:=ha;exact⟨.sf vs xs j k b v c hv hc (hf.tk _ _ _ _ ht).1,(hf.tk _ _ _ _ ht).2⟩)|fn g xs=>(simp only[Ab.cJ]at h;cases h with|one _ _ _ _ h=>cases h)|_=>exact one (λ_ h=>by cases h) (λ_ h=>by cases h) h
def RV.aaS{f:A->A}(hnt:∀x,pF x=aw->pF (f x)=aw){v:Value}{x:A}(hf:∀u y,(∀k b,Jh u y k b->Tk v x k b)->jr φ E r w u y->jr φ E' r' w' u (f y))(h:RV φ E r w v x): RV φ E' r' w' v (Ab.cJ f x):=by cases x with|agg xs=>obtain⟨vs,rfl,h1⟩:=h.xK;refine .agg _ _ ⟨by simp[h1.1],λj u y hu hy=> ?_⟩;simp only[bX,au]at hy;obtain⟨z,hz,rfl⟩:=hy;exact hf u z (λk b ht=>.agg vs xs j k b u z hu hz ht) (h1.2 j u z hu hz)|sf xs=>obtain⟨vs,rfl,h1⟩:=h.ahr;refine .sf _ _ ⟨by simp[h1.1],λj u y hu hy=> ?_⟩;simp only[bX,au]at hy;obtain⟨z,hz,rfl⟩:=hy;exact hf u z (λk b ht=>.sf vs xs j k b u z hu hz ht) (h1.2 j u z hu hz)|fn g xs=>obtain⟨vs,rfl,h1,h2⟩:=h.ags;refine .fn _ _ _ ⟨by simp[h1.1],λj u y hu hy=> ?_⟩ (λx hx=>by obtain⟨y,hy,rfl⟩:=dK.1 hx;exact hnt y (h2 y hy));simp only[bX,au]at hy;obtain⟨z,hz,rfl⟩:=hy;refine hf u z (λk b ht=> ?_) (h1.2 j u z hu hz);have:=h2 z (bw hz);cases ht;cases this|_=>cases h with|one _ _ h=>exact .one _ _ (hf _ _ (λk b ht=>.one _ _ _ _ ht) h)
def RV.cJ{f:A->A}(hnt:∀x,pF x=aw->pF (f x)=aw)(hf:∀v x,jr φ E r w v x->jr φ E' r' w' v (f x)){v:Value}{x:A}(h:RV φ E r w v x):RV φ E' r' w' v (Ab.cJ f x):=
 h.aaS hnt λu y _=>hf u y
def wh(q:Nat):Fd (ju q) (λ_=>True) where
 tk:=λv x k b h=>by
  unfold ju at h;split at h;·cases h
  ·exact⟨h,trivial⟩
 na:=λx h1 h2=>by unfold ju;split<;>first|exact⟨h1,h2⟩|exact⟨(λ_ h=>by cases h),(λ_ h=>by cases h)⟩
 nt:=λx h=>by unfold ju;split<;>first|exact h|rfl
def Eb(q:Nat):Fd (iS q) (λk=>k≠q) where
 tk:=λv x k b h=>by
  unfold iS at h;split at h;·cases h
  ·rename_i hn;refine⟨h,λe=>hn ?_⟩;cases h;simp[abu,e]
 na:=λx h1 h2=>by unfold iS;split<;>first|exact⟨h1,h2⟩|exact⟨(λ_ h=>by cases h),(λ_ h=>by cases h)⟩
 nt:=λx h=>by unfold iS;split<;>first|exact h|rfl
def aim(q:Nat):Fd (zl q) (λk=>k≠q) where
 tk:=λv x k b h=>by
  unfold zl at h;split at h;·split at h;(·cases h);·rename_i hn;refine⟨h,λe=>hn ?_⟩;cases h;exact e
  ·rename_i hn;cases h;exact absurd rfl (hn _ _ _)
 na:=λx h1 h2=>by unfold zl;split<;>(try split)<;>first|exact⟨h1,h2⟩|exact⟨(λ_ h=>by cases h),(λ_ h=>by cases h)⟩
 nt:=λx h=>by unfold zl;split<;>(try split)<;>first|exact h|rfl
def KL(ks:List Nat):Fd (ql ks) (λk=>k∉ks) where
 tk:=λv x k b h=>by
  unfold ql at h;split at h;·split at h;(·cases h);·rename_i hn;refine⟨h,λe=>hn ?_⟩;cases h;simpa using e
  ·rename_i hn;cases h;exact absurd rfl (hn _ _ _)
 na:=λx h1 h2=>by unfold ql;split<;>(try split)<;>first|exact⟨h1,h2⟩|exact⟨(λ_ h=>by cases h),(λ_ h=>by cases h)⟩
 nt:=λx h=>by unfold ql;split<;>(try split)<;>first|exact h|rfl
def ae6(q:Nat)(R:dF):Fd (uN q R) (λ_=>True) where
 tk:=λv x k b h=>by
  unfold uN at h;split at h;·split at h;(·cases h);·exact⟨h,trivial⟩
  ·split at h;(·cases h);·exact⟨h,trivial⟩
  ·exact⟨h,trivial⟩
 na:=λx h1 h2=>by unfold uN;split<;>(try split)<;>first|exact⟨h1,h2⟩|exact⟨(λ_ h=>by cases h),(λ_ h=>by cases h)⟩
 nt:=λx h=>by unfold uN;split<;>(try split)<;>first|exact h|rfl
def cI.map(h:cI φ w0 L E st ev w){f:A->A}{G:Nat->Prop}(hf:Fd f G)(hv:∀v x,jr φ E st.r w v x->jr φ E st.r w v (f x)):cI φ w0 L E (st.map (cJ f)) ev w:=
 h.k9 (λ_ _ h=>h) (λi=>(h.iZ i).cJ hf.nt hv) (λi k b ht=>⟨i,(Tk.cJ hf ht).1⟩)
def cI.kill(h:cI φ w0 L E st ev w)(q:Nat):cI φ w0 L E (st.kill q) ev w:=
 h.map (wh q) λv x hx=>by unfold ju;split<;>first|exact .any _|exact hx
def cI.cX(h:cI φ w0 L E st ev w)(q:Nat):cI φ w0 L E (st.cX q) ev w:=
 h.map (Eb q) λv x hx=>by unfold iS;split<;>first|exact .any _|exact hx
def xr(q:Nat)(x:A):refs q (cJ (ju q) x)=aw:=by
 have h1:∀y,iY q (ju q y)=aw:=λy=>by unfold ju;split;(·rfl);·rename_i h;simpa using h
 have hl:∀xs:List A,(xs.map (ju q)).any (iY q)=aw:=λxs=>by rw[CI];intro y hy;obtain⟨z,_,rfl⟩:=dK.1 hy;simp[h1 z]
 cases x<;>first
  |exact hl _
  |(simp only[cJ,ju];split<;>first|rfl|(rename_i h;simpa[refs]using h))
def cI.less(h:cI φ w0 L E st ev w){r':Nat->Option dF}(hr:∀q R,r' q=ae R->st.r q=ae R):cI φ w0 L E {st with r:=r'} ev w:=
 h.k9 hr (λi=>(h.iZ i).imp λv x hx=>hx.k9 (λ_ h=>h) (λq R hq=>⟨hr q R hq,rfl⟩)) (λi k b ht=>⟨i,ht⟩)
def cI.CD(h:cI φ w0 L E st ev w)(q:Nat):cI φ w0 L E (st.aD q ai) ev w:=
 h.less λp R hp=>by
  split at hp;·cases hp
  ·exact hp
def jr.root{q:Nat}{p:Option (Nat×Nat)}{R:dF}(hq:r q=ai){v:Value}{x:A}(hn:iY q x=aw)(h:jr φ E r w v x): jr φ ⟨E.ok,λi=>if i=q then p else E.ρ i⟩ (λi=>if i=q then ae R else r i) w v x:=by
 have hne:∀p,(p==q)=aw->p≠q:=λp h e=>by simp[e]at h
 cases h with|any=>exact .any _|undef=>exact .undef|data _ _ h=>exact .data _ _ h|DI=>exact .DI _ _ _|tok b o cap k z xs vs hc h0 hz h hv hr=>exact .tok b o cap k z xs vs hc h0 hz h hv hr|lA _ q' off n h=>have:=hne _ hn;exact .lA _ _ _ _ (by simp[this,h])|kP ad q' off R' h hb hnn=>have:=hne _ hn;exact .kP ad q' off R' (by simp[this,h]) hb hnn|view b o cap q' off n R' h hb hnn hc h0 hq' hr=>have:=hne _ hn;exact .view b o cap q' off n R' (by simp[this,h]) hb hnn hc h0 (by simp[this,hq']) hr|Lx _ q' i c h=>have:=hne _ hn;exact .Lx _ _ _ _ (by simp[this,h])|loc b o q' i c R' h hq'=>have:=hne _ hn;exact .loc b o q' i c R' (by simp[this,h]) (by simp[this,hq'])
def RV.root{q:Nat}{p:Option (Nat×Nat)}{R:dF}(hq:r q=ai){v:Value}{x:A}(hn:refs q x=aw)(h:RV φ E r w v x): RV φ ⟨E.ok,λi=>if i=q then p else E.ρ i⟩ (λi=>if i=q then ae R else r i) w v x:=by have mp:∀{vs:List Value} {xs:List A},xs.any (iY q)=aw->fE (jr φ E r w) vs xs->fE (jr φ ⟨E.ok,λi=>if i=q then p else E.ρ i⟩ (λi=>if i=q then ae R else r i) w) vs xs:=λh1 h2=> ⟨h2.1,λj v x hv hx=>(h2.2 j v x hv hx).root hq (by have:=CI.1 h1 x (bw hx);simpa using this)⟩;cases x with|agg xs=>obtain⟨vs,rfl,h1⟩:=h.xK;exact .agg _ _ (mp hn h1)|sf xs=>obtain⟨vs,rfl,h1⟩:=h.ahr;exact .sf _ _ (mp hn h1)|fn g xs=>obtain⟨vs,rfl,h1,h2⟩:=h.ags;exact .fn _ _ _ (mp hn h1) h2|_=>cases h with|one _ _ h=>exact .one _ _ (h.root hq hn)
def cI.root(h:cI φ w0 L E st ev w){q:Nat}{R:dF}{p:Option (Nat×Nat)}(hq:st.r q=ai)(hn:∀i,refs q (st.t i)=aw) (hc:∀p' R',st.r p'=ae R'->R'.b=ar->∀x∈R'.xs,∀y∈x.cells,iY q y=aw) (hp:∀b o,p=ae (b,o)->(¬E.ok b/\Tv w0 L b/\b<w.heap.size)/\(∀q' b' o',(st.r q').isSome->E.ρ q'=ae (b',o')->b'≠b)/\∀i k b',Tk (ev i) (st.t i) k b'->b'≠b) (hpl:∀p',L.pl q=ae p'->p=ae p') (hR:l9 φ ⟨E.ok,λi=>if i=q then p else E.ρ i⟩ (st.aD q (ae R)).r w q R): cI φ w0 L ⟨E.ok,λi=>if i=q then p else E.ρ i⟩ (st.aD q (ae R)) ev w:=by
 have hsm:∀q',q'≠q->((st.aD q (ae R)).r q').isSome->(st.r q').isSome:=λq' hne hs=>by simpa[St.aD,hne]using hs
 exact{
  iZ:=λi=>(h.iZ i).root hq (hn i)
  roots:=λq' R' hq'=>by
   by_cases e:q'=q
   ·subst e
    simp[St.aD]at hq';subst hq'
    exact hR
   ·have hq2:st.r q'=ae R':=by simpa[St.aD,e]using hq'
    have hro:=h.roots q' R' hq2
    cases hro with
    |empty z h=>exact .empty z (by simp[e,h])
    |sl b o z xs vs hρ hz hh hv hr=>exact .sl b o z xs vs (by simp[e,hρ]) hz hh hv hr
    |box b o z x vs hρ hz hlt hl hh hv hr=>
     refine .box b o z x vs (by simp[e,hρ]) hz hlt hl (λc v a h1 h2=> ?_) hv hr
     have hy:=hc q' _ hq2 rfl x (aX.2 rfl) a (bw h2)
     cases hh c v a h1 h2 with
     |data _ h ha=>exact .data _ _ h ha
     |any h=>exact .any _ h
     |view off n hc h hv=>exact .view _ _ _ hc (h.root hq hy) hv
  inj:=λq1 q2 b o b' o' a1 a2 a3 a4 a5=>by
   by_cases e1:q1=q
   ·have e2:q2≠q:=λe=>a5 (e1.trans e.symm)
    simp[e1]at a3
    simp[e2]at a4
    exactλe=>(hp b o a3).2.1 q2 b' o' (hsm q2 e2 a2) a4 e.symm
   ·simp[e1]at a3
    by_cases e2:q2=q
    ·simp[e2]at a4
     exact(hp b' o' a4).2.1 q1 b o (hsm q1 e1 a1) a3
    ·simp[e2]at a4
     exact h.inj q1 q2 b o b' o' (hsm q1 e1 a1) (hsm q2 e2 a2) a3 a4 a5
  rz:=λq1 b o a1 a3=>by
   by_cases e1:q1=q
   ·simp[e1]at a3;exact(hp b o a3).1
   ·simp[e1]at a3;exact h.rz q1 b o (hsm q1 e1 a1) a3
  tz:=λi k b a1=>⟨(h.tz i k b a1).1,λq1 b' o a2 a3=>by
   by_cases e1:q1=q
   ·simp[e1]at a3
    exactλe=>(hp b' o a3).2.2 i k b a1 e.symm
   ·simp[e1]at a3;exact(h.tz i k b a1).2 q1 b' o (hsm q1 e1 a2) a3⟩
  td:=h.td,UP:=h.UP,grow:=h.grow,frame:=h.frame,env:=h.env,fr:=h.fr,room:=h.room
  Qr:=λi p' a1 a2=>by
   by_cases e:i=q
   ·simp[e];exact hpl p' (e▸a1)
   ·simp[e];exact h.Qr i p' a1 (hsm i e a2)
  okU:=h.okU,okL:=h.okL}
def iD.auE{ok:Nat->Prop}{v:Value}{x:A}(h:iD φ w ok v x)(q:Nat):iY q x=aw:=by cases h<;>rfl
def cI.Jl(h:cI φ w0 L E st ev w){p:Nat}{R:dF}(hp:st.r p=ae R)(hb:R.b=ar){x y:A}(hx:x∈R.xs)(hy:y∈x.cells){q:Nat}(hr:iY q y=ar): ∃(c:Nat),c<1000/\q=sub p c/\x.cells[c]? =ae y:=by cases h.roots p R hp with|empty=>cases hb|sl=>cases hb|box b o z e vs hρ hz hlt hl hh hv hrm=>rw[aX]at hx;subst hx;obtain⟨c,hc⟩:=ff.1 hy;(have hcv:c<vs.length:=by rw[hl];(rcases bH c x.cells.length with h'|h');(·exact h');·simp[bB h']at hc);cases hh c vs[c] y (by simp) hc with|data _ h ha=>rw[h.auE q]at hr;cases hr|any h=>cases hr|view off n hc' h hv=>exact⟨c,hc',by simp[iY]at hr;exact hr.symm,hc⟩
def Me{p c p' c':Nat}(h1:c<1000)(h2:c'<1000)(h:sub p c=sub p' c'):p=p'/\c=c':=by simp only[sub]at h;omega
def kU.sub{L:kU}{q c:Nat}:L.pl (Ab.sub q c)=ai:=by cases h:L.pl (Ab.sub q c)with|none=>rfl|some p=>have:=L.lt _ _ h;simp only[Ab.sub]at this;omega
def Pe(p c:Nat):1000<=sub p c:=by simp only[sub];omega
structure Wr(w0:World)(L:kU)(E:Env)(r r':Nat->Option dF)(w w':World)(b:Nat):Prop where
 same:∀b',b'≠b->w'.heap[b']? =w.heap[b']?
 size:w'.heap.size=w.heap.size
 env:w'.os=w.os/\w'.output=w.output
 fr:∀off,w'.frozen? ⟨b,off,ai⟩=w.frozen? ⟨b,off,ai⟩
 room:∀{z:Nat} n,fA z w b n->fA z w' b n
 nok:¬E.ok b
 ao2:Tv w0 L b
 sh:∀q R',r' q=ae R'->∃R,r q=ae R/\R'.b=R.b/\R'.z=R.z/\R'.xs.length=R.xs.length
section
variable {b:Nat} (W:Wr w0 L E r r' w w' b)
include W
def Wr.U6{z:Nat}{b' n:Nat}(hrm:fA z w b' n):fA z w' b' n:=by
 by_cases e:b'=b;·subst e;exact W.room n hrm
 ·exact hrm.of_block (W.same b' e)
def Wr.rep{v:Value}{x:A}(h:iD φ w E.ok v x):iD φ w' E.ok v x:=h.mono (λb' hk=>W.same b' λe=>W.nok (e▸hk)) (λ_ h=>h)
def Wr.W6{v:List Value}{x:List A}(h:cW φ w E.ok v x):cW φ w' E.ok v x:=h.mono (λb' hk=>W.same b' λe=>W.nok (e▸hk)) (λ_ h=>h)
def Wr.Az{q:Nat}(hq:(r' q).isSome):(r q).isSome:=by obtain⟨R,hR⟩:=dq.1 hq;obtain⟨R1,h1,_⟩:=W.sh q R hR;rw[h1];rfl
def Wr.abI{q:Nat}(hq:r q=ai):r' q=ai:=by cases e:r' q with|none=>rfl|some R=>have:=W.Az (q:=q) (by rw[e];rfl);rw[hq]at this;cases this
def jr.write{v:Value}{x:A}(hnt:∀k,¬Jh v x k b)(h:jr φ E r w v x):jr φ E r' w' v x:=by
 have hsome:∀q R,r q=ae R->r' q=ai\/∃R',r' q=ae R'/\R'.b=R.b/\R'.z=R.z/\R'.xs.length=R.xs.length:=λq R hq=>by cases e:r' q with|none=>exact .inl rfl|some R'=>obtain⟨R1,h1,h2⟩:=W.sh q R' e;rw[hq]at h1;cases h1;exact .inr ⟨R',rfl,h2⟩
 cases h with|any=>exact .any _|undef=>exact .undef|data _ _ h=>exact .data _ _ (W.rep h)|DI=>exact .DI _ _ _|tok b' o cap k z xs vs hc h0 hz h hv hrm=>have hb:b'≠b:=λe=>hnt k (e▸ .mk ⟨b',o,ai⟩ _ _ _ _ _ h0);exact .tok b' o cap k z xs vs hc h0 hz (W.W6 h) (hv.of_block (W.same b' hb)) (W.U6 hrm)|lA _ q off n h=>exact .lA _ _ _ _ (W.abI h)|kP ad q off R h hb hn=>(rcases hsome q R h with h1|⟨R',h1,h2,h3,h4⟩);(·exact .lA _ _ _ _ h1);·exact .kP ad q off R' h1 (h2.trans hb) (h4▸hn)|view b' o cap q off n R h hb hn hc h0 hq hrm=>(rcases hsome q R h with h1|⟨R',h1,h2,h3,h4⟩);(·exact .lA _ _ _ _ h1);·rw[<-h3]at hrm⊢;exact .view b' o cap q off n R' h1 (h2.trans hb) (h4▸hn) hc h0 hq (W.U6 hrm)|Lx _ q i c h=>exact .Lx _ _ _ _ (W.abI h)|loc b' o q i c R h hq=>(rcases hsome q R h with h1|⟨R',h1,h2,h3,h4⟩);(·exact .Lx _ _ _ _ h1);·rw[<-h3];exact .loc b' o q i c R' h1 hq
def RV.write{v:Value}{x:A}(hnt:∀k,¬Tk v x k b)(h:RV φ E r w v x):RV φ E r' w' v x:=by cases h with|one _ _ h=>exact .one _ _ (h.write W λk ht=>hnt k (.one _ _ _ _ ht))|sf vs xs h=>exact .sf vs xs ⟨h.1,λj v x hv hx=>(h.2 j v x hv hx).write W λk ht=>hnt k (.sf vs xs j k b v x hv hx ht)⟩|agg vs xs h=>exact .agg vs xs ⟨h.1,λj v x hv hx=>(h.2 j v x hv hx).write W λk ht=>hnt k (.agg vs xs j k b v x hv hx ht)⟩|fn f vs xs h hn=>refine .fn f vs xs ⟨h.1,λj v x hv hx=>(h.2 j v x hv hx).write W λk ht=> ?_⟩ hn;have:=hn x (bw hx);cases ht;cases this
def fg.write{q c:Nat}{v:Value}{x:A}(h:fg φ E r w q c v x):fg φ E r' w' q c v x:=by cases h with|data _ h ha=>exact .data _ _ (W.rep h) ha|any h=>exact .any _ h|view off n hc h hv=>exact .view _ _ _ hc (h.write W λk ht=>by cases ht) hv
end
def cI.write(h:cI φ w0 L E st ev w){b:Nat}{r':Nat->Option dF}(W:Wr w0 L E st.r r' w w' b)(htk:∀i k,¬Tk (ev i) (st.t i) k b) (hr:∀q R',r' q=ae R'->(st.r q=ae R'/\∀o,E.ρ q≠ae (b,o))\/l9 φ E r' w' q R'):cI φ w0 L E {st with r:=r'} ev w':=by
 exact{
  iZ:=λi=>(h.iZ i).write W (htk i)
  roots:=λq R' hq=>by
   rcases hr q R' hq with ⟨h1,h5⟩|h5
   ·have hbl:∀b' o,E.ρ q=ae (b',o)->b'≠b:=λb' o hρ e=>h5 o (e▸hρ)
    cases h.roots q R' h1 with
    |empty z h=>exact .empty z h
    |sl b' o z xs vs hρ hz hh hv hrm=>exact .sl b' o z xs vs hρ hz (W.W6 hh) (hv.of_block (W.same _ (hbl _ _ hρ))) (W.U6 hrm)
    |box b' o z x vs hρ hz hlt hl hh hv hrm=>exact .box b' o z x vs hρ hz hlt hl (λc v a h1 h2=>(hh c v a h1 h2).write W) (hv.of_block (W.same _ (hbl _ _ hρ))) (W.U6 hrm)
   ·exact h5
  inj:=λq q' b o b' o' a1 a2 a3 a4=>h.inj q q' b o b' o' (W.Az a1) (W.Az a2) a3 a4
  rz:=λq b o a1 a2=>by rw[W.size];exact h.rz q b o (W.Az a1) a2
  tz:=λi k b a1=>by rw[W.size];exact⟨(h.tz i k b a1).1,λq b' o a2 a3=>(h.tz i k b a1).2 q b' o (W.Az a2) a3⟩
  td:=h.td
  UP:=λb hk=>by rw[W.size];exact h.UP b hk
  grow:=by rw[W.size];exact h.grow
  frame:=λb' h1 h2=>by
   by_cases e:b'=b
   ·subst e
    rcases W.ao2 with h3|h3
    ·omega
    ·exact absurd h3 h2
   ·exact(W.same b' e).trans (h.frame b' h1 h2)
  env:=⟨W.env.1.trans h.env.1,W.env.2.trans h.env.2⟩
  fr:=λb' off hb'=>by
   by_cases e:b'=b
   ·subst e;rw[W.fr];exact h.fr b' off hb'
   ·rw[frozen?_block (W.same b' e)];exact h.fr b' off hb'
  room:=λb n hr=>W.U6 (h.room b n hr)
  Qr:=λi p a1 a2=>h.Qr i p a1 (W.Az a2)
  okU:=h.okU,okL:=h.okL}
end
end Go.Ab
namespace Go.Ab
section
variable {P:Program} {φ:Nat->Nat} {w0:World} {L:kU} {E E':Env} {st st':St} {ev ev':Nat->Value} {w w':World} {r r':Nat->Option dF}
def nZ(st:St)(q:Nat)(R:Option dF):(st.aD q ai).aD q R=st.aD q R:=by simp only[St.aD];congr 1;funext i;split<;>rfl
structure iK(w0:World)(L:kU)(E:Env)(st:St)(ev:Nat->Value)(w:World)(b:Nat):Prop where
 z:¬E.ok b/\Tv w0 L b/\b<w.heap.size
 r:∀q' b' o',(st.r q').isSome->E.ρ q'=ae (b',o')->b'≠b
 t:∀i k b',Tk (ev i) (st.t i) k b'->b'≠b
structure Step(S:Nat->Prop)(E:Env)(st:St)(E':Env)(st':St):Prop where
 ok:∀b,E.ok b->E'.ok b
 ρ:∀p,¬S p->E'.ρ p=E.ρ p
 r:∀p,¬S p->st'.r p=st.r p\/st'.r p=ai
 b:∀p R,¬S p->st.r p=ae R->R.b=ar->st'.r p=ae R
 s:∀p R,S p->st'.r p=ae R->R.b=aw\/st.r p=ae R
def Step.refl(S:Nat->Prop):Step S E st E st:=⟨λ_ h=>h,λ_ _=>rfl,λ_ _=>.inl rfl,λ_ _ _ h _=>h,λ_ _ _ h=>.inr h⟩
def Step.trans{S:Nat->Prop}{E1 E2:Env}{st1 st2:St}(h:Step S E st E1 st1)(h':Step S E1 st1 E2 st2):Step S E st E2 st2 where
 ok:=λb hb=>h'.ok b (h.ok b hb)
 ρ:=λp hp=>(h'.ρ p hp).trans (h.ρ p hp)
 r:=λp hp=>by
  rcases h'.r p hp with h1|h1
  ·rw[h1];exact h.r p hp
  ·exact .inr h1
 b:=λp R hp hR hb=>h'.b p R hp (h.b p R hp hR hb) hb
 s:=λp R hp hR=>by
  rcases h'.s p R hp hR with h1|h1
  ·exact .inl h1
  ·exact h.s p R hp h1
def Step.mono{S T:Nat->Prop}(h:Step S E st E' st')(hST:∀p,S p->T p)(hr:∀p,T p->¬S p->E'.ρ p=E.ρ p):Step T E st E' st' where
 ok:=h.ok
 ρ:=λp hp=>h.ρ p λhs=>hp (hST p hs)
 r:=λp hp=>h.r p λhs=>hp (hST p hs)
 b:=λp R hp=>h.b p R λhs=>hp (hST p hs)
 s:=λp R hp hR=>by
  by_cases hs:S p;·exact h.s p R hs hR
  ·(rcases h.r p hs with h1|h1);(·exact .inr (h1▸hR));·rw[h1]at hR;cases hR
def Step.box{S:Nat->Prop}(h:Step S E st E' st'){p:Nat}{R:dF}(hR:st'.r p=ae R)(hb:R.b=ar):st.r p=ae R:=by
 by_cases hs:S p
 ·rcases h.s p R hs hR with h1|h1
  ·rw[hb]at h1;cases h1
  ·exact h1
 ·rcases h.r p hs with h1|h1
  ·exact h1▸hR
  ·rw[h1]at hR;cases hR
def cI.ahb(h:cI φ w0 L E st ev w){v:Value}{k z:Nat}{xs:List A}(hv:jr φ E st.r w v (.tok k z xs))(ht:∀b,Jh v (.tok k z xs) k b->∃i,Tk (ev i) (st.t i) k b){q:Nat}(hpl:L.pl q=ai) (hc:∀p' R',st.r p'=ae R'->R'.b=ar->∀x∈R'.xs,∀y∈x.cells,iY q y=aw): ∃E',cI φ w0 L E' (((st.cX k).kill q).aD q (ae ⟨aw,z,xs⟩)) ev w/\Step (· =q) E st E' (((st.cX k).kill q).aD q (ae ⟨aw,z,xs⟩))/\ jr φ E' (((st.cX k).kill q).aD q (ae ⟨aw,z,xs⟩)).r w v (.view q 0 xs.length):=by
 have h1:=(((h.cX k).kill q).CD q);rw[<-nZ];have hn:∀i,refs q ((((st.cX k).kill q).aD q ai).t i)=aw:=λi=>xr q _;have hq0:((((st.cX k).kill q).aD q ai).r q)=ai:=by simp[St.aD]
 have hc':∀p' R',(((st.cX k).kill q).aD q ai).r p'=ae R'->R'.b=ar->∀x∈R'.xs,∀y∈x.cells,iY q y=aw:=λp' R' hp hb=>by simp only[St.aD]at hp;split at hp;(·cases hp);·exact hc p' R' hp hb
 have step:∀p,Step (· =q) E st ⟨E.ok,λi=>if i=q then p else E.ρ i⟩ ((((st.cX k).kill q).aD q ai).aD q (ae ⟨aw,z,xs⟩)):=λp=>by refine⟨λ_ h=>h,λp' hp=>aO hp,λp' hp=>.inl ?_,λp' R hp hR _=> ?_,λp' R hp hR=>.inl ?_⟩;(·simp[St.aD,St.kill,St.cX,St.map,hp]);(·simpa[St.aD,St.kill,St.cX,St.map,hp]using hR);·simp[St.aD,hp]at hR;rw[<-hR]
 cases hv with|data _ _ hh=>cases hh|DI ad=>refine⟨_,h1.root (p:=ai) (R:=⟨aw,z,[]⟩) hq0 hn hc' (λb o e=>by cases e) (λp' e=>by rw[hpl]at e;cases e) (.empty z (by simp)),step ai,?_⟩;exact .kP ad q 0 ⟨aw,z,[]⟩ (by simp[St.aD]) rfl (iW _)|tok b o cap k z xs vs hcc h0 hz hh hv' hrm=>obtain⟨i,hi⟩:=ht b (.mk ⟨b,o,ai⟩ _ _ _ _ _ h0);have hf:=h.tz i k b hi;refine⟨_,h1.root (p:=ae (b,o)) (R:=⟨aw,z,xs⟩) hq0 hn hc' (λb' o' e=> ?_) (λp' e=>by rw[hpl]at e;cases e) (.sl b o z xs vs (by simp) hz hh hv' (hrm.le ?_)),step _,?_⟩;(·cases e;refine⟨hf.1,λq' b' o' a1 a2=>hf.2 q' b' o' ?_ a2,λi' k' b' a1=> ?_⟩;(·simp only[St.aD]at a1;split at a1;(·cases a1);·exact a1);·have h2:=(Tk.cJ (wh q) a1).1;have h3:=Tk.cJ (Eb k) h2;exact(h.td i' i k' k b' b h3.1 hi h3.2));(·have:=cu z hcc;omega);·have:=jr.view (φ:=φ) (E:=⟨E.ok,λi=>if i=q then ae (b,o)else E.ρ i⟩) (r:=((((st.cX k).kill q).aD q ai).aD q (ae ⟨aw,z,xs⟩)).r) (w:=w) b o cap q 0 xs.length ⟨aw,z,xs⟩ (by simp[St.aD]) rfl (by simp) hcc h0 (by simp) (by simpa using hrm);simpa using this
def arN{q off n:Nat}{R:dF}{K:Nat->Prop}(hro:l9 φ E r w q R)(hR:r q=ae R){v:Value}(hv:jr φ E r w v (.view q off n))(hok:∀b,E.ok b->K b)(hK:∀b o,E.ρ q=ae (b,o)->K b): iD φ w K v (.sl R.z ((R.xs.drop off).take n)):=by
 cases hv with
 |data _ _ h=>cases h
 |lA _ _ _ _ h1=>rw[h1]at hR;cases hR
 |kP ad q off R' h1 hb hn=>
  rw[xf];exact .No _ _ _
 |view b o cap q off n R' h1 hb hn hcc h0 hρ hm'=>
  rw[h1]at hR;cases hR;have hlen:((R.xs.drop off).take n).length=n:=by simp;omega
  cases hro with
  |empty z h=>
   simp at hn;obtain⟨rfl,rfl⟩:=hn;exact .No _ _ _
  |sl b' o' z xs vs hρ' hz hh hv' hr'=>
   rw[hρ]at hρ';cases hρ'
   have:=iD.sl (φ:=φ) (w:=w) (ok:=K) b (o+off*z) cap z ((xs.drop off).take n) ((vs.drop (off*z)).take (n*z)) (hK b o hρ)
    (λy hy=>hz y (cA (fo hy))) (by rw[hlen];omega) (by
      rw[tP (λx hx=>hz x (cA hx)),nh hz]
      exact((hh.mono (λ_ _=>rfl) hok).drop _).take _) ((hv'.drop _).take _)
   rw[hlen]at this;exact this
  |box=>cases hb
def cI.pz(h:cI φ w0 L E st ev w){i j:Nat}{st1:St}(hp:st.pz i j=ae st1):∃E',cI φ w0 L E' st1 ev w/\E'.ρ=E.ρ/\Step (λ_=>False) E st E' st1:=by
 unfold St.pz at hp;split at hp
 ·rename_i k z xs hcm;simp only[aq]at hp;subst hp;refine⟨_,h.giveUp (N:=λ_=>False) (T:=(· =k)) (ok':=λb=>E.ok b\/∃i,Tk (ev i) (st.t i) k b) (ev':=ev) (st':=st.map (FR k)) (λb hb=>.inl hb) (λb hb=> ?_) (λq R hq=>⟨hq,id⟩) (λi=>(h.iZ i).aaS (aim k).nt λu y hty hy=> ?_) (λi k' b ht=> ?_),rfl,⟨λb hb=>.inl hb,λ_ _=>rfl,λ_ _=>.inl rfl,λ_ _ _ h _=>h,λ_ _ h=>h.elim⟩⟩;·(rcases hb with h1|⟨i,h1⟩);(·exact .inl h1);·exact .inr (.inr ⟨i,k,rfl,h1⟩)
  ·have hw:∀{x},jr φ E st.r w u x->jr φ ⟨λb=>E.ok b\/∃i,Tk (ev i) (st.t i) k b,E.ρ⟩ st.r w u x:=λhx=>jr.k9 (E':=⟨λb=>E.ok b\/∃i,Tk (ev i) (st.t i) k b,E.ρ⟩) (λb hb=>Or.inl hb) (λq R hq=>⟨hq,rfl⟩) hx;unfold zl;split;(·rename_i j z xs;split;(·rename_i hjk;subst hjk;cases hy with|data _ _ hh=>cases hh|DI=>exact .data _ _ (.No _ _ _)|tok b o cap j z xs vs hcc h0 hz hh hv' hrm=>exact .data _ _ (.sl b o cap z xs vs (.inr ⟨i,hty _ _ (.mk ⟨b,o,ai⟩ _ _ _ _ _ h0)⟩) hz hcc (hh.mono (λ_ _=>rfl) (λb hb=>.inl hb)) hv'));·exact hw hy);·exact hw hy
  ·have:=Tk.cJ (aim k) ht;exact⟨this.2,i,this.1⟩
 ·rename_i q off n hcm;obtain⟨R,hR,hp⟩:=ak.1 hp;split at hp;·cases hp
  ·rename_i hb;simp only[aq]at hp;subst hp;(have hr:∀p R',((st.map (zk q R)).aD q ai).r p=ae R'->st.r p=ae R'/\¬p=q:=λp R' hp=>by simp only[St.aD]at hp;split at hp;(·cases hp);·exact⟨hp,by assumption⟩);refine⟨_,h.giveUp (N:=(· =q)) (T:=λ_=>False) (ok':=λb=>E.ok b\/∃o,E.ρ q=ae (b,o)) (ev':=ev) (st':=(st.map (zk q R)).aD q ai) (λb hb=>.inl hb) (λb hb=> ?_) hr (λi=>(h.iZ i).aaS (ae6 q R).nt λu y hty hy=> ?_) (λi k' b ht=>⟨id,i,(Tk.cJ (ae6 q R) ht).1⟩),rfl,⟨λb hb=>.inl hb,λ_ _=>rfl,λp _=> ?_,λp R' _ hR' hb'=> ?_,λ_ _ h=>h.elim⟩⟩;(·(rcases hb with h1|⟨o,h1⟩);(·exact .inl h1);·exact .inr (.inl ⟨q,o,rfl,by rw[hR];rfl,h1⟩));(·have hw:∀{x},jr φ E st.r w u x->jr φ ⟨λb=>E.ok b\/∃o,E.ρ q=ae (b,o),E.ρ⟩ ((st.map (zk q R)).aD q ai).r w u x:=λhx=>jr.k9 (E':=⟨λb=>E.ok b\/∃o,E.ρ q=ae (b,o),E.ρ⟩) (λb hb=>Or.inl hb) (λp R' hp=>⟨(hr p R' hp).1,rfl⟩) hx;unfold uN;split;(·rename_i q' off' n';split;(·rename_i hqq;subst hqq;exact .data _ _ (arN (h.roots q' R hR) hR hy (λb hb=>.inl hb) (λb o hρ=>.inr ⟨o,hρ⟩)));·exact hw hy);(·split;(·exact .any _);·exact hw hy);·exact hw hy);(·simp only[St.aD,St.map];split;(·exact .inr rfl);·exact .inl rfl);·simp only[St.aD,St.map];rw[aO];(·exact hR');·intro e;subst e;rw[hR]at hR';cases hR';exact hb hb'
 ·simp only[aq]at hp;subst hp;exact⟨E,h,rfl,.refl _⟩
def cI.oh(h:cI φ w0 L E st ev w){i:Nat}:∀{n:Nat} {st1:St},st.oh i n=ae st1->∃E',cI φ w0 L E' st1 ev w/\E'.ρ=E.ρ/\Step (λ_=>False) E st E' st1
 |0,st1,hp=>by simp[St.oh]at hp;subst hp;exact⟨E,h,rfl,.refl _⟩
 |n+1,st1,hp=>by
  simp only[St.oh]at hp
  obtain⟨s,hs,hp⟩:=ak.1 hp
  obtain⟨E1,h1,hρ1,hs1⟩:=h.oh hs
  obtain⟨E2,h2,hρ2,hs2⟩:=h1.pz hp
  exact⟨E2,h2,hρ2.trans hρ1,hs1.trans hs2⟩
def evG(ev:Nat->Value)(i:Nat)(v:Value):Nat->Value:=λj=>if j=i then v else ev j
def cI.avQ(h:cI φ w0 L E st ev w){v:Value}{x:A}(hv:RV φ E st.r w v x)(hc:∀k b,Tk v x k b->∃i,Tk (ev i) (st.t i) k b)(i:Nat):cI φ w0 L E (st.aV i x) (evG ev i v) w:=
 h.k9 (λ_ _ h=>h) (λj=>by
  simp only[St.aV,evG]
  split
  ·exact hv
  ·exact h.iZ j) (λj k b ht=>by
  simp only[St.aV,evG]at ht
  split at ht
  ·exact hc k b ht
  ·exact⟨j,ht⟩)
def yH{v:Value}(k b:Nat):¬Tk v .any k b:=by intro h;cases h with|one _ _ _ _ h=>cases h
def cI.amq{v:Value}{i:Nat}(h:cI φ w0 L E st (evG ev i v) w):cI φ w0 L E (st.aV i .any) ev w:=
 h.k9 (λ_ _ h=>h) (λj=>by
  simp only[St.aV]
  split
  ·exact .one _ _ (.any _)
  ·rename_i hj
   have:=h.iZ j
   simpa[evG,hj]using this) (λj k b ht=>by
  simp only[St.aV]at ht
  split at ht
  ·exact(yH _ _ ht).elim
  ·rename_i hj
   exact⟨j,by simpa[evG,hj]using ht⟩)
def Step.ayy{S:Nat->Prop}{st1:St}(h:Step S E st E' st')(h1:st1.r=st.r){st2:St}(h2:st2.r=st'.r):Step S E st1 E' st2 where
 ok:=h.ok
 ρ:=h.ρ
 r:=by rw[h1,h2];exact h.r
 b:=by rw[h1,h2];exact h.b
 s:=by rw[h1,h2];exact h.s
def Sy{x:A}(h:Ab.cr x=ar):Ab.cr (qz x)=ar:=by cases x<;>first|exact h|rfl
def anN{x y:A}(h:dat x=ae y):y.cells.all Ab.cr=ar:=by
 unfold dat at h;split at h;·rename_i hp;simp only[aq]at h;subst h;cases x with|agg cs=>simp only[Ab.pure]at hp;simp only[afl,A.cells,uW];rw[aG]at hp⊢;intro y hy;exact Sy (hp y hy)|_=>simp only[Ab.pure]at hp;simp only[afl];rw[A.DO (λl e=>by have:=Sy hp;rw[e]at this;simp[Ab.cr]at this)];simpa using Sy hp
 ·cases h
def cI.QE(h:cI φ w0 L E st ev w){v:Value}{x y:A}(hv:RV φ E st.r w v x)(hc:∀k b,Tk v x k b->∃i,Tk (ev i) (st.t i) k b){st1:St}(hp:st.QE x=ae (y,st1)): ∃E',cI φ w0 L E' st1 ev w/\E'.ρ=E.ρ/\Step (λ_=>False) E st E' st1/\iD φ w E'.ok v y/\y.cells.all Ab.cr=ar:=by unfold St.QE at hp;obtain⟨s,hs,hp⟩:=ak.1 hp;obtain⟨y',hy,hp⟩:=au.1 hp;cases hp;obtain⟨E1,h1,hρ1,hs1⟩:=(h.avQ hv hc gs).oh hs;have h2:=h1.iZ gs;simp only[evG,aC]at h2;exact⟨E1,h1.amq,hρ1,Step.ayy (st1:=st) (st2:=s.aV gs .any) hs1 rfl rfl,amo h2 hy,anN hy⟩
def jr.axp{v:Value}{x:A}(h:jr φ E r w v x)(hs:gj r x=ar)(hx:∀cs,x≠ .agg cs):(∀cs,v≠ .agg cs)/\(∀vs,v≠ .tuple vs):=by cases h with|any=>simp[Ab.gj,Ab.cr]at hs|undef=>simp[Ab.gj,Ab.cr]at hs|data _ _ h=>exact h.LG hx|lA _ _ _ _ h1=>simp[gj,h1]at hs|Lx _ _ _ _ h1=>simp[gj,h1]at hs|_=>exact⟨(λ_ h=>by cases h),(λ_ h=>by cases h)⟩
def ago{v:Value}{x a:A}{j:Nat}(h:RV φ E r w v x)(ha:comp x j=a)(hs:gj r a=ar): ∃u,v.cells[j]? =ae u/\jr φ E r w u a/\((∀cs,u≠ .agg cs)/\(∀vs,u≠ .tuple vs))/\∀k b,Jh u a k b->Tk v x k b:=by
 have hna:∀cs,a≠ .agg cs:=λcs e=>by subst e;simp[gj,cr]at hs
 have hj:x.cells[j]? =ae a:=by unfold comp at ha;cases hj:x.cells[j]? with|none=>rw[hj]at ha;simp at ha;subst ha;simp[gj,cr]at hs|some y=>rw[hj]at ha;simp at ha;rw[ha]
 by_cases hx:∃cs,x=.agg cs;·obtain⟨cs,rfl⟩:=hx;obtain⟨vs,rfl,h1⟩:=h.xK;simp only[A.cells]at hj;obtain⟨u,hu,h2⟩:=h1.get hj;exact⟨u,by simpa[adw]using hu,h2,h2.axp hs hna,λk b ht=>.agg vs cs j k b u a hu hj ht⟩
 ·have hx':∀cs,x≠ .agg cs:=λcs e=>hx ⟨cs,e⟩;rw[A.DO hx']at hj;cases j with|succ j=>simp at hj|zero=>simp at hj;subst hj;have h1:jr φ E r w v x/\v.cells= #[v]:=Xb (st:=⟨λ_=>.any,r⟩) h hs hx';exact⟨v,by rw[h1.2];rfl,h1.1,h1.1.axp hs hx',λk b ht=>.one _ _ _ _ ht⟩
def ajb{x:A}(h:Ab.cr x=ar):gj r x=ar:=by cases x<;>first|exact h|(simp[Ab.cr]at h;done)|simp[gj,h]
def Fe{x:A}(h:Ab.cr x=ar)(cs:List A):x≠ .agg cs:=by rintro rfl;simp[Ab.cr]at h
def ak0{x:A}(h:∀cs,x≠ .agg cs)(cs:List A):qz x≠ .agg cs:=by cases x<;>simp only[qz]<;>first|exact h _|(intro e;cases e)
def cI.kx(h:cI φ w0 L E st ev w){q c j:Nat}{y:A}{st1:St}(ha:st.kx q c j=ae (y,st1)) (hc:∀p' R',st.r p'=ae R'->R'.b=ar->∀x∈R'.xs,∀y∈x.cells,iY (sub q (c+j)) y=aw): ∃E' u,cI φ w0 L E' st1 ev w/\Step (· =sub q (c+j)) E st E' st1/\(ev gs).cells[j]? =ae u/\fg φ E' st1.r w q (c+j) u y:=by
 have hslot:=h.iZ gs;have pure:∀{E1:Env} {s1:St} {x:A},cI φ w0 L E1 s1 ev w->comp (s1.t gs) j=x->Ab.cr x=ar->∃u,(ev gs).cells[j]? =ae u/\fg φ E1 s1.r w q (c+j) u (qz x)/\fg φ E1 s1.r w q (c+j) u x:=by intro E1 s1 x h1 hcm hp;obtain⟨u,hu,h2,h3,_⟩:=ago (h1.iZ gs) hcm (ajb hp);exact⟨u,hu,.data _ _ (h2.cr hp).norm (ak0 (Fe hp)),.data _ _ (h2.cr hp) (Fe hp)⟩
 unfold St.kx at ha;split at ha
 ·rename_i k z xs hcm;split at ha;·rename_i hlt;simp only[aq,be]at ha;obtain⟨rfl,rfl⟩:=ha;obtain⟨u,hu,h2,h3,h4⟩:=ago hslot hcm (by rfl);obtain⟨E1,h5,h6,h7⟩:=h.ahb h2 (λb ht=>⟨gs,h4 k b ht⟩) kU.sub hc;exact⟨E1,u,h5,h6,hu,.view _ _ _ hlt h7 h3⟩
  ·cases ha
 ·rename_i s off n hcm;split at ha;·rename_i hcond;obtain⟨rfl,hlt,hsm⟩:=hcond;simp only[aq,be]at ha;obtain⟨rfl,rfl⟩:=ha;obtain⟨u,hu,h2,h3,h4⟩:=ago hslot hcm hsm;exact⟨E,u,h,.refl _,hu,.view _ _ _ hlt h2 h3⟩
  ·obtain⟨s1,hs1,ha⟩:=ak.1 ha;split at ha;(·rename_i hp;simp only[aq,be]at ha;obtain⟨rfl,rfl⟩:=ha;obtain⟨E1,h1,hρ,hst⟩:=h.pz hs1;obtain⟨u,hu,h2,_⟩:=pure h1 rfl hp;exact⟨E1,u,h1,hst.mono (λ_ h=>h.elim) (λp _ _=>by rw[hρ]),hu,h2⟩);·cases ha
 ·rename_i z hcm;simp only[aq,be]at ha;obtain⟨rfl,rfl⟩:=ha;obtain⟨u,hu,_,h2⟩:=pure h hcm rfl;exact⟨E,u,h,.refl _,hu,h2⟩
 ·split at ha;·rename_i hp;simp only[aq,be]at ha;obtain⟨rfl,rfl⟩:=ha;obtain⟨u,hu,h2,_⟩:=pure h rfl hp;exact⟨E,u,h,.refl _,hu,h2⟩
  ·cases ha
def jr.VA{q off n:Nat}(hr:∀R,r' q=ae R->r q=ae R/\E'.ρ q=E.ρ q){v:Value}(h:jr φ E r w v (.view q off n)):jr φ E' r' w v (.view q off n):=by
 have hnone:r q=ai->r' q=ai:=λhq=>by cases e:r' q with|none=>rfl|some R=>have:=(hr R e).1;rw[hq]at this;cases this
 have hsome:∀R,r q=ae R->r' q=ai\/(r' q=ae R/\E'.ρ q=E.ρ q):=λR hq=>by cases e:r' q with|none=>exact .inl rfl|some R'=>have:=hr R' e;rw[hq]at this;obtain⟨h1,h2⟩:=this;cases h1;exact .inr ⟨rfl,h2⟩
 cases h with|data _ _ h=>cases h|lA _ q off n h=>exact .lA _ _ _ _ (hnone h)|kP ad q off R h hb hn=>(rcases hsome R h with h1|⟨h1,h2⟩);(·exact .lA _ _ _ _ h1);·exact .kP ad q off R h1 hb hn|view b o cap q off n R h hb hn hc h0 hq hr=>(rcases hsome R h with h1|⟨h1,h2⟩);(·exact .lA _ _ _ _ h1);·exact .view b o cap q off n R h1 hb hn hc h0 (h2.trans hq) hr
def fg.step{S:Nat->Prop}(hs:Step S E st E' st'){q c:Nat}(hn:¬S (sub q c)){v:Value}{x:A}(h:fg φ E st.r w q c v x):fg φ E' st'.r w q c v x:=by cases h with|data _ h ha=>exact .data _ _ (h.mono (λ_ _=>rfl) hs.ok) ha|any h=>exact .any _ h|view off n hc h hv=>refine .view _ _ _ hc (h.VA λR hR=> ?_) hv;(rcases hs.r _ hn with h1|h1);(·exact⟨h1▸hR,hs.ρ _ hn⟩);·rw[h1]at hR;cases hR
def cI.fh{q c:Nat}:∀{n j:Nat} {E:Env} {st:St} {ys:List A} {st1:St},cI φ w0 L E st ev w->st.fh q c j n=ae (ys,st1)->c+j+n<=1000->
 (∀c',c+j<=c'->c'<c+j+n->∀p' R',st.r p'=ae R'->R'.b=ar->∀x∈R'.xs,∀y∈x.cells,iY (sub q c') y=aw)->
 ∃E',cI φ w0 L E' st1 ev w/\Step (λp=>∃c',c+j<=c'/\c'<c+j+n/\p=sub q c') E st E' st1/\ys.length=n/\
  ∀i y,ys[i]? =ae y->∃u,(ev gs).cells[j+i]? =ae u/\fg φ E' st1.r w q (c+j+i) u y
 |0,j,E,st,ys,st1,h,ha,_,_=>by
  simp[St.fh]at ha
  obtain⟨rfl,rfl⟩:=ha
  exact⟨E,h,.refl _,rfl,λi y hy=>by simp at hy⟩
 |n+1,j,E,st,ys,st1,h,ha,hlt,hc=>by
  simp only[St.fh]at ha
  obtain⟨⟨x,s⟩,hs,ha⟩:=ak.1 ha
  obtain⟨⟨xs,s2⟩,hxs,ha⟩:=au.1 ha
  simp only[be]at ha
  obtain⟨rfl,rfl⟩:=ha
  obtain⟨E1,u,h1,hst,hu,hcell⟩:=h.kx hs (hc (c+j) (bm _) (by omega))
  obtain⟨E2,h2,hst2,hl,hall⟩:=h1.fh hxs (by omega) (λc' a1 a2 p' R' hp hb=>hc c' (by omega) (by omega) p' R' (hst.box hp hb) hb)
  have hinj:∀c',c+(j+1)<=c'->c'<c+(j+1)+n->sub q (c+j)≠sub q c':=λc' a1 a2 e=>by simp only[sub]at e;omega
  have m1:Step (λp=>∃c',c+j<=c'/\c'<c+j+(n+1)/\p=sub q c') E st E1 s:=by refine⟨hst.ok,λp hp=>hst.ρ p λe=>hp ⟨c+j,by omega,by omega,e⟩,λp hp=>hst.r p λe=>hp ⟨c+j,by omega,by omega,e⟩,λp R hp=>hst.b p R λe=>hp ⟨c+j,by omega,by omega,e⟩,λp R _ hR=> ?_⟩;by_cases e:p=sub q (c+j);(·exact hst.s p R e hR);·(rcases hst.r p e with h3|h3);(·exact .inr (h3▸hR));·rw[h3]at hR;cases hR
  have m2:Step (λp=>∃c',c+j<=c'/\c'<c+j+(n+1)/\p=sub q c') E1 s E2 s2:=by refine⟨hst2.ok,λp hp=>hst2.ρ p ?_,λp hp=>hst2.r p ?_,λp R hp=>hst2.b p R ?_,λp R _ hR=> ?_⟩;(·rintro⟨c',a1,a2,e⟩;exact hp ⟨c',by omega,by omega,e⟩);(·rintro⟨c',a1,a2,e⟩;exact hp ⟨c',by omega,by omega,e⟩);(·rintro⟨c',a1,a2,e⟩;exact hp ⟨c',by omega,by omega,e⟩);·by_cases e:∃c',c+(j+1)<=c'/\c'<c+(j+1)+n/\p=sub q c';(·exact hst2.s p R e hR);·(rcases hst2.r p e with h3|h3);(·exact .inr (h3▸hR));·rw[h3]at hR;cases hR
  refine⟨E2,h2,m1.trans m2,by simp[hl],λi y hy=> ?_⟩
  cases i with
  |zero=>
   simp at hy;subst hy
   exact⟨u,hu,hcell.step hst2 (λ⟨c',a1,a2,e⟩=>hinj c' a1 a2 e)⟩
  |succ i=>
   obtain⟨u',hu',hcell'⟩:=hall i y (by simpa using hy)
   exact⟨u',by rw[show j+(i+1)=j+1+i from by omega];exact hu',by rw[show c+j+(i+1)=c+(j+1)+i from by omega];exact hcell'⟩
end
end Go.Ab
