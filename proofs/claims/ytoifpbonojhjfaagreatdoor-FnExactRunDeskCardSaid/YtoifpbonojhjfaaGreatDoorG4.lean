/- A line of the console, out of walks and contracts. Conditions: none. -/
import Derived.Test.YtoifpbonojhjfaaGreatDoorG3
import Derived.Maps.OwnSet
import Derived.Maps.OwnOps
import Derived.Maps.Views
import Derived.StringKeys
import Derived.WalkKit
import Derived.Shelf.Spec.SlicesInsert
import Derived.Laws.IdiomCopy
import Derived.Laws.Externs
import Derived.Lib.Overlaps
import Derived.Lib.AppendZerosOnto
import Derived.Shelf.RegionOpenPlain
import Derived.Lib.CountLaws
set_option linter.unusedVariables false
set_option linter.unusedSimpArgs false
set_option linter.defProp false
open Array renaming ext'->aa7,getElem?_eq_getElem->AL,getElem?_eq_none->qd,getElem?_modify->Zm,getElem?_push_lt->FC,getElem?_push_size->DC,getElem?_toList->rL,length_toList->ai4,size_append->Tu
open Bool renaming and_eq_true->az,false->aA,true->aB
open Decidable renaming decide->ao
open Go renaming Act->alk,Addr->afQ,Calls->fF,DataW->FI,MemPlace->Ik,Oper->Zp,Operand->ej,Program->bV,TypeId->bO,TypeInfo->WJ,Value->aL,World->aU,execOp->gS,grownCap->rP,growslice_fits->aJ5,run_firstCells_some->Ak,run_underlying->jN,sizeOf->aIW,size_zeroCells->aDd,wpList->aw1
open Go.Builtin renaming append_->fH,clear_->aCZ,copy_->oe,firstCells->uo,nextslicecap->atZ,zeroCells->cG
open Go.Extern.SlicesOverlaps renaming overlaps->yU
open Go.Instr renaming lookup->Ou
open Go.Lib renaming count->WI,index->arP,splitK->Aw
open Go.Oper renaming wp->Jf
open Go.Result renaming andThen_ok->cZ
open Go.RowKit.Below renaming heap_setCell->aJ3,refl->DJ
open Go.Sem renaming run_bind->eP,run_pure->mg
open Go.Src renaming ofSlice->aGM
open Go.Value renaming bool->apd,int->fq,slice->U7,string->AT
open Go.World renaming alloc->abb,cell? ->b9,cell?_setCell_other->aqg,cell?_setCell_same'->aqh,cell?_setCells_in->awG,cell?_setCells_out->TC,frozen? ->yT,setCell->TD,shape? ->aJ4
open Int renaming le_trans->xA,toNat->aGP,toNat_natCast->aH,toNat_of_nonneg->ai7
open List renaming all_eq_true->bz,all_map->JX,append_assoc->df,append_nil->cD,drop->pC,drop_append->On,drop_eq_getElem_cons->ba,drop_eq_nil_of_le->br,drop_length->ac4,drop_zero->cL,flatMap_append->RH,flatMap_cons->cr,getElem?_append_left->dM,getElem?_append_right->fR,getElem?_drop->FD,getElem?_eq_getElem->aE,getElem?_eq_none->bU,getElem?_eq_some_iff->mC,getElem?_map->cC,getElem?_replicate->aDe,getElem?_set->ail,getElem?_take->sq,length->ae,length_append->bg,length_cons->bl,length_drop->dR,length_map->bf,length_nil->bQ,length_replicate->LQ,length_set->Ow,length_singleton->cT,length_take->cO,map->ky,map_append->dP,map_cons->aY,map_drop->nz,map_nil->gJ,map_set->aqj,map_take->pO,mem_append_left->dZ,mem_append_right->bN,mem_cons->bP,mem_cons_of_mem->bm,mem_cons_self->cI,mem_flatMap->wT,mem_iff_getElem? ->fO,mem_map->dF,mem_of_getElem? ->cq,mem_of_mem_drop->dk,mem_singleton->aT,nil_append->cJ,nodup_append->dX,nodup_cons->Gu,nodup_nil->ib,range'->ac5,range'_succ->apj,replicate->bK,set_append_right->aCF,set_cons_zero->aGT,size_toArray->aqk,take->pR,take_add_one->WL,take_append_of_le_length->nE,take_length->bc,take_of_length_le->cH,take_zero->LS
open List.cons renaming injEq->dU
open Nat renaming add_mul->V3,le_refl->bx,le_trans->dQ,lt_irrefl->xB,lt_of_lt_of_le->bX,lt_or_ge->bL,min_def->ao1,mul_le_mul->afU,mul_le_mul_right->dh,mul_one->atN,not_lt_zero->yV,sub_mul->Az,sub_self->Qu,succ_mul->eK,zero_add->dL
open Option renaming bind->af,isSome_iff_exists->iM,map_eq_some_iff->aM,map_some->aS,none->au,some->ai
open Option.some renaming inj->cA
open Prod renaming fst->ay4
open Prod.mk renaming injEq->bS
open _root_ renaming Array->kZ,Bool->aW,False->JW,Int->aw,List->ah,Nat->ax,Option->aq,UInt8->ay,absurd->bG,congrArg->wE,not_or->agG
namespace Go.Ab
open Go.RowKit Go.Maps
structure Lo(B:ax)(w w':aU):Prop where
 size:w.heap.size<=w'.heap.size
 block:∀b,b<B->w'.heap[b]? =w.heap[b]?
 os:w'.os=w.os
 output:w'.output=w.output
def Lo.refl(B:ax)(w:aU):Lo B w w:=⟨bx _,λ_ _=>rfl,rfl,rfl⟩
def Lo.mono{B B':ax}{w w':aU}(h:Lo B w w')(hB:B'<=B):Lo B' w w':=⟨h.size,λb hb=>h.block b (bX hb hB),h.os,h.output⟩
def Lo.trans{B:ax}{w w1 w2:aU}(h:Lo B w w1)(h':Lo B w1 w2):Lo B w w2:=⟨dQ h.size h'.size,λb hb=>(h'.block b hb).trans (h.block b hb),h'.os.trans h.os,h'.output.trans h.output⟩
def Lo.A8{B:ax}{w w':aU}(h:Below B w w'):Lo B w w':=⟨h.size,h.block,h.os,h.output⟩
def Lo.alloc{B:ax}{w w1:aU}(h:Lo B w w1)(hB:B<=w1.heap.size)(o:Obj):Lo B w (w1.alloc o):=h.trans (.A8 ((DJ B w1).alloc hB o))
def Lo.grown{B:ax}{w w1 w2:aU}{row:aq ax}(h:Lo B w w1)(hg:w1.grownBy w2 row)(hB:B<=w1.heap.size)(hr:∀j,row=ai j->B<=j):Lo B w w2:=h.trans (.A8 ((DJ B w1).grown hg hB hr))
def Lo.cell{B:ax}{w w':aU}(h:Lo B w w'){b j:ax}(hb:b<B):w'.cell? ⟨b,j,au⟩=w.cell? ⟨b,j,au⟩:=by simp only[b9,h.block b hb]
section
variable {P:bV} {φ:ax->ax}
def LW{w:aU}{K:ax->Prop}:∀{vs:ah aL} {ab:ah A},dp φ w K vs ab->gy φ w K vs ab [] |_,_,.nil=>.nil |_,_,.cons v a vs ab h t=>.cons _ _ [] _ _ [] (.data _ _ h) (LW t)
def dx.anf{g:ax}{ab res:ah A}(hn:ab.any Ga=aA) (h:∀(w:aU) (K:ax->Prop) (vs:ah aL),dp φ w K vs ab->(∀b,K b->b<w.heap.size)->Dv P K w-> fF P (φ g) vs.toArray w λe w'=>∃qQ,e=.returned (IQ qQ)/\Lo w.heap.size w w'/\dp φ w (λ_=>JW) qQ res):dx P φ g ab res []:=by intro w K vs bs ha Jg hKb hKz hG;obtain⟨hr,rfl⟩:=ha.am6 hn;refine(h w K vs hr hKz hG).mono λe w' hh=> ?_;obtain⟨qQ,rfl,hb,h3⟩:=hh;refine⟨_,rfl,hb.size,λb hb' _=>hb.block b hb',⟨hb.os,hb.output⟩,λb off hb'=>kC (hb.block b hb') off,λb n hr=>hr.of_block (hb.block b hr.lt),?_⟩;exact⟨qQ,K,[],[],rfl,λ_ h=>h,λ_ h=>.inl h,gz.ml (h3.mono (λ_ h=>h.elim) (λ_ h=>h.elim)),jF.RT ha.len hn,by simp,λb hb'=>by simp at hb'⟩
def dx.bool{g:ax}{ab:ah A}{b:aW}(hc:dx P φ g ab [.bool b] []){w:aU}{K:ax->Prop}{vs:ah aL}(hr:dp φ w K vs ab)(hK:∀b,K b->b<w.heap.size)(hG:Dv P K w): fF P (φ g) vs.toArray w λe w'=>e=.returned (.bool b)/\Lo w.heap.size w w':=by refine(hc w K vs [] (LW hr) ib (λ_ h=>by cases h) hK hG).mono λe w' ⟨v,he,hb⟩=> ?_;subst he;obtain⟨qQ,K',rb,ob,hv,_,_,R8,_⟩:=hb.rest;refine⟨?_,hb.grow,λb hb'=>hb.frame b hb' (by simp),hb.env.1,hb.env.2⟩;cases R8 with|cons v0 _ _ vs0 _ _ h1 h2=>cases h2;cases h1 with|data _ h3=>cases h3;rw[hv];rfl
def axf{D:ah (ax×Callee)}{H:ah (ax×ET)}{fn:Fn}{E R:ET}{g:ax}(h:oQ P φ g (ik D H fn [.d E] [.d R] [])){x:E.ty}{y:R.ty}(hf:(ik D H fn [.d E] [.d R] []).f (x,())=ai y): dx P φ g [E.enc x] [R.enc y] []:=by
 have e:(ik D H fn [.d E] [.d R] []).cf [E.enc x]=ai ([R.enc y],[]):=by rw[Callee.aun (c:=ik D H fn [.d E] [.d R] []) (ab:=[E.enc x]) (x:=(x,())) rfl (by show Dj [MT.d E] [E.enc x]=[(E.v x).a];rw[LY rfl,ET.v_a]),hf];show ai ([(R.v y).a],[])=_;rw[ET.v_a]
 exact h.2 _ _ _ e
end
end Go.Ab
namespace Go.Ab
structure Rg(X:ax->Prop)(w w':aU):Prop where
 size:w.heap.size<=w'.heap.size
 block:∀c,c<w.heap.size->¬X c->w'.heap[c]? =w.heap[c]?
 os:w'.os=w.os
 output:w'.output=w.output
def Zr(φ:ax->ax)(z:ax)(xs:ah A)(v:aL)(lo hi:ax)(w:aU):Prop:=hi<=w.heap.size/\xs.all A.plain=aB/\∃b,eL φ w (λ_=>JW) v z xs b/\∀c,b=ai c->lo<=c/\c<hi
section
variable {P:bV} {φ:ax->ax}
def eL.any{z:ax}{xs:ah A}{v:aL}{b:aq ax}{K K2:ax->Prop}{w:aU}(h:eL φ w K v z xs b)(hp:xs.all A.plain=aB):eL φ w K2 v z xs b:=by cases h with|empty ad z=>exact .empty ad z|mk b o cap z xs vs hc h0 Qz hr hv gM=>exact .mk b o cap z xs vs hc h0 Qz (hr.plain (Io hp)) hv gM
def eL.val{z:ax}{xs:ah A}{v:aL}{b:aq ax}{K:ax->Prop}{w:aU}(h:eL φ w K v z xs b):(b=au/\∃ad,v=.slice ad 0 0)\/∃c o n cap,b=ai c/\v=.slice (ai ⟨c,o,au⟩) n cap/\cap≠0:=by cases h with|empty ad z=>exact .inl ⟨rfl,ad,rfl⟩|mk b o cap z xs vs hc h0 Qz hr hv gM=>exact .inr ⟨b,o,_,cap,rfl,rfl,h0⟩
def Zr.fI{z:ax}{xs:ah A}{v:aL}{lo hi:ax}{w w':aU}(h:Zr φ z xs v lo hi w)(hs:∀c,lo<=c->c<hi->w'.heap[c]? =w.heap[c]?)(hz:w.heap.size<=w'.heap.size):Zr φ z xs v lo hi w':=by obtain⟨h1,h2,b,h3,h4⟩:=h;refine⟨dQ h1 hz,h2,b,?_,h4⟩;cases h3 with|empty ad z=>exact .empty ad z|mk b o cap z xs vs hc h0 Qz hr hv gM=>obtain⟨l1,l2⟩:=h4 b rfl;have e:=hs b l1 l2;exact .mk b o cap z xs vs hc h0 Qz (hr.mono (λ_ h=>h.elim) λ_ h=>h.elim) (hv.of_block e) (gM.of_block e)
def Zr.data{z:ax}{xs:ah A}{v:aL}{lo hi:ax}{w:aU}(h:Zr φ z xs v lo hi w):gY φ w (λb=>lo<=b/\b<hi) v (.sl z xs):=by obtain⟨h1,h2,b,h3,h4⟩:=h;cases h3 with|empty ad z=>exact .Rx ad 0 z|mk b o cap z xs vs hc h0 Qz hr hv gM=>exact .sl b o cap z xs vs (h4 b rfl) Qz hc (hr.plain (Io h2)) hv
def Zr.slice{z:ax}{xs:ah A}{v:aL}{lo hi:ax}{w:aU}(h:Zr φ z xs v lo hi w):∃ad n cp,v=.slice ad n cp:=by obtain⟨h1,h2,b,h3,h4⟩:=h;cases h3 with|empty ad z=>exact⟨_,_,_,rfl⟩|mk=>exact⟨_,_,_,rfl⟩
def eL.toP{z:ax}{xs:ah A}{v:aL}{b:aq ax}{K:ax->Prop}{lo:ax}{w:aU}(h:eL φ w K v z xs b)(hp:xs.all A.plain=aB)(hb:∀c,b=ai c->lo<=c/\c<w.heap.size):Zr φ z xs v lo w.heap.size w:=by refine⟨bx _,hp,b,?_,hb⟩;cases h with|empty ad z=>exact .empty ad z|mk b o cap z xs vs hc h0 Qz hr hv gM=>exact .mk b o cap z xs vs hc h0 Qz (hr.plain (Io hp)) hv gM
def dx.own{g j z:ax}{ab xs:ah A}(hc:dx P φ g ab [.tok j z xs] []){w:aU}{K:ax->Prop}{vs:ah aL}(hr:dp φ w K vs ab)(hK:∀b,K b->b<w.heap.size)(hG:Dv P K w)(hp:xs.all A.plain=aB:=by first|assumption|exact afZ rfl _): fF P (φ g) vs.toArray w λe w'=>∃ad n cp,e=.returned (.slice ad n cp)/\Lo w.heap.size w w'/\Zr φ z xs (.slice ad n cp) w.heap.size w'.heap.size w':=by refine(hc w K vs [] (LW hr) ib (λ_ h=>by cases h) hK hG).mono λe w' ⟨v,he,hb⟩=> ?_;subst he;obtain⟨qQ,K',rb,ob,hv,_,_,R8,ho,_,hbl⟩:=hb.rest;cases R8 with|cons v0 _ b0 vs0 _ bs0 h1 h2=>cases h2;cases h1 with|data _ h3=>cases h3|tok _ _ _ b h3=>have hP:=h3.toP hp (λc hc=>by subst hc;have:=hbl c (by simp);exact⟨this.2.2.resolve_left (by simp),this.2.1⟩);obtain⟨ad,n,cp,rfl⟩:=hP.slice;exact⟨ad,n,cp,by rw[hv];rfl,⟨hb.grow,λb hb'=>hb.frame b hb' (by simp),hb.env.1,hb.env.2⟩,hP⟩
def afW(φ:ax->ax)(t:bO)(xs:ah aa4.ty)(v:aL)(lo hi:ax)(w:aU):Prop:=hi<=w.heap.size/\∃(b:ax) (C:kZ aL) (ad:ax->aq afQ) (n cp los his:ax->ax),v=.slice (ai ⟨b,0,au⟩) (ae xs) (ae xs)/\lo<=b/\b<hi/\w.heap[b]? =ai (.cells C t)/\C.size=ae xs*4/\ (∀j,j<ae xs->C[j*4]? =ai (.string ⟨(ali xs j).1.toArray⟩)/\C[j*4+1]? =ai (.int .i64 (ali xs j).2.1)/\C[j*4+2]? =ai (.int .i64 (ali xs j).2.2.1)/\C[j*4+3]? =ai (.slice (ad j) (n j) (cp j))/\ Zr φ 1 ((show ah aw from(ali xs j).2.2.2.1).map (ET.enc (.one (.int .i64)))) (.slice (ad j) (n j) (cp j)) (los j) (his j) w/\b<los j/\los j<=his j/\his j<=hi)/\∀i j,i<j->j<ae xs->his i<=los j
def afW.fI{t:bO}{xs:ah aa4.ty}{v:aL}{lo hi:ax}{w w':aU}(h:afW φ t xs v lo hi w)(hs:∀c,lo<=c->c<hi->w'.heap[c]? =w.heap[c]?)(hz:w.heap.size<=w'.heap.size):afW φ t xs v lo hi w':=by obtain⟨h1,b,C,ad,n,cp,los,his,h2,h3,h4,h5,h6,h7,h8⟩:=h;refine⟨dQ h1 hz,b,C,ad,n,cp,los,his,h2,h3,h4,(hs b h3 h4).trans h5,h6,λj hj=> ?_,h8⟩;obtain⟨a0,a1,a2,a3,a4,a5,a6,a7⟩:=h7 j hj;exact⟨a0,a1,a2,a3,a4.fI (λc c1 c2=>hs c (by omega) (by omega)) hz,a5,a6,a7⟩
def afW.data{t:bO}{xs:ah aa4.ty}{v:aL}{lo hi:ax}{w:aU}(h:afW φ t xs v lo hi w):gY φ w (λb=>lo<=b/\b<hi) v (.sl 4 (xs.map aa4.enc)):=by
 obtain⟨h1,b,C,ad,n,cp,los,his,rfl,h3,h4,h5,h6,h7,h8⟩:=h;have rh:∀k i,i+k=ae xs->dp φ w (λb=>lo<=b/\b<hi) ((ac5 i k).flatMap λj=>[AT ⟨(ali xs j).1.toArray⟩,.int .i64 (ali xs j).2.1,.int .i64 (ali xs j).2.2.1,.slice (ad j) (n j) (cp j)]) (((xs.drop i).map aa4.enc).flatMap A.cells)/\ dw w b (i*4) ((ac5 i k).flatMap λj=>[AT ⟨(ali xs j).1.toArray⟩,.int .i64 (ali xs j).2.1,.int .i64 (ali xs j).2.2.1,.slice (ad j) (n j) (cp j)]):=by intro k;induction k with|zero=>intro i Vj;rw[br (by omega)];exact⟨.nil,λj v hv=>by simp at hv⟩|succ k ih=>intro i Vj;(have tT:i<ae xs:=by omega);obtain⟨r1,r2⟩:=ih (i+1) (by omega);obtain⟨a0,a1,a2,a3,a4,a5,a6,a7⟩:=h7 i tT;(have hst:ali xs i=xs[i]:=by simp[ali,aE tT]);rw[apj,cr,ba tT,aY,cr];refine⟨dp.append ?_ r1,?_⟩;(·have hd:=a4.data.mono (ok':=λb=>lo<=b/\b<hi) (λ_ _=>rfl) (λc hc=>⟨by omega,by omega⟩);rw[hst]at hd⊢;generalize xs[i]=x at hd⊢;obtain⟨s1,s2,s3,s4,⟨⟩⟩:=x;exact .cons _ _ _ _ (.str s1) (.cons _ _ _ _ (.int _ _) (.cons _ _ _ _ (.int _ _) (.cons _ _ _ _ hd .nil))));·intro j v hv;(have jy:∀m u,C[m]? =ai u->w.cell? ⟨b,m,au⟩=ai u:=λm u hu=>by simp[b9,h5,hu]);match j,hv with|0,hv=>cases hv;exact jy _ _ a0|1,hv=>cases hv;exact jy _ _ a1|2,hv=>cases hv;exact jy _ _ a2|3,hv=>cases hv;exact jy _ _ a3|j+4,hv=>have:=r2 j v (by simpa using hv);rw[show(i+1)*4+j=i*4+(j+4)by omega]at this;exact this
 obtain⟨r1,r2⟩:=rh (ae xs) 0 (by omega);have:=gY.sl (φ:=φ) (w:=w) (ok:=λb=>lo<=b/\b<hi) b 0 (ae xs) 4 (xs.map aa4.enc) _ ⟨h3,h4⟩ (λx hx=>by obtain⟨y,_,rfl⟩:=dF.1 hx;exact ET.Im aa4 y) (by simp) r1 (by simpa using r2);rw[bf]at this;exact this
@[reducible] def kY:ET:=.one (.int .i64)
@[reducible] def aKf:ET:=.agg (.cons (.int .i64) (.cons (.int .i64) (.cons (.int .i64) (.cons (.int .i64) (.cons (.int .i64) (.cons (.int .i64) .nil))))))
@[reducible] def aEO:ET:=.agg (.cons (.int .i64) (.cons (.int .i64) (.cons (.int .i64) (.cons (.int .i64) .nil))))
@[reducible] def ax8:ET:=.agg (.cons .str (.cons .str (.cons (.int .i64) (.cons (.int .i64) (.cons (.int .i64) .nil)))))
@[reducible] def axp:ET:=.agg (.cons (.int .i64) (.cons .str (.cons .str (.cons (.int .i64) .nil))))
@[reducible] def avZ:ET:=.agg (.cons (.sl aKf) (.cons (.sl aEO) (.cons (.int .i64) (.cons (.sl aa4) (.cons (.sl kY) (.cons (.int .i64) (.cons (.sl ax8) (.cons (.sl axp) .nil))))))))
structure at7(φ:ax->ax)(t:bO)(x:avZ.ty)(d:ax->aL)(l h:ax->ax)(w:aU):Prop where
 p0:Zr φ 6 ((show ah aKf.ty from x.1).map aKf.enc) (d 0) (l 0) (h 0) w
 p1:Zr φ 4 ((show ah aEO.ty from x.2.1).map aEO.enc) (d 1) (l 1) (h 1) w
 p3:afW φ t x.2.2.2.1 (d 3) (l 3) (h 3) w
 p4:Zr φ 1 ((show ah aw from x.2.2.2.2.1).map kY.enc) (d 4) (l 4) (h 4) w
 p6:Zr φ 5 ((show ah ax8.ty from x.2.2.2.2.2.2.1).map ax8.enc) (d 6) (l 6) (h 6) w
 p7:Zr φ 4 ((show ah axp.ty from x.2.2.2.2.2.2.2.1).map axp.enc) (d 7) (l 7) (h 7) w
 ch:(l 0<=h 0/\h 0<=l 1)/\(l 1<=h 1/\h 1<=l 3)/\(l 3<=h 3/\h 3<=l 4)/\(l 4<=h 4/\h 4<=l 6)/\(l 6<=h 6/\h 6<=l 7)/\l 7<=h 7
def aOP(x:avZ.ty)(d:ax->aL):aL:=.agg #[d 0,d 1,.int .i64 x.2.2.1,d 3,d 4,.int .i64 x.2.2.2.2.2.1,d 6,d 7]
def at7.fI{t:bO}{x:avZ.ty}{d:ax->aL}{l h:ax->ax}{w w':aU}(H:at7 φ t x d l h w)(hs:∀c,l 0<=c->c<h 7->w'.heap[c]? =w.heap[c]?)(hz:w.heap.size<=w'.heap.size):at7 φ t x d l h w':=by have c:=H.ch;exact⟨H.p0.fI (λ_ _ _=>hs _ (by omega) (by omega)) hz,H.p1.fI (λ_ _ _=>hs _ (by omega) (by omega)) hz,H.p3.fI (λ_ _ _=>hs _ (by omega) (by omega)) hz,H.p4.fI (λ_ _ _=>hs _ (by omega) (by omega)) hz,H.p6.fI (λ_ _ _=>hs _ (by omega) (by omega)) hz,H.p7.fI (λ_ _ _=>hs _ (by omega) (by omega)) hz,H.ch⟩
def at7.data{t:bO}{x:avZ.ty}{d:ax->aL}{l h:ax->ax}{w:aU}(H:at7 φ t x d l h w):gY φ w (λb=>l 0<=b/\b<h 7) (aOP x d) (avZ.enc x):=by have c:=H.ch;obtain⟨x0,x1,x2,x3,x4,x5,x6,x7,⟨⟩⟩:=x;have m:∀{v:aL} {a:A} {l' h':ax},gY φ w (λb=>l'<=b/\b<h') v a->l 0<=l'->h'<=h 7->gY φ w (λb=>l 0<=b/\b<h 7) v a:=λhr h1 h2=>hr.mono (λ_ _=>rfl) λb hb=>⟨by omega,by omega⟩;exact .agg [_,_,_,_,_,_,_,_] _ (.cons _ _ _ _ (m H.p0.data (by omega) (by omega)) (.cons _ _ _ _ (m H.p1.data (by omega) (by omega)) (.cons _ _ _ _ (.int _ _) (.cons _ _ _ _ (m H.p3.data (by omega) (by omega)) (.cons _ _ _ _ (m H.p4.data (by omega) (by omega)) (.cons _ _ _ _ (.int _ _) (.cons _ _ _ _ (m H.p6.data (by omega) (by omega)) (.cons _ _ _ _ (m H.p7.data (by omega) (by omega)) .nil))))))))
end
def Hi(lo:ax)(w w':aU):Prop:=w.heap.size<=w'.heap.size/\∀b,lo<=b->b<w.heap.size->w'.heap[b]? =w.heap[b]?
def HB(w:aU)(o:Obj){b:ax}(h:b=w.heap.size):(w.alloc o).heap[b]? =ai o:=by subst h;simp only[abb,DC]
def iN(w:aU)(o:Obj){b:ax}(h:b<w.heap.size):(w.alloc o).heap[b]? =w.heap[b]? :=by simp only[abb];rw[FC h,AL h]
def gC(w:aU)(a:afQ)(v:aL):(w.setCell a v).heap.size=w.heap.size:=by simp[TD]
def gL(w:aU)(b j c:ax)(v:aL)(h:c≠b):(w.setCell ⟨b,j,au⟩ v).heap[c]? =w.heap[c]?:=aJ3 w _ v c h
def Lo.setCell{B:ax}{w w1:aU}(h:Lo B w w1){b j:ax}{v:aL}(hb:B<=b):Lo B w (w1.setCell ⟨b,j,au⟩ v):=
 ⟨by rw[gC];exact h.size,λc hc=>(gL _ _ _ _ _ (by omega)).trans (h.block c hc),h.os,h.output⟩
def Hi.refl(lo:ax)(w:aU):Hi lo w w:=⟨bx _,λ_ _ _=>rfl⟩
def Hi.setCell{lo:ax}{w w1:aU}(h:Hi lo w w1){b j:ax}{v:aL}(hb:b<lo):Hi lo w (w1.setCell ⟨b,j,au⟩ v):=
 ⟨by rw[gC];exact h.1,λc h1 h2=>(gL _ _ _ _ _ (by omega)).trans (h.2 c h1 h2)⟩
def Nb{w:aU}{b:ax}{C:kZ aL}{t:bO}(h:w.heap[b]? =ai (.cells C t))(j:ax)(v:aL):(w.setCell ⟨b,j,au⟩ v).heap[b]? =ai (.cells (C.setIfInBounds j v) t):=by simp only[TD,Zm,aK,h,aS];rfl
def Lo.drew{B:ax}{w w1:aU}(h:Lo B w w1):Lo B w w1.drew:=⟨h.size,h.block,h.os,h.output⟩
def Hi.anf{lo:ax}{w w':aU}(h:Lo w.heap.size w w'):Hi lo w w':=⟨h.size,λb _ hb=>h.block b hb⟩
def Hi.trans{lo:ax}{w w1 w2:aU}(h:Hi lo w w1)(h':Hi lo w1 w2):Hi lo w w2:=⟨dQ h.1 h'.1,λb h1 h2=>(h'.2 b h1 (bX h2 h.1)).trans (h.2 b h1 h2)⟩
def Rg.refl(X:ax->Prop)(w:aU):Rg X w w:=⟨bx _,λ_ _ _=>rfl,rfl,rfl⟩
def Rg.trans{X:ax->Prop}{w w1 w2:aU}(h:Rg X w w1)(h':Rg X w1 w2):Rg X w w2:=⟨dQ h.size h'.size,λc hc hx=>(h'.block c (bX hc h.size) hx).trans (h.block c hc hx),h'.os.trans h.os,h'.output.trans h.output⟩
def Rg.anf{X:ax->Prop}{w w':aU}(h:Lo w.heap.size w w'):Rg X w w':=⟨h.size,λc hc _=>h.block c hc,h.os,h.output⟩
def Lo.rg{X:ax->Prop}{B:ax}{w w1 w2:aU}(h:Lo B w w1)(hr:Rg X w1 w2)(hx:∀c,X c->B<=c)(hB:B<=w1.heap.size):Lo B w w2:=⟨dQ h.size hr.size,λc hc=>(hr.block c (bX hc hB) (λe=>xB _ (bX hc (hx c e)))).trans (h.block c hc),hr.os.trans h.os,hr.output.trans h.output⟩
def Rg.setCell{X:ax->Prop}{w w1:aU}(h:Rg X w w1){b j:ax}{v:aL}(hb:X b):Rg X w (w1.setCell ⟨b,j,au⟩ v):=
 ⟨by rw[gC];exact h.size,λc hc hx=>(gL _ _ _ _ _ (λe=>hx (by rw[e];exact hb))).trans (h.block c hc hx),h.os,h.output⟩
section
variable {P:bV} {φ:ax->ax}
def eL.len{z:ax}{xs:ah A}{v:aL}{b:aq ax}{K:ax->Prop}{w:aU}(h:eL φ w K v z xs b):∃a c,v=.slice a (ae xs) c:=by cases h with|empty ad z=>exact⟨ad,0,rfl⟩|mk b o cap z xs vs hc h0 Qz hr hv gM=>exact⟨_,_,rfl⟩
def dx.text{g:ax}{ab:ah A}{t:ah ay}(hc:dx P φ g ab [.str t] []){w:aU}{K:ax->Prop}{vs:ah aL}(hr:dp φ w K vs ab)(hK:∀b,K b->b<w.heap.size)(hG:Dv P K w): fF P (φ g) vs.toArray w λe w'=>e=.returned (.string ⟨t.toArray⟩)/\Lo w.heap.size w w':=by refine(hc w K vs [] (LW hr) ib (λ_ h=>by cases h) hK hG).mono λe w' ⟨v,he,hb⟩=> ?_;subst he;obtain⟨qQ,K',rb,ob,hv,_,_,R8,_⟩:=hb.rest;refine⟨?_,hb.grow,λb hb'=>hb.frame b hb' (by simp),hb.env.1,hb.env.2⟩;cases R8 with|cons v0 _ _ vs0 _ _ h1 h2=>cases h2;cases h1 with|data _ h3=>cases h3;rw[hv];rfl
def Rg.mono{X Y:ax->Prop}{w w':aU}(h:Rg X w w')(hx:∀c,X c->Y c):Rg Y w w':=⟨h.size,λc hc hy=>h.block c hc λe=>hy (hx c e),h.os,h.output⟩
end
section
variable {P:bV} {φ:ax->ax}
end
section
variable {P:bV} {φ:ax->ax}
end
section
variable {P:bV} {φ:ax->ax}
def axg{D:ah (ax×Callee)}{H:ah (ax×ET)}{fn:Fn}{E R:ET}{g:ax}(h:oQ P φ g (ik D H fn [.d E] [.tok R] [])){x:E.ty}{y:ah R.ty}(hf:(ik D H fn [.d E] [.tok R] []).f (x,())=ai y): dx P φ g [E.enc x] [.tok 0 R.z (y.map R.enc)] []:=by
 have e:(ik D H fn [.d E] [.tok R] []).cf [E.enc x]=ai ([.tok 0 R.z (y.map R.enc)],[]):=by rw[Callee.aun (c:=ik D H fn [.d E] [.tok R] []) (ab:=[E.enc x]) (x:=(x,())) rfl (by show Dj [MT.d E] [E.enc x]=[(E.v x).a];rw[LY rfl,ET.v_a]),hf];rfl
 exact h.2 _ _ _ e
end
section
variable {P:bV} {φ:ax->ax}
end
end Go.Ab
namespace Go.Ab
def rowAt{T:Type}(xs:ah (ah T))(j:ax):ah T:=(xs[j]?).getD []
def at5(φ:ax->ax)(t:bO)(E:ET)(xs:ah (ah E.ty))(v:aL)(lo hi:ax)(w:aU):Prop:=hi<=w.heap.size/\∃(b:ax) (C:kZ aL) (ad:ax->aq afQ) (n cp los his:ax->ax),v=.slice (ai ⟨b,0,au⟩) (ae xs) (ae xs)/\lo<=b/\b<hi/\w.heap[b]? =ai (.cells C t)/\C.size=ae xs/\ (∀j,j<ae xs->C[j]? =ai (.slice (ad j) (n j) (cp j))/\Zr φ E.z ((rowAt xs j).map E.enc) (.slice (ad j) (n j) (cp j)) (los j) (his j) w/\b<los j/\los j<=his j/\his j<=hi)/\∀i j,i<j->j<ae xs->his i<=los j
section
variable {P:bV} {φ:ax->ax} {E:ET}
def at5.fI{t:bO}{xs:ah (ah E.ty)}{v:aL}{lo hi:ax}{w w':aU}(h:at5 φ t E xs v lo hi w)(hs:∀c,lo<=c->c<hi->w'.heap[c]? =w.heap[c]?)(hz:w.heap.size<=w'.heap.size):at5 φ t E xs v lo hi w':=by obtain⟨h1,b,C,ad,n,cp,los,his,h2,h3,h4,h5,h6,h7,h8⟩:=h;refine⟨dQ h1 hz,b,C,ad,n,cp,los,his,h2,h3,h4,(hs b h3 h4).trans h5,h6,λj hj=> ?_,h8⟩;obtain⟨a3,a4,a5,a6,a7⟩:=h7 j hj;exact⟨a3,a4.fI (λc c1 c2=>hs c (by omega) (by omega)) hz,a5,a6,a7⟩
def at5.data{t:bO}{xs:ah (ah E.ty)}{v:aL}{lo hi:ax}{w:aU}(h:at5 φ t E xs v lo hi w):gY φ w (λb=>lo<=b/\b<hi) v (.sl 1 (xs.map (ET.one (.sl E)).enc)):=by
 obtain⟨h1,b,C,ad,n,cp,los,his,rfl,h3,h4,h5,h6,h7,h8⟩:=h;have rh:∀k i,i+k=ae xs->dp φ w (λb=>lo<=b/\b<hi) ((ac5 i k).map λj=>U7 (ad j) (n j) (cp j)) (((xs.drop i).map (ET.one (.sl E)).enc).flatMap A.cells)/\ dw w b i ((ac5 i k).map λj=>U7 (ad j) (n j) (cp j)):=by intro k;induction k with|zero=>intro i Vj;rw[br (by omega)];exact⟨.nil,λj v hv=>by simp at hv⟩|succ k ih=>intro i Vj;(have tT:i<ae xs:=by omega);obtain⟨r1,r2⟩:=ih (i+1) (by omega);obtain⟨a3,a4,a5,a6,a7⟩:=h7 i tT;(have hst:rowAt xs i=xs[i]:=by simp[rowAt,aE tT]);rw[apj,aY,ba tT,aY,cr];refine⟨dp.append (vs:=[_]) ?_ r1,?_⟩;(·have hd:=a4.data.mono (ok':=λb=>lo<=b/\b<hi) (λ_ _=>rfl) (λc hc=>⟨by omega,by omega⟩);rw[hst]at hd;exact .cons _ _ _ _ hd .nil);·intro j v hv;match j,hv with|0,hv=>cases hv;simp[b9,h5,a3]|j+1,hv=>have:=r2 j v (by simpa using hv);rw[show i+1+j=i+(j+1)by omega]at this;exact this
 obtain⟨r1,r2⟩:=rh (ae xs) 0 (by omega);have:=gY.sl (φ:=φ) (w:=w) (ok:=λb=>lo<=b/\b<hi) b 0 (ae xs) 1 (xs.map (ET.one (.sl E)).enc) _ ⟨h3,h4⟩ (λx hx=>by obtain⟨y,_,rfl⟩:=dF.1 hx;exact ET.Im (ET.one (.sl E)) y) (by simp) r1 (by simpa using r2);rw[bf]at this;exact this
end
@[reducible] def Fx:ET:=.one .str
section
variable {P:bV} {φ:ax->ax}
end
end Go.Ab
namespace Go.Ab
inductive LU(w:aU)(e:bO):aL->ah aL->aq ax->Prop where
 |empty (ad:aq afQ):LU w e (.slice ad 0 0) [] au
 |mk (b cap:ax) (C:kZ aL) (vs:ah aL):w.heap[b]? =ai (.cells C e)->C.size=cap->ae vs<=cap->cap≠0->(∀j,j<ae vs->C[j]? =vs[j]?)->
  LU w e (.slice (ai ⟨b,0,au⟩) (ae vs) cap) vs (ai b)
def LU.slice{w:aU}{e:bO}{v:aL}{vs:ah aL}{ob:aq ax}(h:LU w e v vs ob):∃ad n cp,v=.slice ad n cp:=by cases h with|empty ad=>exact⟨_,_,_,rfl⟩|mk=>exact⟨_,_,_,rfl⟩
def LU.lt{w:aU}{e:bO}{v:aL}{vs:ah aL}{b:ax}(h:LU w e v vs (ai b)):b<w.heap.size:=by cases h with|mk b cap C vs hC _ _ _ _=>(rcases bL b w.heap.size with h|h);(·exact h);·rw[qd h]at hC;cases hC
def LU.fI{w w':aU}{e:bO}{v:aL}{vs:ah aL}{ob:aq ax}(h:LU w e v vs ob)(hs:∀b,ob=ai b->w'.heap[b]? =w.heap[b]?):LU w' e v vs ob:=by cases h with|empty ad=>exact .empty ad|mk b cap C vs hC h1 h2 h3 h4=>exact .mk b cap C vs ((hs b rfl).trans hC) h1 h2 h3 h4
section
variable {P:bV}
def LU.app{w:aU}{e:bO}{v:aL}{vs:ah aL}{ob:aq ax}(h:LU w e v vs ob){t:bO}(ht:P.underlying t=ai (.slice e)){i:WJ}(hi:P.info? e=ai i)(hz:i.size=1){zv:aL}(hzv:i.zero=ai zv)(hzs:zv.cells.size=1) (hb:i.bytes<=128) (fm:ae vs+1<1099511627776) {bu:ax} {D:kZ aL} {tu:bO} {x:aL} (hu:w.heap[bu]? =ai (.cells D tu)) (hx:D[0]? =ai x) (h1:x.oneCell'=aB) (c:ax) (ty:bO): ∃ad n cp w' ob',(fH #[t,t] ty #[v,.slice (ai ⟨bu,0,au⟩) 1 c]).run P w=.ok (.slice ad n cp) w'/\LU w' e (.slice ad n cp) (vs++ [x]) ob'/\w.heap.size<=w'.heap.size/\ (∀q,q<w.heap.size->ob≠ai q->w'.heap[q]? =w.heap[q]?)/\(ob'=ob\/∃q,ob'=ai q/\w.heap.size<=q/\q<w'.heap.size)/\w'.os=w.os/\w'.output=w.output:=by
 have hs:Src P i.size t (.slice (ai ⟨bu,0,au⟩) 1 c) 1 [x] w:=aGM w ht ⟨bu,0,au⟩ 1 c [x] (by rw[hz];rfl) (λj u hj=>by
  match j,hj with
  |0,hj=>cases hj;rw[World.nf];simp[b9,hu,hx]) (λu hu=>by
  rw[aT]at hu;subst hu;exact h1)
 have aD5:∀c,c<ae vs+1->atZ (ae vs+1) c*i.bytes<=281474976710656:=λc hc=> aJ5 hc (by have:=afU (show ae vs+1<=1099511627776 by omega) hb;omega)
 have grow:∀{base:aq afQ} {c0:ax},v=.slice base (ae vs) c0->c0<ae vs+1->(uo i.size (ae vs) (.slice base (ae vs) c0)).run P w.drew=.ok vs.toArray w.drew->
  ∃ad n cp w' ob',(fH #[t,t] ty #[v,.slice (ai ⟨bu,0,au⟩) 1 c]).run P w=.ok (.slice ad n cp) w'/\LU w' e (.slice ad n cp) (vs++ [x]) ob'/\w.heap.size<=w'.heap.size/\
   (∀q,q<w.heap.size->ob≠ai q->w'.heap[q]? =w.heap[q]?)/\(ob'=ob\/∃q,ob'=ai q/\w.heap.size<=q/\q<w'.heap.size)/\w'.os=w.os/\w'.output=w.output:=by
  intro base c0 hv dE adu
  subst hv
  have jn:=run_append_grow_src (P:=P) w t t ty e i zv ht hi hzv base (ae vs) c0 vs adu (.slice (ai ⟨bu,0,au⟩) 1 c) 1 [x] hs dE (by omega) (aD5 c0 dE)
  have hge:=grownCap_ge w (ae vs+1) c0 e
  have hh:(w.drew.alloc (.cells ((vs++ [x]).toArray++cG zv.cells (rP w (ae vs+1) c0 e-(ae vs+1))) e)).heap=
   w.heap.push (.cells ((vs++ [x]).toArray++cG zv.cells (rP w (ae vs+1) c0 e-(ae vs+1))) e):=rfl
  have hz1:(w.heap.push (.cells ((vs++ [x]).toArray++cG zv.cells (rP w (ae vs+1) c0 e-(ae vs+1))) e)).size=w.heap.size+1:=by simp
  refine⟨_,_,_,_,ai w.heap.size,jn,?_,by rw[hh,hz1];omega,λq hq _=>by rw[hh];rw[FC hq,AL hq],.inr ⟨w.heap.size,rfl,bx _,by rw[hh,hz1];omega⟩,rfl,rfl⟩
  have Aq:((vs++ [x]).toArray++cG zv.cells (rP w (ae vs+1) c0 e-(ae vs+1))).size=rP w (ae vs+1) c0 e:=by
   rw[Tu,aDd,hzs]
   simp only[aqk,bg,bl,bQ]
   omega
  have:=LU.mk (w:=w.drew.alloc (.cells ((vs++ [x]).toArray++cG zv.cells (rP w (ae vs+1) c0 e-(ae vs+1))) e)) (e:=e) w.heap.size (rP w (ae vs+1) c0 e) _ (vs++ [x])
   (by rw[hh];exact DC) Aq (by rw[bg];exact hge) (by omega) (λj hj=>by rw[Array.getElem?_append_left (by simpa using hj)];simp)
  rw[bg]at this
  exact this
 cases h with|empty ad=>(refine grow (c0:=0) (base:=ad) rfl (by simp) ?_;cases ad with|none=>exact run_firstCells_none w.drew i.size 0 0 0|some ad=>exact Ak w.drew i.size 0 ad 0 0 [] (by simp) (λj u h=>by simp at h))|mk b cap C vs hC Aq wi h0 oz=>by_cases gM:ae vs+1<=cap;(·(have jy:∀j,j< [x].length->(w.cell? ⟨b,0+ae vs*i.size+j,au⟩).isSome=aB:=λj hj=>by(have hj0:j=0:=by simpa using hj);subst hj0;rw[hz];(have:ae vs<C.size:=by omega);simp[b9,hC,this]);have jn:=run_append_room_src (P:=P) w t t ty e i ht hi b 0 (ae vs) cap (.slice (ai ⟨bu,0,au⟩) 1 c) 1 [x] hs gM jy (λj hj=>by simp[yT,hC]);(have aEn:w.setCells b (0+ae vs*i.size) [x]=w.setCell ⟨b,ae vs,au⟩ x:=by rw[hz,dL,atN];rfl);rw[aEn]at jn;have hb2:=Nb hC (ae vs) x;refine⟨_,_,_,_,ai b,jn,?_,by rw[gC];omega,λq hq iS=>gL _ _ _ _ _ (λe=>iS (by rw[e])),.inl rfl,rfl,rfl⟩;have:=LU.mk (w:=w.setCell ⟨b,ae vs,au⟩ x) (e:=e) b cap _ (vs++ [x]) hb2 (by simpa using Aq) (by rw[bg];exact gM) h0 (λj hj=>by rw[bg,cT]at hj;(rcases bL j (ae vs)with hj2|hj2);(·rw[Array.getElem?_setIfInBounds_ne (by omega),dM hj2];exact oz j hj2);·(obtain rfl:j=ae vs:=by omega);rw[Array.getElem?_setIfInBounds_self_of_lt (by omega)];simp);rw[bg]at this;exact this);·refine grow (c0:=cap) (base:=ai ⟨b,0,au⟩) rfl (by omega) ?_;exact Ak w.drew i.size (ae vs) ⟨b,0,au⟩ (ae vs) cap vs (by rw[hz,atN]) (λj u hj=>by(have hjl:j<ae vs:=by(rcases bL j (ae vs)with h|h);(·exact h);·simp[bU h]at hj);rw[World.nf];have:=oz j hjl;have hd:w.drew.heap=w.heap:=rfl;simp[b9,hd,hC,this,hj])
def wpList_append_run(w:aU){ops:kZ Zp}{rest:ah Zp}{o:Zp}{a:alk}{Q:Exit->alk->aU->Prop}(hgd:o.guard=au)(d s:ej)(t t':bO)
 (ho:o.op=.call {callee:=.builtin .append,args:= #[d,s],argTypes:= #[t,t']}) (v u:aL) (hd:a.eval d=v) (hs:a.eval s=u) {v':aL} {w':aU}
 (hr:(fH #[t,t'] o.type #[v,u]).run P w=.ok v' w') (h:aw1 P ops Q rest (a.put o.dst v') w'):aw1 P ops Q (o::rest) a w:=
 wpList_plain hgd λ_ hK=>by unfold Jf;simp only[gS,ho,resolve,invoke,builtin,eP,mg,cZ,List.map_toArray,aY,gJ,hd,hs,hr];exact hK _ _ h
end
section
variable {P:bV} {φ:ax->ax}
def LU.ints{e:bO}{w:aU}{v:aL}{xs:ah aw}{ob:aq ax}(h:LU w e v (xs.map (fq .i64)) ob):eL φ w (λ_=>JW) v 1 (xs.map kY.enc) ob:=by generalize OU:xs.map (fq .i64)=ys at h;cases h with|empty ad=>(obtain rfl:xs=[]:=by cases xs with|nil=>rfl|cons=>simp at OU);exact .empty ad 1|mk b cap C vs hC Aq wi h0 oz=>subst OU;(have rh:∀ys:ah aw,dp φ w (λ_=>JW) (ys.map (fq .i64)) ((ys.map kY.enc).flatMap A.cells):=by intro ys;induction ys with|nil=>exact .nil|cons y ys ih=>exact .cons _ _ _ _ (.int _ _) ih);(have hl:ae xs=ae (xs.map (fq .i64)):=by rw[bf]);have:=eL.mk (φ:=φ) (w:=w) (K:=λ_=>JW) b 0 cap 1 (xs.map kY.enc) (xs.map (fq .i64)) (by rw[bf];rw[<-hl]at wi;exact wi) h0 (λy hy=>by obtain⟨z,_,rfl⟩:=dF.1 hy;rfl) (rh xs) (λj u hj=>by(have hjl:j<ae (xs.map (fq .i64)):=by(rcases bL j (ae (xs.map (fq .i64)))with h|h);(·exact h);·simp[bU h]at hj);have:=oz j hjl;simp only[b9,hC,dL];simp[this,hj]) ⟨C,e,_,hC,by omega,λoff _=>by simp[yT,hC]⟩;rw[bf]at this;rw[<-hl];exact this
def eL.aiE{w w':aU}{v:aL}{z:ax}{xs:ah A}{ob:aq ax}(h:eL φ w (λ_=>JW) v z xs ob)(hs:∀b,ob=ai b->w'.heap[b]? =w.heap[b]?):eL φ w' (λ_=>JW) v z xs ob:=by cases h with|empty ad z=>exact .empty ad z|mk b o cap z xs vs hc h0 Qz hr hv gM=>have e:=hs b rfl;exact .mk b o cap z xs vs hc h0 Qz (hr.mono (λ_ h=>h.elim) λ_ h=>h.elim) (hv.of_block e) (gM.of_block e)
def eL.aNg{w:aU}{K:ax->Prop}{v:aL}{z:ax}{xs:ah A}{ob:aq ax}(h:eL φ w (λ_=>JW) v z xs ob)(hb:∀b,ob=ai b->K b):gY φ w K v (.sl z xs):=by cases h with|empty ad z=>exact .Rx ad 0 z|mk b o cap z xs vs hc h0 Qz hr hv gM=>exact .sl b o cap z xs vs (hb b rfl) Qz hc (hr.mono (λ_ _=>rfl) λ_ h=>h.elim) hv
@[reducible] def nO:ET:=.one (.sl kY)
def qf(φ:ax->ax)(e:bO)(xs:ah (ah aw))(v:aL)(O:ax->Prop)(w:aU):Prop:=∃(vs:ah aL) (ob:aq ax) (rb:ax->aq ax),LU w e v vs ob/\ae vs=ae xs/\(∀b,ob=ai b->O b)/\ (∀j,j<ae xs->(∃ad n cp,vs[j]? =ai (.slice ad n cp)/\eL φ w (λ_=>JW) (.slice ad n cp) 1 ((rowAt xs j).map kY.enc) (rb j))/\∀b,rb j=ai b->O b/\ob≠ai b)/\ ∀i j b,i<j->j<ae xs->rb i=ai b->rb j≠ai b
def qf.nil(e:bO)(ad:aq afQ)(w:aU):qf φ e [] (.slice ad 0 0) (λ_=>JW) w:=
 ⟨[],au,λ_=>au,.empty ad,rfl,λb hb=>(by cases hb),λj hj=>bG hj (yV _),λi j b _ hj=>bG hj (yV _)⟩
def qf.slice{e:bO}{xs:ah (ah aw)}{v:aL}{O:ax->Prop}{w:aU}(h:qf φ e xs v O w):∃ad cp,v=.slice ad (ae xs) cp:=by obtain⟨vs,ob,rb,h1,h2,_⟩:=h;rw[<-h2];cases h1 with|empty ad=>exact⟨_,_,rfl⟩|mk=>exact⟨_,_,rfl⟩
def qf.fI{e:bO}{xs:ah (ah aw)}{v:aL}{O:ax->Prop}{w w':aU}(h:qf φ e xs v O w)(hs:∀c,O c->w'.heap[c]? =w.heap[c]?):qf φ e xs v O w':=by obtain⟨vs,ob,rb,h1,h2,h3,h4,h5⟩:=h;refine⟨vs,ob,rb,h1.fI λb hb=>hs b (h3 b hb),h2,h3,λj hj=> ?_,h5⟩;obtain⟨⟨ad,n,cp,a1,a2⟩,a3⟩:=h4 j hj;exact⟨⟨ad,n,cp,a1,a2.aiE λb hb=>hs b (a3 b hb).1⟩,a3⟩
def qf.push{e eI:bO}{xs:ah (ah aw)}{v:aL}{O:ax->Prop}{w:aU}(h:qf φ e xs v O w){jx:ah aw}{vr:aL}{Tz:aq ax}(hr:LU w eI vr (jx.map (fq .i64)) Tz)(hd:∀b,Tz=ai b->¬O b) (hO:∀b,O b->b<w.heap.size) {t:bO} (ht:P.underlying t=ai (.slice e)) {i:WJ} (hi:P.info? e=ai i) (hz:i.size=1) {zv:aL} (hzv:i.zero=ai zv) (hzs:zv.cells.size=1) (hb:i.bytes<=128) (fm:ae xs+1<1099511627776) {bu:ax} {D:kZ aL} {tu:bO} (hu:w.heap[bu]? =ai (.cells D tu)) (hx:D[0]? =ai vr) (c:ax) (ty:bO): ∃ad n cp w',(fH #[t,t] ty #[v,.slice (ai ⟨bu,0,au⟩) 1 c]).run P w=.ok (.slice ad n cp) w'/\w.heap.size<=w'.heap.size/\w'.os=w.os/\w'.output=w.output/\ (∀q,q<w.heap.size->¬O q->w'.heap[q]? =w.heap[q]?)/\qf φ e (xs++ [jx]) (.slice ad n cp) (λb=>O b\/Tz=ai b\/(w.heap.size<=b/\b<w'.heap.size)) w':=by
 obtain⟨vs,ob,rb,h1,h2,h3,h4,h5⟩:=h;obtain⟨a,n,cp,hvr⟩:=hr.slice;obtain⟨ad,n',cp',w',ob',e1,e2,e3,e4,e5,e6,e7⟩:=h1.app ht hi hz hzv hzs hb (by rw[h2];exact fm) hu hx (by rw[hvr];rfl) c ty;have iS:∀q,q<w.heap.size->¬O q->w'.heap[q]? =w.heap[q]? :=λq hq hn=>e4 q hq λe=>hn (h3 q e);have aEa:∀b,Tz=ai b->w'.heap[b]? =w.heap[b]? :=λb hb=>iS b (by subst hb;exact hr.lt) (hd b hb);refine⟨ad,n',cp',w',e1,e3,e6,e7,iS,vs++ [vr],ob',λj=>if j=ae xs then Tz else rb j,e2,by simp[h2],λb hb=> ?_,λj hj=> ?_,λi j b hij hj hb1 hb2=> ?_⟩
 .rcases e5 with rfl|⟨q,rfl,q1,q2⟩
  .exact .inl (h3 b hb)
  .cases hb;exact .inr (.inr ⟨q1,q2⟩)
 .rw[bg,cT]at hj;rcases bL j (ae xs)with hjl|hjl
  .obtain⟨⟨ad0,n0,cp0,a1,a2⟩,a3⟩:=h4 j hjl;(have hnj:j≠ae xs:=by omega);simp only[hnj,aJ];(have Jm:rowAt (xs++ [jx]) j=rowAt xs j:=by simp[rowAt,dM hjl]);rw[Jm];refine⟨⟨ad0,n0,cp0,by rw[dM (by omega)];exact a1,a2.aiE λb hb=>e4 b (hO b (a3 b hb).1) (a3 b hb).2⟩,λb hb=>⟨.inl (a3 b hb).1,λe=> ?_⟩⟩;(rcases e5 with rfl|⟨q,rfl,q1,q2⟩);(·exact(a3 b hb).2 e);·cases e;have:=hO _ (a3 _ hb).1;omega
  ·(obtain rfl:j=ae xs:=by omega);simp only[aK];(have Jm:rowAt (xs++ [jx]) (ae xs)=jx:=by simp[rowAt]);rw[Jm];refine⟨⟨a,n,cp,by rw[<-h2];simp[hvr],?_⟩,λb hb=>⟨.inr (.inl hb),λe=> ?_⟩⟩;(·rw[<-hvr];exact(LU.ints hr).aiE aEa);·(rcases e5 with rfl|⟨q,rfl,q1,q2⟩);(·exact hd b hb (h3 b e));·cases e;subst hb;have:=hr.lt;omega
 .rw[bg,cT]at hj;have hni:i≠ae xs:=by omega
  simp only[hni,aJ]at hb1;rcases bL j (ae xs)with hjl|hjl
  ·(have hnj:j≠ae xs:=by omega);simp only[hnj,aJ]at hb2;exact h5 i j b hij hjl hb1 hb2
  ·(obtain rfl:j=ae xs:=by omega);simp only[aK]at hb2;exact hd b hb2 ((h4 i hij).2 b hb1).1
def qf.data{e:bO}{xs:ah (ah aw)}{v:aL}{O:ax->Prop}{w:aU}(h:qf φ e xs v O w){K:ax->Prop}(hK:∀b,O b->K b):gY φ w K v (.sl 1 (xs.map nO.enc)):=by obtain⟨vs,ob,rb,h1,h2,h3,h4,h5⟩:=h;cases h1 with|empty ad=>(obtain rfl:xs=[]:=by cases xs with|nil=>rfl|cons=>simp at h2);exact .Rx ad 0 1|mk b cap C vs hC Aq wi h0 oz=>(have rh:∀k i,i+k=ae xs->dp φ w K (vs.drop i) (((xs.drop i).map nO.enc).flatMap A.cells):=by intro k;induction k with|zero=>intro i Vj;rw[br (by omega),br (by omega)];exact .nil|succ k ih=>intro i Vj;(have tT:i<ae xs:=by omega);obtain⟨⟨ad,n,cp,a1,a2⟩,a3⟩:=h4 i tT;(have hst:rowAt xs i=xs[i]:=by simp[rowAt,aE tT]);(have hvl:i<ae vs:=by omega);(have hvi:vs[i]=.slice ad n cp:=by rw[aE hvl]at a1;exact cA a1);rw[ba tT,ba hvl,aY,cr,hvi];rw[hst]at a2;exact .cons _ _ _ _ (a2.aNg λb hb=>hK b (a3 b hb).1) (ih (i+1) (by omega)));have r1:=rh (ae xs) 0 (by omega);rw[cL,cL]at r1;have:=gY.sl (φ:=φ) (w:=w) (ok:=K) b 0 cap 1 (xs.map nO.enc) vs (hK b (h3 b rfl)) (λx hx=>by obtain⟨y,_,rfl⟩:=dF.1 hx;rfl) (by rw[bf,<-h2];exact wi) r1 (λj u hj=>by(have hjl:j<ae vs:=by(rcases bL j (ae vs)with h|h);(·exact h);·simp[bU h]at hj);have:=oz j hjl;simp only[b9,hC,dL];simp[this,hj]);rw[bf,<-h2]at this;exact this
def qf.first{e:bO}{y:aw}{ys:ah aw}{rt:ah (ah aw)}{v:aL}{O:ax->Prop}{w:aU}(h:qf φ e ((y::ys)::rt) v O w): ∃b cap b0 o0 c0,v=.slice (ai ⟨b,0,au⟩) (ae rt+1) cap/\w.cell? ⟨b,0,au⟩=ai (.slice (ai ⟨b0,o0,au⟩) (ae ys+1) c0)/\(∃u,w.cell? ⟨b0,o0,au⟩=ai u)/\w.frozen? ⟨b0,o0,au⟩=aA/\O b0/\(O b/\b≠b0)/\ ∀x,qf φ e ((x::ys)::rt) v O (w.setCell ⟨b0,o0,au⟩ (.int .i64 x)):=by
 obtain⟨vs,ob,rb,h1,h2,h3,h4,h5⟩:=h;obtain⟨⟨ad,n,cp,a1,a2⟩,a3⟩:=h4 0 (by simp);have Jm:rowAt ((y::ys)::rt) 0=y::ys:=rfl;rw[Jm]at a2
 cases h1 with
 |empty ad=>simp at h2
 |mk b cap C vs hC Aq wi h0 oz=>
  have hl:ae vs=ae rt+1:=by simpa using h2
  generalize hv:U7 ad n cp=sv at a2;generalize LD:(y::ys).map kY.enc=zs at a2;generalize hrb:rb 0=r0 at a2
  cases a2 with
  |empty ad1 z=>simp at LD
  |mk b0 o0 c0 z zs us hc hc0 Qz R8 hvv gM=>
   (have eJ:ae zs=ae ys+1:=by rw[<-LD];simp);have auS:=oz 0 (by omega);rw[a1]at auS;have iS:b≠b0:=λe=>(a3 b0 hrb).2 (by rw[e]);(have hul:ae us=ae zs:=by have:=R8.length;rw[ke Qz,atN]at this;exact this);have WY:=gM.cell (j:=o0) (by have:=eJ;omega);refine⟨b,cap,b0,o0,c0,by rw[<-hl],?_,iM.1 WY.1,WY.2,(a3 b0 hrb).1,⟨h3 b rfl,iS⟩,λx=> ?_⟩;·rw[<-eJ,<-hv];simp[b9,hC,auS]
   .have hbk:∀q,q≠b0->(w.setCell ⟨b0,o0,au⟩ (.int .i64 x)).heap[q]? =w.heap[q]? :=λq hq=>gL _ _ _ _ _ hq;refine⟨vs,ai b,rb,.mk b cap C vs ((hbk b iS).trans hC) Aq wi h0 oz,by rw[h2];rfl,h3,λj hj=> ?_,λi j q hij hj=>h5 i j q hij hj⟩;obtain⟨⟨ad',n',cp',g1,g2⟩,g3⟩:=h4 j hj;refine⟨⟨ad',n',cp',g1,?_⟩,g3⟩
    match j,hj with
    |0,hj=>
     have ait:rowAt ((x::ys)::rt) 0=x::ys:=rfl;rw[a1]at g1;(have aSC:U7 ad' n' cp'=.slice (ai ⟨b0,o0,au⟩) (ae zs) c0:=by rw[<-cA g1];exact hv);rw[ait,aSC,hrb];have hxl:ae ((x::ys).map kY.enc)=ae zs:=by rw[eJ];simp
     cases us with
     |nil=>simp[eJ]at hul
     |cons u0 us=>
      have aEk:dp φ (w.setCell ⟨b0,o0,au⟩ (.int .i64 x)) (λ_=>JW) (.int .i64 x::us) (((x::ys).map kY.enc).flatMap A.cells):=by subst LD;cases R8 with|cons _ _ _ _ hh ht=>exact .cons _ _ _ _ (.int _ _) (ht.mono (λ_ h=>h.elim) λ_ h=>h.elim)
      have:=eL.mk (φ:=φ) (w:=w.setCell ⟨b0,o0,au⟩ (.int .i64 x)) (K:=λ_=>JW) b0 o0 c0 1 ((x::ys).map kY.enc) (.int .i64 x::us) (by rw[hxl];exact hc) hc0 (λy hy=>by obtain⟨z,_,rfl⟩:=dF.1 hy;rfl) aEk (λj u hj=>by
        match j,hj with
        |0,hj=>
         cases hj
         exact aqh _ _ _ WY.1
        |j+1,hj=>
         rw[aqg _ _ _ _ (by simp)]
         exact hvv (j+1) u hj) (K5 gM)
      rw[hxl]at this;exact this
    |j+1,hj=>
     have ait:rowAt ((x::ys)::rt) (j+1)=rowAt ((y::ys)::rt) (j+1):=rfl;rw[ait];exact g2.aiE λq hq=>hbk q λe=>h5 0 (j+1) b0 (by omega) hj hrb (by rw[<-e];exact hq)
end
@[reducible] def FH:ET:=.agg (.cons (.sl (.one (.int .u8))) (.cons (.int .i64) (.cons (.int .u64) .nil)))
def aw4(P:bV)(φ:ax->ax)(S:ax)(e eI:bO)(K:ax->Prop)(x:FH.ty)(v3:aL)(xs:ah (ah aw))(oc:aL)(jx:ah aw)(rK:aL)(w:aU):Prop:=∃(O:ax->Prop) (B:ax) (Tz:aq ax),kE φ w K v3 3 (FH.enc x) [B]/\qf φ e xs oc O w/\LU w eI rK (jx.map (fq .i64)) Tz/\ (∀b,Tz=ai b->¬O b/\S<=b/\b<w.heap.size/\¬K b/\b≠B)/\(∀b,O b->S<=b/\b<w.heap.size/\¬K b/\b≠B)/\(∀b,K b->b<w.heap.size/\b≠B)/\Dv P K w/\S<=B/\B<w.heap.size
def Nst(P:bV)(φ:ax->ax)(S:ax)(e eI:bO)(x:FH.ty)(v3:aL)(xs:ah (ah aw))(oc:aL)(jx:ah aw)(rK:aL)(w:aU):Prop:=∃K,aw4 P φ S e eI K x v3 xs oc jx rK w
section
variable {P:bV} {φ:ax->ax} {S:ax} {e eI:bO} {K:ax->Prop} {x:FH.ty} {v3:aL} {xs:ah (ah aw)} {oc:aL} {jx:ah aw} {rK:aL} {w:aU}
def dK.aaE{w':aU}(hK:∀b,K b->w'.heap[b]? =w.heap[b]?):∀{vs:ah aL} {ab:ah A} {bs:ah ax},dK φ w K vs ab bs->(∀b∈bs,w'.heap[b]? =w.heap[b]?)->dK φ w' K vs ab bs
 |_,_,_,.nil,_=>.nil
 |_,_,_,.cons v a b vs ab bs h t,hb=>by(refine .cons _ _ _ _ _ _ ?_ (dK.aaE hK t λc hc=>hb c (bN _ hc));cases h with|data a h ha=>exact .data _ _ (h.mono hK λ_ h=>h) ha|own z xs b h=>refine .own _ _ _ _ ?_;cases h with|empty ad z=>exact .empty ad z|mk b o cap z xs vs hc h0 Qz hr hv gM=>have eb:=hb b (by simp);exact .mk b o cap z xs vs hc h0 Qz (hr.mono hK λ_ h=>h) (hv.of_block eb) (gM.of_block eb))
def kE.aaE{w':aU}{z:ax}{a:A}{v:aL}{bs:ah ax}(h:kE φ w K v z a bs)(hK:∀b,K b->w'.heap[b]? =w.heap[b]?)(hb:∀b∈bs,w'.heap[b]? =w.heap[b]?):kE φ w' K v z a bs:=by cases h with|mk b o z a vs bs h hv hr hz=>have eb:=hb b (by simp);exact .mk b o z a vs bs (dK.aaE hK h λc hc=>hb c (by simp[hc])) (hv.of_block eb) (hr.of_block eb) hz
def aw4.fI{w':aU}(h:aw4 P φ S e eI K x v3 xs oc jx rK w)(hw:Lo w.heap.size w w'):aw4 P φ S e eI K x v3 xs oc jx rK w':=by
 obtain⟨O,B,Tz,h1,h2,h3,h4,h5,h6,h7,h8,h9⟩:=h;have hs:=hw.size;refine⟨O,B,Tz,h1.aaE (λb hb=>hw.block b (h6 b hb).1) (λb hb=> ?_),h2.fI λc hc=>hw.block c (h5 c hc).2.1,h3.fI λb hb=>hw.block b (h4 b hb).2.2.1,λb hb=> ?_,λb hb=> ?_,λb hb=> ?_,h7.on (λ_ h=>h) λb hb=>hw.block b (h6 b hb).1,h8,by omega⟩;·rw[aT]at hb;subst hb;exact hw.block _ h9
 .obtain⟨a1,a2,a3,a4⟩:=h4 b hb;exact⟨a1,a2,by omega,a4⟩
 .obtain⟨a2,a3,a4⟩:=h5 b hb;exact⟨a2,by omega,a4⟩
 .obtain⟨a3,a4⟩:=h6 b hb;exact⟨by omega,a4⟩
def Nst.fI{w':aU}(h:Nst P φ S e eI x v3 xs oc jx rK w)(hw:Lo w.heap.size w w'):Nst P φ S e eI x v3 xs oc jx rK w':=by obtain⟨K,h⟩:=h;exact⟨K,h.fI hw⟩
def Nst.row(h:Nst P φ S e eI x v3 xs oc jx rK w)(ad:aq afQ):Nst P φ S e eI x v3 xs oc [] (.slice ad 0 0) w:=by obtain⟨K,O,B,Tz,h1,h2,h3,h4,h5⟩:=h;exact⟨K,O,B,au,h1,h2,.empty ad,λb hb=>(by cases hb),h5⟩
def Nst.out(h:Nst P φ S e eI x v3 xs oc jx rK w)(ad:aq afQ):Nst P φ S e eI x v3 [] (.slice ad 0 0) jx rK w:=by obtain⟨K,O,B,Tz,h1,h2,h3,h4,h5,h6⟩:=h;exact⟨K,λ_=>JW,B,Tz,h1,.nil e ad w,h3,λb hb=>⟨λh=>h,(h4 b hb).2⟩,λb hb=>hb.elim,h6⟩
def Nst.lit(h:Nst P φ S e eI x v3 xs oc jx rK w)(C:kZ aL)(t:bO):∃K:ax->Prop,K w.heap.size/\aw4 P φ S e eI K x v3 xs oc jx rK (w.alloc (.cells C t)):=by
 obtain⟨K,h⟩:=h;obtain⟨O0,B0,aLh,g1,g2,g3,g4,g5,g6,g7,g8,g9⟩:=h;have hz:(w.alloc (.cells C t)).heap.size=w.heap.size+1:=by simp
 refine⟨λb=>K b\/b=w.heap.size,.inr rfl,O0,B0,aLh,?_,g2.fI λc hc=>iN _ _ (g5 c hc).2.1,g3.fI λb hb=>iN _ _ (g4 b hb).2.2.1,λb hb=> ?_,λb hb=> ?_,λb hb=> ?_,?_,g8,by omega⟩
 .have:=g1.aaE (w':=w.alloc (.cells C t)) (λb hb=>iN _ _ (g6 b hb).1) λb hb=>by rw[aT]at hb;subst hb;exact iN _ _ g9
  exact this.mono λb hb=>.inl hb
 .obtain⟨a1,a2,a3,a4,a5⟩:=g4 b hb;exact⟨a1,a2,by omega,λhk=>hk.elim a4 (λe=>by omega),a5⟩
 .obtain⟨a2,a3,a4,a5⟩:=g5 b hb;exact⟨a2,by omega,λhk=>hk.elim a4 (λe=>by omega),a5⟩
 .rcases hb with hb|rfl
  .obtain⟨a3,a4⟩:=g6 b hb;exact⟨by omega,a4⟩
  .exact⟨by omega,by omega⟩
 .exact g7.on (λb hb=>.inl hb) λb hb=>iN _ _ (g6 b hb).1
def aw4.call{g:ax}{a:A}{u:aL}{y:aw}{x':FH.ty}(h:aw4 P φ S e eI K x v3 xs oc jx rK w)(hu:gY φ w K u a)(hc:dx P φ g [.iU 3 [FH.enc x],a] [.int .i64 y] [.iU 3 [FH.enc x']])(ha:(∀z xs,a≠ .iU z xs)/\∀z xs,a≠ .l7 z xs): fF P (φ g) #[v3,u] w λr w'=>(r=.returned (.int .i64 y)/\w.heap.size<=w'.heap.size/\Lo S w w'/\Nst P φ S e eI x' v3 xs oc jx rK w')/\∀c,c<w.heap.size->(∀o,v3≠ .pointer (ai ⟨c,o,au⟩))->w'.heap[c]? =w.heap[c]? :=by
 obtain⟨O,B,Tz,h1,h2,h3,h4,h5,h6,h7,h8,h9⟩:=h;have hvB:∃o,v3=.pointer (ai ⟨B,o,au⟩):=by cases h1 with|mk _ o _ _ vs _ _ _ _=>exact⟨o,rfl⟩
 have ui:gy φ w K [v3,u] [.iU 3 [FH.enc x],a] ([B]++([]++ [])):=.cons _ _ _ _ _ _ (.iU _ _ _ _ h1) (.cons _ _ _ _ _ _ (.data _ _ hu) .nil);refine(hc w K [v3,u] [B] ui (by simp) (λb hb=>by rw[aT]at hb;subst hb;exactλhk=>(h6 _ hk).2 rfl) (λb hb=>(h6 b hb).1) h7).mono λr w' ⟨v,he,hb⟩=> ?_;subst he;obtain⟨qQ,K',rb,ob,hv,k1,k2,R8,ho,Jg,hbl⟩:=hb.rest;have Vh:∀c,c<w.heap.size->c≠B->w'.heap[c]? =w.heap[c]? :=λc hc hn=>hb.frame c hc (by simpa using hn);have hK':∀b,K' b->K b\/b=B\/(w.heap.size<=b/\b<w'.heap.size):=λb hb'=>by(rcases k2 b hb' with h|h|h);(·exact .inl h);(·exact .inr (.inl (by simpa using h)));·exact .inr (.inr h)
 have hg:=hb.grow;cases R8 with|cons v0 _ b0 vs0 _ bs0 r1 r2=>cases r2;cases r1 with|data _ r3=>cases r3;refine⟨⟨by rw[hv];rfl,hg,⟨hg,λc hc=>Vh c (by omega) (by omega),hb.env.1,hb.env.2⟩,?_⟩,λc hc hn=>Vh c hc λe=>by obtain⟨o,ho'⟩:=hvB;exact hn o (by rw[ho',e])⟩;cases ho with|data _ _ _ _ _ _ iS _=>exact bG rfl (iS.1 _ _)|iU _ _ _ _ bq _ _ _ bs1 hq ht=>(have hbq:∃bs,bq=B::bs:=by cases h1 with|mk _ o _ _ vs _ _ _ _=>generalize hpv:Value.pointer (ai ⟨B,o,au⟩)=pv at hq;cases hq with|mk b2 o2 _ _ vs2 bs2 _ _ _ _=>cases hpv;exact⟨_,rfl⟩);obtain⟨bs2,rfl⟩:=hbq;(have aKx:bs2=[]:=by(have rh:∀{vs:ah aL} {ab:ah A} {bs:ah ax},dK φ w' K' vs ab bs->(∀z xs,A.own z xs∉ab)->bs=[]:=by intro vs ab bs hcr;induction hcr with|nil=>intro _;rfl|cons v a b vs ab bs h t ih=>intro hn;rw[ih λz xs hm=>hn z xs (bm _ hm)];cases h with|data=>rfl|own z xs b h=>exact bG (cI ..) (hn z xs));generalize hpv:v3=pv at hq;generalize hbb:B::bs2=bb at hq;generalize hxx:FH.enc x'=xx at hq;cases hq with|mk b o z xx vs bs h hv hr hz=>cases hbb;refine rh h λz xs hm=> ?_;obtain⟨x1,x2,x3,⟨⟩⟩:=x';rw[<-hxx]at hm;simp[ET.enc,vq.enc,CT.enc,A.cells]at hm);subst aKx;have hnK:¬K' B:=(hbl B (by simp)).1;(have hd:∀b,b<w.heap.size->¬K b->b≠B->¬K' b:=λb h1 h2 h3 h4=>by(rcases hK' b h4 with h|h|h);(·exact h2 h);(·exact h3 h);·omega);have hG':Dv P K' w':=h7.on k1 λb hb=>Vh b (h6 b hb).1 (h6 b hb).2;refine⟨K',O,B,Tz,hq,h2.fI λc hc=>Vh c (h5 c hc).2.1 (h5 c hc).2.2.2,h3.fI λb hb=>Vh b (h4 b hb).2.2.1 (h4 b hb).2.2.2.2,λb hb=> ?_,λb hb=> ?_,λb hb=> ?_,hG',h8,by omega⟩;(·obtain⟨a1,a2,a3,a4,a5⟩:=h4 b hb;exact⟨a1,a2,by omega,hd b a3 a4 a5,a5⟩);(·obtain⟨a2,a3,a4,a5⟩:=h5 b hb;exact⟨a2,by omega,hd b a3 a4 a5,a5⟩);·refine⟨?_,λe=>hnK (by rw[<-e];exact hb)⟩;(rcases hK' b hb with h|h|h);(·have:=(h6 b h).1;omega);(·omega);·exact h.2
def Nst.call{g:ax}{n y:aw}{x':FH.ty}(h:Nst P φ S e eI x v3 xs oc jx rK w)(hc:dx P φ g [.iU 3 [FH.enc x],.int .i64 n] [.int .i64 y] [.iU 3 [FH.enc x']]): fF P (φ g) #[v3,.int .i64 n] w λr w'=>r=.returned (.int .i64 y)/\w.heap.size<=w'.heap.size/\Lo S w w'/\Nst P φ S e eI x' v3 xs oc jx rK w':=by obtain⟨K,h⟩:=h;exact(h.call (.int _ _) hc ⟨λ_ _ h=>(by cases h),λ_ _ h=>(by cases h)⟩).mono λ_ _ h=>h.1
def Nst.slice(h:Nst P φ S e eI x v3 xs oc jx rK w):∃ad cp,oc=.slice ad (ae xs) cp:=by obtain⟨K,O,B,Tz,h1,h2,_⟩:=h;exact h2.slice
def Nst.first{y:aw}{ys:ah aw}{rt:ah (ah aw)}(h:Nst P φ S e eI x v3 ((y::ys)::rt) oc jx rK w): ∃b cap b0 o0 c0,oc=.slice (ai ⟨b,0,au⟩) (ae rt+1) cap/\w.cell? ⟨b,0,au⟩=ai (.slice (ai ⟨b0,o0,au⟩) (ae ys+1) c0)/\(∃u,w.cell? ⟨b0,o0,au⟩=ai u)/\w.frozen? ⟨b0,o0,au⟩=aA/\S<=b0/\ ∀n,Nst P φ S e eI x v3 ((n::ys)::rt) oc jx rK (w.setCell ⟨b0,o0,au⟩ (.int .i64 n)):=by
 obtain⟨K,O,B,Tz,h1,h2,h3,h4,h5,h6,h7,h8,h9⟩:=h;obtain⟨b,cap,b0,o0,c0,g1,g2,g3,g4,g5,_,g7⟩:=h2.first;have hb0:=h5 b0 g5;refine⟨b,cap,b0,o0,c0,g1,g2,g3,g4,hb0.1,λn=> ?_⟩;have hbk:∀q,q≠b0->(w.setCell ⟨b0,o0,au⟩ (.int .i64 n)).heap[q]? =w.heap[q]? :=λq hq=>gL _ _ _ _ _ hq
 refine⟨K,O,B,Tz,?_,g7 n,h3.fI λq hq=>hbk q λe=>(h4 q hq).1 (e▸g5),λq hq=>by rw[gC];exact h4 q hq,λq hq=>by rw[gC];exact h5 q hq,λq hq=>by rw[gC];exact h6 q hq,
  h7.on (λ_ h=>h) λq hq=>hbk q λe=>hb0.2.2.1 (e▸hq),h8,by rw[gC];exact h9⟩
 refine h1.aaE (λq hq=>hbk q λe=>hb0.2.2.1 (e▸hq)) λq hq=> ?_;rw[aT]at hq;subst hq;exact hbk _ λe=>hb0.2.2.2 e.symm
def Nst.fin(h:Nst P φ S e eI x v3 xs oc jx rK w):gY φ w (λb=>S<=b/\b<w.heap.size) oc (.sl 1 (xs.map nO.enc)):=by obtain⟨K,O,B,Tz,h1,h2,h3,h4,h5,_⟩:=h;exact h2.data λb hb=>⟨(h5 b hb).1,(h5 b hb).2.1⟩
end
section
variable {P:bV} {φ:ax->ax}
def Nst.start{e eI:bO}{x:FH.ty}{g:ax}{a:A}(hc:dx P φ g [a] [.iU 3 [FH.enc x]] []){w:aU}{K:ax->Prop}{v:aL}(hr:gY φ w K v a)(hK:∀b,K b->b<w.heap.size)(hG:Dv P K w): fF P (φ g) #[v] w λr w'=>∃p,r=.returned p/\Lo w.heap.size w w'/\Nst P φ w.heap.size e eI x p [] (.slice au 0 0) [] (.slice au 0 0) w':=by refine(hc w K [v] [] (LW (.cons _ _ _ _ hr .nil)) ib (λ_ h=>by cases h) hK hG).mono λr w' ⟨u,he,hb⟩=> ?_;subst he;obtain⟨qQ,K',rb,ob,hv,k1,k2,R8,ho,Jg,hbl⟩:=hb.rest;have Vh:∀c,c<w.heap.size->w'.heap[c]? =w.heap[c]? :=λc hc=>hb.frame c hc (by simp);cases R8 with|cons v0 _ b0 vs0 _ bs0 r1 r2=>cases r2;generalize hxx: [FH.enc x]=xx at r1;cases r1 with|data _ r3=>cases r3|iU _ x1 bs hq=>cases hxx;have hq2:=hq;generalize hx2:FH.enc x=x2 at hq2;cases hq2 with|mk b o z _ vs bs h rW hr' hz=>(have rh:∀{vs:ah aL} {ab:ah A} {bs:ah ax},dK φ w' K' vs ab bs->(∀z xs,A.own z xs∉ab)->bs=[]:=by intro vs ab bs hcr;induction hcr with|nil=>intro _;rfl|cons v a b vs ab bs h t ih=>intro hn;rw[ih λz xs hm=>hn z xs (bm _ hm)];cases h with|data=>rfl|own z xs b h=>exact bG (cI ..) (hn z xs));(obtain rfl:=rh h λz xs hm=>by obtain⟨x1,x2,x3,⟨⟩⟩:=x;rw[<-hx2]at hm;simp[ET.enc,vq.enc,CT.enc,A.cells]at hm);obtain⟨c1,c2,c3⟩:=hbl b (by simp);have c4:w.heap.size<=b:=c3.resolve_left (by simp);refine⟨_,by rw[hv];rfl,⟨hb.grow,Vh,hb.env.1,hb.env.2⟩,K',λ_=>JW,b,au,hq,.nil e au w',.empty au,λb hb=>(by cases hb),λb hb=>hb.elim,λc hc=>⟨?_,λe=>c1 (e▸hc)⟩,hG.on k1 λb hb=>Vh b (hK b hb),c4,c2⟩;(rcases k2 c hc with h|h|h);(·exact bX (hK c h) hb.grow);(·cases h);·exact h.2
end
section
variable {P:bV} {φ:ax->ax}
def dx.aLk{g:ax}{ab:ah A}{a:A}(hn:ab.any Ga=aA) (h:∀(w:aU) (K:ax->Prop) (vs:ah aL),dp φ w K vs ab->(∀b,K b->b<w.heap.size)->Dv P K w-> fF P (φ g) vs.toArray w λe w'=>∃v,e=.returned v/\Lo w.heap.size w w'/\gY φ w' (λb=>w.heap.size<=b/\b<w'.heap.size) v a):dx P φ g ab [a] []:=by
 intro w K vs bs ha Jg hKb hKz hG;obtain⟨hr,rfl⟩:=ha.am6 hn;refine(h w K vs hr hKz hG).mono λe w' hh=> ?_;obtain⟨v,rfl,hb,h3⟩:=hh;refine⟨_,rfl,hb.size,λb hb' _=>hb.block b hb',⟨hb.os,hb.output⟩,λb off hb'=>kC (hb.block b hb') off,λb n hr=>hr.of_block (hb.block b hr.lt),?_⟩
 exact⟨[v],λb=>K b\/(w.heap.size<=b/\b<w'.heap.size),[],[],rfl,λ_ h=>.inl h,λ_ h=>h.elim .inl λh=>.inr (.inr h),
  gz.ml (.cons _ _ _ _ (h3.mono (λ_ _=>rfl) λ_ h=>.inr h) .nil),jF.RT ha.len hn,by simp,λb hb'=>by simp at hb'⟩
end
end Go.Ab
namespace Go.Lib
variable {P:bV}
def aqa{z:aL}(h1:∀v∈z.cells.toList,v.oneCell'=aB)(n:ax):∀v∈(cG z.cells n).toList,v.oneCell'=aB:=by
 intro v hv;simp only[cG,Array.toList_map,dF]at hv;obtain⟨i,hi,rfl⟩:=hv;have Vj:i<n*z.cells.size:=by simpa using hi
 have asp:0<z.cells.size:=by(rcases Nat.eq_zero_or_pos z.cells.size with e|e);(·rw[e]at Vj;omega);·exact e
 have dE:i%z.cells.size<z.cells.size:=Nat.mod_lt _ asp;rw[getElem!_pos z.cells _ dE];exact h1 _ (by simp)
def aho(w:aU)(t e ty:bO)(z:aL)(k:ax)(ht:P.underlying t=ai (.slice e))(hv:∀w,(zeroValue e).run P w=.ok z w)(hz:z.cells.size=k)(h1:∀v∈z.cells.toList,v.oneCell'=aB)(b o n c:ax)(hn:0<n) (hc:∀j,j<n*k->(w.cell? ⟨b,o+j,au⟩).isSome=aB) (hf:∀j,j<n*k->w.frozen? ⟨b,o+j,au⟩=aA): (aCZ #[t] ty #[.slice (ai ⟨b,o,au⟩) n c]).run P w=.ok (.tuple #[]) (w.setCells b o (cG z.cells n).toList):=by
 have hl:(cG z.cells n).toList.length=n*k:=by rw[ai4,aDd,hz]
 have hst:=run_storeCells_cells (P:=P) b o (cG z.cells n).toList 0 w (by simpa[hl]using hc) (by simpa[hl]using hf) (aqa h1 n);simp only[Nat.add_zero]at hst;obtain⟨m,rfl⟩:∃m,n=m+1:=⟨n-1,by omega⟩;simp[aCZ,jN ht,hv,hst]
def ahp(w:aU)(tS tR e:bO)(ht:P.underlying tS=ai (.slice e))(size:ax)(hz:∀w,(aIW e).run P w=.ok size w) (a b:afQ) (la ca lb cb:ax) (iS:a.block≠b.block) (tA tB:bO) (kA kB:ax) (hsa:w.shape? a.block=ai (tA,kA)) (hsb:w.shape? b.block=ai (tB,kB)) (hkA:kA≠0) (hfb:w.frozen? b=aA) (hfe:w.frozen? {block:=b.block,off:=kB}=aA): (yU #[tS,tS] #[tR] #[.slice (ai a) la ca,.slice (ai b) lb cb]).run P w=.ok (.bool aA) w:=by
 have hnb:(a.block !=b.block)=aB:=by simpa using iS
 have aR2:(a.block==b.block)=aA:=by simpa using iS
 change Sem.run P (α:=aL) (do
  let ai t:=(#[tS,tS]:kZ bO)[0]? |stuck "slices.overlaps: no parameter types"
  let .slice elem←underlying t|stuck "slices.overlaps: slice type expected"
  let size<-sizeOf elem
  match(ai a:aq afQ),(ai b:aq afQ)with
  |some a,ai b=>
   if la=0\/lb=0\/size=0 then pure (apd aA)
   else if a.block !=b.block&&(<-frozen a)&&(<-frozen b)then unsupported .addressObserved
   else do
    if a.block !=b.block then do
     noView a;noView b
     if←mayBeOne a b then return apd ((←choose (.extern "sameAddr.stringBytes" 2))==1)
    pure (apd (a.block==b.block&&a.off<b.off+lb*size&&b.off<a.off+la*size))
  |_,_=>pure (apd aA)) w=_
 by_cases h0:la=0\/lb=0\/size=0;·simp[jN ht,hz,h0]
 .cases kA with|zero=>exact bG rfl hkA|succ kA=>simp[jN ht,hz,h0,hnb,aR2,frozen,noView,viewAt,mayBeOne,stringish,shape,Sem.run,hsa,hsb,hfb,hfe]
end Go.Lib
namespace Go.Ab
section
variable {P:bV}
def BS(w:aU)(dT sT ty elem:bO)(b o aNf aQm:ax)(a:afQ)(aOO aTy:ax)(cs:ah aL)(z k:ax) (hu:P.underlying dT=ai (.slice elem)) (hs:(P.info? elem).map (·.size)=ai z) (hk:Nat.min aOO aNf=k) (hn:ae cs=k*z) (aK0:∀j v,cs[j]? =ai v->w.cell? (a.add j)=ai v) (hc:∀j,j<ae cs->(w.cell? ⟨b,o+j,au⟩).isSome=aB) (hf:∀j,j<ae cs->w.frozen? ⟨b,o+j,au⟩=aA) (h1:∀v∈cs,v.oneCell'=aB): (oe #[dT,sT] ty #[.slice (ai ⟨b,o,au⟩) aNf aQm,.slice (ai a) aOO aTy]).run P w=.ok (goInt k) (w.setCells b o cs):=by have hl:=run_loadCells_list (P:=P) w a cs aK0;have hst:=run_storeCells_cells (P:=P) b o cs 0 w (by simpa using hc) (by simpa using hf) h1;cases hq:P.info? elem with|none=>simp[hq]at hs|some i=>(have hi:i.size=z:=by simpa[hq]using hs);simp[oe,jN hu,Builtin.lenOf,uo,sizeOf,typeInfo,hq,hi,hk,<-hn,hl,hst]
end
structure kF(b:ax)(w w':aU):Prop where
 size:w.heap.size<=w'.heap.size
 block:∀q,q<w.heap.size->q≠b->w'.heap[q]? =w.heap[q]?
 os:w'.os=w.os
 output:w'.output=w.output
 fr:∀q off,q<w.heap.size->w'.frozen? ⟨q,off,au⟩=w.frozen? ⟨q,off,au⟩
 room:∀{z:ax} q n,hZ z w q n->hZ z w' q n
def kF.refl(b:ax)(w:aU):kF b w w:=⟨bx _,λ_ _ _=>rfl,rfl,rfl,λ_ _ _=>rfl,λ_ _ h=>h⟩
def kF.drew{b:ax}{w w1:aU}(h:kF b w w1):kF b w w1.drew:=⟨h.size,h.block,h.os,h.output,h.fr,h.room⟩
def kF.alloc{b:ax}{w w1:aU}(h:kF b w w1)(o:Obj):kF b w (w1.alloc o):=by
 have hs:(w1.alloc o).heap.size=w1.heap.size+1:=by simp
 have hb:∀q,q<w1.heap.size->(w1.alloc o).heap[q]? =w1.heap[q]? :=λq hq=>iN _ _ hq
 exact⟨by have:=h.size;omega,λq hq hn=>(hb q (bX hq h.size)).trans (h.block q hq hn),h.os,h.output,λq off hq=>(frozen?_of_block (hb q (bX hq h.size)) off).trans (h.fr q off hq),
  λq n hr=>have Zx:=h.room q n hr;Zx.of_block (hb q Zx.lt)⟩
def ji{z:ax}{b:ax}:∀(vs:ah aL) (o:ax) (w:aU) {q n:ax},hZ z w q n->hZ z (w.setCells b o vs) q n | [],_,_,_,_,h=>h |v::vs,o,w,_,_,h=>ji vs (o+1) _ (K5 h)
def Nc(b:ax):∀(vs:ah aL) (o:ax) (w:aU) (q:ax),q≠b->(w.setCells b o vs).heap[q]? =w.heap[q]? | [],_,_,_,_=>rfl |v::vs,o,w,q,h=>(Nc b vs (o+1) _ q h).trans (gL _ _ _ _ _ h)
def HQ(b:ax):∀(vs:ah aL) (o:ax) (w:aU),(w.setCells b o vs).heap.size=w.heap.size | [],_,_=>rfl |v::vs,o,w=>(HQ b vs (o+1) _).trans (gC _ _ _)
def Uu(b:ax):∀(vs:ah aL) (o:ax) (w:aU),(w.setCells b o vs).os=w.os/\(w.setCells b o vs).output=w.output | [],_,_=>⟨rfl,rfl⟩ |v::vs,o,w=>Uu b vs (o+1) _
def kF.setCells{b b':ax}{w w1:aU}(h:kF b w w1)(hb:b'=b\/w.heap.size<=b')(o:ax)(vs:ah aL):kF b w (w1.setCells b' o vs):=
 ⟨by rw[HQ];exact h.size,λq hq hn=>(Nc _ _ _ _ _ (by omega)).trans (h.block q hq hn),(Uu _ _ _ _).1.trans h.os,(Uu _ _ _ _).2.trans h.output,
   λq off hq=>(World.frozen?_setCells _ _ _ _ _).trans (h.fr q off hq),λq n hr=>ji _ _ _ (h.room q n hr)⟩
structure uq(P:bV)(fn z:ax):Prop where
 en:lA P fn
 nil:∀(ad:aq afQ) (va vo vc:ax) (xs:ah aL) (w:aU),ae xs=z->dw w va vo xs->(∀v∈xs,v.oneCell'=aB)->va<w.heap.size->
  fF P fn #[.slice ad 0 0,.int .i64 0,.slice (ai ⟨va,vo,au⟩) 1 vc] w λe w'=>∃b' cp,e=.returned (.slice (ai ⟨b',0,au⟩) 1 cp)/\1<=cp/\w.heap.size<=b'/\b'<w'.heap.size/\dw w' b' 0 xs/\hZ z w' b' (cp*z)/\kF w.heap.size w w'
 run:∀(b o n c i va vo vc:ax) (cs xs:ah aL) (w:aU),c≠0->n<=c->i<=n->n+1<1099511627776->ae cs=n*z->dw w b o cs->hZ z w b (o+c*z)->ae xs=z->dw w va vo xs->va≠b->(∀v∈cs,v.oneCell'=aB)->(∀v∈xs,v.oneCell'=aB)->va<w.heap.size->
  (∃e k,w.shape? va=ai (e,k)/\k≠0)->
  fF P fn #[.slice (ai ⟨b,o,au⟩) n c,.int .i64 i,.slice (ai ⟨va,vo,au⟩) 1 vc] w λe w'=>∃b' o' cp,e=.returned (.slice (ai ⟨b',o',au⟩) (n+1) cp)/\n+1<=cp/\(b'=b\/w.heap.size<=b'/\b'<w'.heap.size)/\
   dw w' b' o' (cs.take (i*z)++xs++cs.drop (i*z))/\hZ z w' b' (o'+cp*z)/\kF b w w'
section
variable {P:bV}
def auM{w:aU}{e:bO}{t:bO}{i:WJ}(ht:P.underlying t=ai (.slice e))(hi:P.info? e=ai i){z:ax}(hz:i.size=z){zv:aL}(hzv:i.zero=ai zv)(hzs:zv.cells.size=z) (hb:i.bytes<=128) {base:aq afQ} {n c va vo vc:ax} {cs xs:ah aL} (hn:n+1<1099511627776) (hl:ae cs=n*z) (hx:ae xs=z) (hs:Src P i.size t (.slice (ai ⟨va,vo,au⟩) 1 vc) 1 xs w) (dE:c<n+1) (adu:(uo i.size n (.slice base n c)).run P w.drew=.ok cs.toArray w.drew) (ty:bO) (b:ax): ∃cp w',(fH #[t,t] ty #[.slice base n c,.slice (ai ⟨va,vo,au⟩) 1 vc]).run P w=.ok (.slice (ai ⟨w.heap.size,0,au⟩) (n+1) cp) w'/\n+1<=cp/\w.heap.size<w'.heap.size/\dw w' w.heap.size 0 (cs++xs)/\hZ z w' w.heap.size (cp*z)/\kF b w w':=by
 have aD5:atZ (n+1) c*i.bytes<=281474976710656:=aJ5 dE (by have:=afU (show n+1<=1099511627776 by omega) hb;omega);have jn:=run_append_grow_src (P:=P) w t t ty e i zv ht hi hzv base n c cs adu (.slice (ai ⟨va,vo,au⟩) 1 vc) 1 xs hs dE (by omega) aD5;have hge:=grownCap_ge w (n+1) c e;have hh:(w.drew.alloc (.cells ((cs++xs).toArray++cG zv.cells (rP w (n+1) c e-(n+1))) e)).heap= w.heap.push (.cells ((cs++xs).toArray++cG zv.cells (rP w (n+1) c e-(n+1))) e):=rfl;have hcp:=uw hh;have htl:((cs++xs).toArray++cG zv.cells (rP w (n+1) c e-(n+1))).toList=(cs++xs)++(cG zv.cells (rP w (n+1) c e-(n+1))).toList:=by simp
 rw[htl]at hcp;have Aq:((cs++xs).toArray++cG zv.cells (rP w (n+1) c e-(n+1))).size=rP w (n+1) c e*z:=by rw[Tu,aDd,hzs];simp only[aqk,bg,hl,hx];rw[show n*z+z=(n+1)*z by rw[eK],<-V3];congr 1;omega
 refine⟨_,_,jn,hge,by rw[hh];simp,hcp.left,hZ.le (by rw[Aq];exact bx _) (He hh),?_⟩;exact((kF.refl b w).drew).alloc _
def az8{w:aU}{t e:bO}(ht:P.underlying t=ai (.slice e)){z va vo vc:ax}{xs:ah aL}(hx:ae xs=z)(hc:dw w va vo xs)(h1:∀v∈xs,v.oneCell'=aB):Src P z t (.slice (ai ⟨va,vo,au⟩) 1 vc) 1 xs w:=
 aGM w ht ⟨va,vo,au⟩ 1 vc xs (by rw[hx,Nat.one_mul]) (λj u hj=>by rw[World.nf];exact hc j u hj) h1
def aHy{w:aU}{e:bO}{t:bO}{i:WJ}(ht:P.underlying t=ai (.slice e))(hi:P.info? e=ai i){z:ax}(hz:i.size=z){zv:aL}(hzv:i.zero=ai zv)(hzs:zv.cells.size=z) (hb:i.bytes<=128) {ad:aq afQ} {va vo vc:ax} {xs:ah aL} (hx:ae xs=z) (hc:dw w va vo xs) (h1:∀v∈xs,v.oneCell'=aB) (ty:bO): ∃cp w',(fH #[t,t] ty #[.slice ad 0 0,.slice (ai ⟨va,vo,au⟩) 1 vc]).run P w=.ok (.slice (ai ⟨w.heap.size,0,au⟩) 1 cp) w'/\1<=cp/\w.heap.size<w'.heap.size/\dw w' w.heap.size 0 xs/\hZ z w' w.heap.size (cp*z)/\kF w.heap.size w w':=by
 have adu:(uo i.size 0 (.slice ad 0 0)).run P w.drew=.ok ([]:ah aL).toArray w.drew:=by cases ad with|none=>exact run_firstCells_none w.drew i.size 0 0 0|some ad=>exact Ak w.drew i.size 0 ad 0 0 [] (by simp) (λj u h=>by simp at h)
 obtain⟨cp,w',q⟩:=auM (vc:=vc) (n:=0) (c:=0) (cs:=[]) (base:=ad) ht hi hz hzv hzs hb (by omega) (by simp) hx (by rw[hz];exact az8 ht hx hc h1) (by omega) adu ty w.heap.size;exact⟨cp,w',q⟩
def aHx{w:aU}{e:bO}{t:bO}{i:WJ}(ht:P.underlying t=ai (.slice e))(hi:P.info? e=ai i){z:ax}(hz:i.size=z){zv:aL}(hzv:i.zero=ai zv)(hzs:zv.cells.size=z) (hb:i.bytes<=128) {b o n c va vo vc:ax} {cs xs:ah aL} (hnc:n<=c) (hn:n+1<1099511627776) (hl:ae cs=n*z) (oz:dw w b o cs) (hr:hZ z w b (o+c*z)) (hx:ae xs=z) (hc:dw w va vo xs) (h1:∀v∈xs,v.oneCell'=aB) (ty:bO): ∃b' o' cp w',(fH #[t,t] ty #[.slice (ai ⟨b,o,au⟩) n c,.slice (ai ⟨va,vo,au⟩) 1 vc]).run P w=.ok (.slice (ai ⟨b',o',au⟩) (n+1) cp) w'/\n+1<=cp/\(b'=b\/w.heap.size<=b'/\b'<w'.heap.size)/\dw w' b' o' (cs++xs)/\hZ z w' b' (o'+cp*z)/\kF b w w':=by
 have hs:=az8 (vc:=vc) ht hx hc h1;by_cases gM:n+1<=c
 .have wi:n*z+z<=c*z:=by rw[<-eK];exact dh _ gM
  have asp:∀j,j<ae xs->(w.cell? ⟨b,o+n*i.size+j,au⟩).isSome=aB/\w.frozen? ⟨b,o+n*i.size+j,au⟩=aA:=λj hj=>hr.cell (by rw[hz];omega);have jn:=run_append_room_src (P:=P) w t t ty e i ht hi b o n c (.slice (ai ⟨va,vo,au⟩) 1 vc) 1 xs (by rw[hz];exact hs) gM (λj hj=>(asp j hj).1) (λj hj=>(asp j hj).2);refine⟨b,o,c,_,jn,gM,.inl rfl,?_,ji _ _ _ hr,(kF.refl b w).setCells (.inl rfl) _ _⟩;rw[hz];refine dw.append (λj v hj=> ?_) (λj v hj=> ?_);·(have hjl:j<ae cs:=by(rcases bL j (ae cs)with h|h);(·exact h);·simp[bU h]at hj);rw[TC b xs _ w ⟨b,o+j,au⟩ (λ_ _=>.inl (by simp;omega))];exact oz j v hj
  ·(have hjl:j<ae xs:=by(rcases bL j (ae xs)with h|h);(·exact h);·simp[bU h]at hj);rw[hl,awG b xs (o+n*z) w (λj hj=>by have:=(asp j hj).1;rwa[hz]at this) j hjl,<-hj];simp
 .obtain⟨cp,w',q1,q2,q3,q4,q5,q6⟩:=auM (base:=ai ⟨b,o,au⟩) (n:=n) (c:=c) (cs:=cs) ht hi hz hzv hzs hb hn hl hx (by rw[hz];exact hs) (by omega) (Ak w.drew i.size n ⟨b,o,au⟩ n c cs (by rw[hl,hz]) (λj u hj=>by rw[World.nf];exact oz j u hj)) ty b;exact⟨w.heap.size,0,cp,w',q1,q2,.inr ⟨bx _,q3⟩,q4,by rw[dL];exact q5,q6⟩
end
def ayn{z:ax}{w:aU}{b o k m:ax}(h:hZ z w b m)(hk:o+k<=m):∃ex:ah aL,ae ex=k/\dw w b o ex:=by
 obtain⟨C,e,fr,h1,h2,h3⟩:=h;refine⟨(C.toList.drop o).take k,by simp;omega,λj v hj=> ?_⟩;rw[sq]at hj;split at hj;·rw[FD,rL]at hj;simp only[b9,h1];exact hj
 .cases hj
def aBj{n i z:ax}{cs ex xs:ah aL}(hi:i<n)(hl:ae cs=n*z)(hx:ae xs=z)(he:ae ex=z): (((cs++ex).take ((i+1)*z)++cs.drop (i*z)++(cs++ex).drop ((i+1)*z+ae (cs.drop (i*z)))).take (i*z)++xs++((cs++ex).take ((i+1)*z)++cs.drop (i*z)++(cs++ex).drop ((i+1)*z+ae (cs.drop (i*z)))).drop (i*z+ae xs))=cs.take (i*z)++xs++cs.drop (i*z):=by
 have h1:i*z<=n*z:=dh _ (by omega);have h2:(i+1)*z<=n*z:=dh _ (by omega);have h3:(i+1)*z=i*z+z:=eK _ _;have e1:(cs++ex).drop ((i+1)*z+ae (cs.drop (i*z)))=[]:=br (by rw[bg,dR];omega);have e2:(cs++ex).take ((i+1)*z)=cs.take ((i+1)*z):=by rw[nE (by omega)]
 rw[e1,e2,cD,hx];have e3:ae (cs.take ((i+1)*z))=(i+1)*z:=by rw[cO];omega
 have e4:(cs.take ((i+1)*z)++cs.drop (i*z)).take (i*z)=cs.take (i*z):=by rw[nE (by omega),List.take_take];congr 1;omega
 have e5:(cs.take ((i+1)*z)++cs.drop (i*z)).drop (i*z+z)=cs.drop (i*z):=by rw[On,br (by omega),cJ,e3];rw[show i*z+z-(i+1)*z=0 by omega,cL]
 rw[e4,e5]
def aBk{w:aU}{b o n c i z:ax}{cs xs:ah aL}(hi:i<n)(gM:n+1<=c)(hl:ae cs=n*z)(oz:dw w b o cs)(hr:hZ z w b (o+c*z))(hx:ae xs=z): dw ((w.setCells b (o+(i+1)*z) (cs.drop (i*z))).setCells b (o+i*z) xs) b o (cs.take (i*z)++xs++cs.drop (i*z)):=by
 have wi:(n+1)*z<=c*z:=dh _ gM;have h4:(n+1)*z=n*z+z:=eK _ _;have h3:(i+1)*z=i*z+z:=eK _ _;have h1:i*z+z<=n*z:=by rw[<-h3];exact dh _ (by omega)
 obtain⟨ex,he,hex⟩:=ayn (o:=o+n*z) (k:=z) hr (by omega);have h0:dw w b o (cs++ex):=oz.append (by rw[hl];exact hex);have Zu:ae (cs.drop (i*z))=n*z-i*z:=by rw[dR,hl]
 have w1:=dw.write (news:=cs.drop (i*z)) (c:=(i+1)*z) h0 (hr.le (by rw[bg,hl,he];omega)) (by rw[bg,hl,he,Zu];omega);have w2:=dw.write (news:=xs) (c:=i*z) w1 ((ji _ _ _ hr).le (by simp only[bg,cO,dR,hl,he];omega)) (by simp only[bg,cO,dR,hl,he,hx];omega);rw[aBj hi hl hx he]at w2;exact w2
def aBu{w:aU}{N n i z:ax}{cs xs zs:ah aL}{m:ax}(hi:i<n)(hl:ae cs=n*z)(hx:ae xs=z)(hzs:ae zs=(n+1-i)*z)(h0:dw w N 0 (cs.take (i*z)++zs))(hr:hZ z w N m)(hm:(n+1)*z<=m): dw ((w.setCells N (i*z) xs).setCells N ((i+1)*z) (cs.drop (i*z))) N 0 (cs.take (i*z)++xs++cs.drop (i*z)):=by
 have h3:(i+1)*z=i*z+z:=eK _ _;have h4:(n+1)*z=n*z+z:=eK _ _;have h1:i*z+z<=n*z:=by rw[<-h3];exact dh _ (by omega)
 have hz1:(n+1-i)*z=n*z+z-i*z:=by rw[Az,h4]
 have htl:ae (cs.take (i*z))=i*z:=by rw[cO];omega
 have Zu:ae (cs.drop (i*z))=n*z-i*z:=by rw[dR,hl]
 have w1:=dw.write (news:=xs) (c:=i*z) h0 (hr.le (by rw[bg,htl,hzs];omega)) (by rw[bg,htl,hzs,hx];omega);rw[dL]at w1;have e1:(cs.take (i*z)++zs).take (i*z)++xs++(cs.take (i*z)++zs).drop (i*z+ae xs)=cs.take (i*z)++xs++zs.drop z:=by rw[hx,nE (by omega),cH (by omega),On,br (by omega),cJ,htl];congr 2;omega
 rw[e1]at w1;have w2:=dw.write (news:=cs.drop (i*z)) (c:=(i+1)*z) w1 ((ji _ _ _ hr).le (by simp only[bg,htl,hx,dR,hzs];omega)) (by simp only[bg,htl,hx,dR,hzs,hl];omega);rw[dL]at w2;have e2:(cs.take (i*z)++xs++zs.drop z).take ((i+1)*z)=cs.take (i*z)++xs:=by rw[nE (by rw[bg,htl,hx];omega),cH (by rw[bg,htl,hx];omega)]
 have e3:(cs.take (i*z)++xs++zs.drop z).drop ((i+1)*z+ae (cs.drop (i*z)))=[]:=br (by simp only[bg,htl,hx,dR,hzs,hl];omega);rw[e2,e3,cD]at w2;exact w2
structure abc(P:bV)(z tS tE tI tB ov:ax)(zv:aL):Prop where
 hS:P.underlying tS=ai (.slice tE)
 hI:P.underlying tI=ai (.int .i64)
 info:∃i,P.info? tE=ai i/\i.zero=ai zv/\i.size=z/\i.bytes<=128
 hc:zv.cells.size=z
 h0:1<z
 ho:∀args w,(callFunc ov args).run P w=((yU #[tS,tS] #[tB] args).run P w).andThen λv w'=>.ok (.value v) w'
section
variable {P:bV} {z tS tE tI tB ov:ax} {zv:aL}
def abc.mk'(hS:P.underlying tS=ai (.slice tE))(hI:P.underlying tI=ai (.int .i64))(h:(P.info? tE).map (λi=>(i.zero,i.size,ao (i.bytes<=128)))=ai (ai zv,z,aB))(hc:zv.cells.size=z)(h0:1<z) {fn:Func} (hf:P.funcs[ov]? =ai fn) (h1:(fn.name== "runtime.NumGoroutine")=aA) (h2:fn.body.isNone=aB) (h3:Extern.findNext fn=au) (h4:Extern.find fn=ai (yU #[tS,tS] #[tB])):abc P z tS tE tI tB ov zv:=by obtain⟨i,hi,he⟩:=aM.1 h;simp only[bS]at he;exact⟨hS,hI,⟨i,hi,he.1,he.2.1,dY he.2.2⟩,hc,h0,run_callFunc_extern hf h1 h2 h3 h4⟩
def abc.room(T:abc P z tS tE tI tB ov zv){b o n c i va vo vc:ax}{cs xs:ah aL}{w:aU}(dE:i<n)(gM:n+1<=c)(hn:n+1<1099511627776)(hl:ae cs=n*z)(oz:dw w b o cs)(hr:hZ z w b (o+c*z)) (hx:ae xs=z) (hc:dw w va vo xs) (iS:va≠b) (h1c:∀v∈cs,v.oneCell'=aB) (h1:∀v∈xs,v.oneCell'=aB) (hva:va<w.heap.size) (hsh:∃e k,w.shape? va=ai (e,k)/\k≠0): (∀lb cb,(callFunc ov #[.slice (ai ⟨va,vo,au⟩) 1 vc,.slice (ai ⟨b,o+(i+1)*z,au⟩) lb cb]).run P w=.ok (.value (.bool aA)) w)/\ (∀ty dc sc,(oe #[tS,tS] ty #[.slice (ai ⟨b,o+(i+1)*z,au⟩) (n-i) dc,.slice (ai ⟨b,o+i*z,au⟩) (n+1-i) sc]).run P w.drew=.ok (goInt ((n-i:ax):aw)) (w.drew.setCells b (o+(i+1)*z) (cs.drop (i*z))))/\ (∀ty dc,(oe #[tS,tS] ty #[.slice (ai ⟨b,o+i*z,au⟩) (n+1-i) dc,.slice (ai ⟨va,vo,au⟩) 1 vc]).run P (w.drew.setCells b (o+(i+1)*z) (cs.drop (i*z)))=.ok (goInt 1) ((w.drew.setCells b (o+(i+1)*z) (cs.drop (i*z))).setCells b (o+i*z) xs))/\ dw ((w.drew.setCells b (o+(i+1)*z) (cs.drop (i*z))).setCells b (o+i*z) xs) b o (cs.take (i*z)++xs++cs.drop (i*z))/\ hZ z ((w.drew.setCells b (o+(i+1)*z) (cs.drop (i*z))).setCells b (o+i*z) xs) b (o+c*z)/\ kF b w ((w.drew.setCells b (o+(i+1)*z) (cs.drop (i*z))).setCells b (o+i*z) xs):=by
 obtain⟨iE,hi,hz0,Aq,hby⟩:=T.info;have h0:=T.h0;have aEs:(P.info? tE).map (·.size)=ai z:=by rw[hi];simp[Aq]
 have hzE:∀w,(aIW tE).run P w=.ok z w:=λw=>by simp[aIW,typeInfo,hi,Aq]
 have Zu:ae (cs.drop (i*z))=(n-i)*z:=by rw[dR,hl,Az]
 have h1d:∀v∈cs.drop (i*z),v.oneCell'=aB:=λv hv=>h1c v (dk hv);have wi:(n+1)*z<=c*z:=dh _ gM;have h4:(n+1)*z=n*z+z:=eK _ _;have h3:(i+1)*z=i*z+z:=eK _ _;have h5:(n-i)*z=n*z-i*z:=Az _ _ _;have h6:i*z+z<=n*z:=by rw[<-h3];exact dh _ (by omega)
 obtain⟨tA,kA,hsa,hkA⟩:=hsh;obtain⟨C,eC,frC,g1,g2,g3⟩:=id hr;have hsb:w.shape? b=ai (eC,C.size):=by simp[aJ4,g1]
 have aKQ:o+(i+1)*z<C.size:=by rw[h3];clear h5 Zu;omega
 have aA9:dw w.drew b o cs:=λj v hj=>oz j v hj;have WY:hZ z w.drew b (o+c*z):=hr;have hT1:kF b w (w.drew.setCells b (o+(i+1)*z) (cs.drop (i*z))):=((kF.refl b w).drew).setCells (.inl rfl) _ _;have Zx:hZ z (w.drew.setCells b (o+(i+1)*z) (cs.drop (i*z))) b (o+c*z):=ji _ _ _ WY;have hx1:dw (w.drew.setCells b (o+(i+1)*z) (cs.drop (i*z))) va vo xs:=hc.of_block (hT1.block va hva iS);refine⟨λlb cb=> ?_,λty dc sc=> ?_,λty dc=> ?_,aBk dE gM hl aA9 WY hx,ji _ _ _ Zx,hT1.setCells (.inl rfl) _ _⟩;·rw[T.ho,Go.Lib.ahp w tS tB tE T.hS z hzE ⟨va,vo,au⟩ ⟨b,o+(i+1)*z,au⟩ 1 vc lb cb iS tA eC kA C.size hsa hsb hkA (g3 _ (.inl aKQ)) (g3 _ (.inr ⟨rfl,by omega⟩))];rfl
 .exact BS w.drew _ _ ty tE b (o+(i+1)*z) (n-i) dc ⟨b,o+i*z,au⟩ (n+1-i) sc (cs.drop (i*z)) z (n-i) T.hS aEs (by simp only[ao1];split<;>omega) Zu (λj v hj=>by rw[World.nf];exact(aA9.drop (i*z)) j v hj) (λj hj=>(WY.cell (by omega)).1) (λj hj=>(WY.cell (by omega)).2) h1d
 .exact BS _ _ _ ty tE b (o+i*z) (n+1-i) dc ⟨va,vo,au⟩ 1 vc xs z 1 T.hS aEs (by simp only[ao1];split<;>omega) (by omega) (λj v hj=>by rw[World.nf];exact hx1 j v hj) (λj hj=>(Zx.cell (by omega)).1) (λj hj=>(Zx.cell (by omega)).2) h1
def abc.grow(T:abc P z tS tE tI tB ov zv){b o n c i va vo vc:ax}{cs xs:ah aL}{w:aU}(dE:i<n)(gM:¬n+1<=c)(hnc:n<=c)(hn:n+1<1099511627776)(hl:ae cs=n*z)(oz:dw w b o cs)(hr:hZ z w b (o+c*z)) (hx:ae xs=z) (hc:dw w va vo xs) (iS:va≠b) (h1c:∀v∈cs,v.oneCell'=aB) (h1:∀v∈xs,v.oneCell'=aB) (hva:va<w.heap.size): ∃(W1:aU) (G:ax),(∀ty,(fH #[tS,tI] ty #[.slice (ai ⟨b,o,au⟩) i c,.int .i64 ((n:aw)+1-(i:aw))]).run P w=.ok (.slice (ai ⟨w.heap.size,0,au⟩) (n+1) G) W1)/\n+1<=G/\ (∀ty dc,(oe #[tS,tS] ty #[.slice (ai ⟨w.heap.size,i*z,au⟩) (n+1-i) dc,.slice (ai ⟨va,vo,au⟩) 1 vc]).run P W1=.ok (goInt 1) (W1.setCells w.heap.size (i*z) xs))/\ (∀ty dc sc,(oe #[tS,tS] ty #[.slice (ai ⟨w.heap.size,(i+1)*z,au⟩) (n+1-(i+1)) dc,.slice (ai ⟨b,o+i*z,au⟩) (n-i) sc]).run P (W1.setCells w.heap.size (i*z) xs).drew=.ok (goInt ((n-i:ax):aw)) ((W1.setCells w.heap.size (i*z) xs).drew.setCells w.heap.size ((i+1)*z) (cs.drop (i*z))))/\ w.heap.size<((W1.setCells w.heap.size (i*z) xs).drew.setCells w.heap.size ((i+1)*z) (cs.drop (i*z))).heap.size/\ dw ((W1.setCells w.heap.size (i*z) xs).drew.setCells w.heap.size ((i+1)*z) (cs.drop (i*z))) w.heap.size 0 (cs.take (i*z)++xs++cs.drop (i*z))/\ hZ z ((W1.setCells w.heap.size (i*z) xs).drew.setCells w.heap.size ((i+1)*z) (cs.drop (i*z))) w.heap.size (0+G*z)/\ kF b w ((W1.setCells w.heap.size (i*z) xs).drew.setCells w.heap.size ((i+1)*z) (cs.drop (i*z))):=by
 obtain⟨iE,hi,hz0,Aq,hby⟩:=T.info;have h0:=T.h0;have hbw:b<w.heap.size:=hr.lt;have aEs:(P.info? tE).map (·.size)=ai z:=by rw[hi];simp[Aq]
 have Zu:ae (cs.drop (i*z))=(n-i)*z:=by rw[dR,hl,Az]
 have h1d:∀v∈cs.drop (i*z),v.oneCell'=aB:=λv hv=>h1c v (dk hv);have hzc:∀k,(cG zv.cells k).size=k*z:=λk=>by rw[aDd,T.hc]
 have tT:i*z+z<=n*z:=by rw[<-eK];exact dh _ (by omega)
 have adu:(uo iE.size i (.slice (ai ⟨b,o,au⟩) i c)).run P w.drew=.ok (cs.take (i*z)).toArray w.drew:=by rw[Aq];exact Ak w.drew z i ⟨b,o,au⟩ i c (cs.take (i*z)) (by rw[cO];omega) (λj v hj=>by rw[World.nf];exact(oz.take (i*z)) j v hj)
 have hik:i+(n+1-i)=n+1:=by omega
 have hkk:(n:aw)+1-(i:aw)=((n+1-i:ax):aw):=by omega
 have hk1:(n+1-i)*iE.bytes<=281474976710656:=by have:=afU (show n+1-i<=1099511627776 by omega) hby;omega
 have hrz:=λty=>Go.Lib.run_append_grow_zeros w tS tI ty tE iE _ .i64 .i64 T.hS T.hI hi hz0 (ai ⟨b,o,au⟩) i c (cs.take (i*z)) adu (n+1-i) (by omega) (by omega) (by omega) (by omega) hk1 (by rw[hik];exact aJ5 (by omega) (by have:=afU (show n+1<=1099511627776 by omega) hby;omega));rw[hik,<-hkk]at hrz;obtain⟨G,hG⟩:∃G,G=rP w (n+1) c tE:=⟨_,rfl⟩;have hGn:n+1<=G:=by rw[hG];exact grownCap_ge w _ _ _
 have hGz:(n+1)*z<=G*z:=dh _ hGn;have h4:(n+1)*z=n*z+z:=eK _ _;have h3:(i+1)*z=i*z+z:=eK _ _;have h5:(n-i)*z=n*z-i*z:=Az _ _ _;rw[<-hG]at hrz;obtain⟨ROW,aKt⟩:∃ROW:kZ aL,ROW=(cs.take (i*z)).toArray++cG zv.cells (n+1-i)++cG zv.cells (G-(n+1)):=⟨_,rfl⟩;rw[<-aKt]at hrz;have hz1:(n+1-i)*z=n*z+z-i*z:=by rw[Az,h4]
 have hz2:(G-(n+1))*z=G*z-(n*z+z):=by rw[Az,h4]
 have hRs:ROW.size=G*z:=by rw[aKt,Tu,Tu,hzc,hzc,aqk,cO];omega
 have hh:(w.drew.alloc (.cells ROW tE)).heap=w.heap.push (.cells ROW tE):=rfl;have aDZ:dw (w.drew.alloc (.cells ROW tE)) w.heap.size 0 (cs.take (i*z)++(cG zv.cells (n+1-i)).toList):=by have:=uw hh;(have e:ROW.toList=(cs.take (i*z)++(cG zv.cells (n+1-i)).toList)++(cG zv.cells (G-(n+1))).toList:=by rw[aKt];simp);rw[e]at this;exact this.left
 have amp:hZ z (w.drew.alloc (.cells ROW tE)) w.heap.size (G*z):=by rw[<-hRs];exact He hh
 have hT:kF b w (w.drew.alloc (.cells ROW tE)):=((kF.refl b w).drew).alloc _;obtain⟨W1,hW1⟩:∃W1,W1=w.drew.alloc (.cells ROW tE):=⟨_,rfl⟩;have aQ8:W1.heap.size=w.heap.size+1:=by rw[hW1,hh];simp
 rw[<-hW1]at hrz aDZ amp hT;have hxW:dw W1 va vo xs:=hc.of_block (hT.block va hva iS);have hcW:dw W1 b o cs:=λj v hj=>by(have:W1.heap[b]? =w.heap[b]? :=by rw[hW1,hh,FC hbw,AL hbw]);have h:=oz j v hj;simp only[b9,this]at h⊢;exact h
 have hT2:kF b w (W1.setCells w.heap.size (i*z) xs).drew:=(hT.setCells (.inr (bx _)) _ _).drew;have axH:hZ z (W1.setCells w.heap.size (i*z) xs).drew w.heap.size (G*z):=ji (b:=w.heap.size) xs (i*z) W1 amp;have aRg:dw (W1.setCells w.heap.size (i*z) xs).drew b o cs:=hcW.of_block (Nc _ _ _ _ _ (by omega));refine⟨W1,G,hrz,hGn,λty dc=> ?_,λty dc sc=> ?_,?_,?_,?_,hT2.setCells (.inr (bx _)) _ _⟩;·exact BS W1 _ _ ty tE w.heap.size (i*z) (n+1-i) dc ⟨va,vo,au⟩ 1 vc xs z 1 T.hS aEs (by simp only[ao1];split<;>omega) (by omega) (λj v hj=>by rw[World.nf];exact hxW j v hj) (λj hj=>(amp.cell (by omega)).1) (λj hj=>(amp.cell (by omega)).2) h1
 .exact BS _ _ _ ty tE w.heap.size ((i+1)*z) (n+1-(i+1)) dc ⟨b,o+i*z,au⟩ (n-i) sc (cs.drop (i*z)) z (n-i) T.hS aEs (by simp only[ao1];split<;>omega) Zu (λj v hj=>by rw[World.nf];exact(aRg.drop (i*z)) j v hj) (λj hj=>(axH.cell (by omega)).1) (λj hj=>(axH.cell (by omega)).2) h1d
 .rw[HQ];show w.heap.size<(W1.setCells w.heap.size (i*z) xs).heap.size;rw[HQ,aQ8];omega
 .have:=aBu (w:=W1) dE hl hx (by rw[ai4,hzc]) aDZ amp (by omega);rw[<-Go.Proofs.drew_setCells];intro j v hj;exact this j v hj
 .rw[dL];exact ji _ _ _ axH
def abc.walk(T:abc P z tS tE tI tB ov zv){fn:ax}(en:lA P fn) (H1:∀(ad:aq afQ) (va vo vc cp:ax) (w w1:aU),(fH #[tS,tS] tS #[.slice ad 0 0,.slice (ai ⟨va,vo,au⟩) 1 vc]).run P w=.ok (.slice (ai ⟨w.heap.size,0,au⟩) 1 cp) w1-> fF P fn #[.slice ad 0 0,.int .i64 0,.slice (ai ⟨va,vo,au⟩) 1 vc] w λe w'=>e=.returned (.slice (ai ⟨w.heap.size,0,au⟩) 1 cp)/\w'=w1) (H2:∀(b o n c i va vo vc:ax) (cs xs:ah aL) (w:aU),i<n->n+1<=c->n+1<1099511627776->va<w.heap.size->b<w.heap.size-> (∀lb cb,(callFunc ov #[.slice (ai ⟨va,vo,au⟩) 1 vc,.slice (ai ⟨b,o+(i+1)*z,au⟩) lb cb]).run P w=.ok (.value (.bool aA)) w)-> (∀ty dc sc,(oe #[tS,tS] ty #[.slice (ai ⟨b,o+(i+1)*z,au⟩) (n-i) dc,.slice (ai ⟨b,o+i*z,au⟩) (n+1-i) sc]).run P w.drew=.ok (goInt ((n-i:ax):aw)) (w.drew.setCells b (o+(i+1)*z) (cs.drop (i*z))))-> (∀ty dc,(oe #[tS,tS] ty #[.slice (ai ⟨b,o+i*z,au⟩) (n+1-i) dc,.slice (ai ⟨va,vo,au⟩) 1 vc]).run P (w.drew.setCells b (o+(i+1)*z) (cs.drop (i*z)))=.ok (goInt 1) ((w.drew.setCells b (o+(i+1)*z) (cs.drop (i*z))).setCells b (o+i*z) xs))-> fF P fn #[.slice (ai ⟨b,o,au⟩) n c,.int .i64 i,.slice (ai ⟨va,vo,au⟩) 1 vc] w λe w'=>e=.returned (.slice (ai ⟨b,o,au⟩) (n+1) c)/\w'=(w.drew.setCells b (o+(i+1)*z) (cs.drop (i*z))).setCells b (o+i*z) xs) (H3:∀(b o n c i va vo vc G:ax) (cs xs:ah aL) (w W1:aU),i<n->n<=c->¬n+1<=c->n+1<1099511627776->va<w.heap.size->b<w.heap.size->n+1<=G-> (fH #[tS,tI] tS #[.slice (ai ⟨b,o,au⟩) i c,.int .i64 ((n:aw)+1-(i:aw))]).run P w=.ok (.slice (ai ⟨w.heap.size,0,au⟩) (n+1) G) W1-> (∀ty dc,(oe #[tS,tS] ty #[.slice (ai ⟨w.heap.size,i*z,au⟩) (n+1-i) dc,.slice (ai ⟨va,vo,au⟩) 1 vc]).run P W1=.ok (goInt 1) (W1.setCells w.heap.size (i*z) xs))-> (∀ty dc sc,(oe #[tS,tS] ty #[.slice (ai ⟨w.heap.size,(i+1)*z,au⟩) (n+1-(i+1)) dc,.slice (ai ⟨b,o+i*z,au⟩) (n-i) sc]).run P (W1.setCells w.heap.size (i*z) xs).drew=.ok (goInt ((n-i:ax):aw)) ((W1.setCells w.heap.size (i*z) xs).drew.setCells w.heap.size ((i+1)*z) (cs.drop (i*z))))-> fF P fn #[.slice (ai ⟨b,o,au⟩) n c,.int .i64 i,.slice (ai ⟨va,vo,au⟩) 1 vc] w λe w'=>e=.returned (.slice (ai ⟨w.heap.size,0,au⟩) (n+1) G)/\w'=(W1.setCells w.heap.size (i*z) xs).drew.setCells w.heap.size ((i+1)*z) (cs.drop (i*z))) (H4:∀(b o n c va vo vc b' o' cp:ax) (w w1:aU),c≠0->n<=c->n+1<1099511627776->(fH #[tS,tS] tS #[.slice (ai ⟨b,o,au⟩) n c,.slice (ai ⟨va,vo,au⟩) 1 vc]).run P w=.ok (.slice (ai ⟨b',o',au⟩) (n+1) cp) w1-> fF P fn #[.slice (ai ⟨b,o,au⟩) n c,.int .i64 n,.slice (ai ⟨va,vo,au⟩) 1 vc] w λe w'=>e=.returned (.slice (ai ⟨b',o',au⟩) (n+1) cp)/\w'=w1):uq P fn z:=by
 obtain⟨iE,hi,hz0,Aq,hby⟩:=T.info;refine⟨en,?_,?_⟩;·intro ad va vo vc xs w hx hc h1 hva;obtain⟨cp,w1,jn,q1,q2,q3,q4,q5⟩:=aHy (vc:=vc) (ad:=ad) T.hS hi Aq hz0 T.hc hby hx hc h1 tS;refine(H1 ad va vo vc cp w w1 jn).mono λe w' hh=> ?_;obtain⟨rfl,rfl⟩:=hh;exact⟨_,cp,rfl,q1,bx _,q2,q3,q4,q5⟩
 .intro b o n c i va vo vc cs xs w hc0 hnc hin hn hl oz hr hx hc iS h1c h1 hva hsh;rcases bL i n with dE|hge
  .by_cases gM:n+1<=c;(·obtain⟨a1,a2,a3,a4,a5,a6⟩:=T.room dE gM hn hl oz hr hx hc iS h1c h1 hva hsh;refine(H2 b o n c i va vo vc cs xs w dE gM hn hva hr.lt a1 a2 a3).mono λe w' hh=> ?_;obtain⟨rfl,rfl⟩:=hh;exact⟨b,o,c,rfl,gM,.inl rfl,a4,a5,a6⟩);·obtain⟨W1,G,a1,a2,a3,a4,a5,a6,a7,a8⟩:=T.grow dE gM hnc hn hl oz hr hx hc iS h1c h1 hva;refine(H3 b o n c i va vo vc G cs xs w W1 dE hnc gM hn hva hr.lt a2 (a1 tS) a3 a4).mono λe w' hh=> ?_;obtain⟨rfl,rfl⟩:=hh;exact⟨w.heap.size,0,G,rfl,a2,.inr ⟨bx _,a5⟩,a6,a7,a8⟩
  ·(obtain rfl:i=n:=by omega);obtain⟨b',o',cp,w1,jn,q1,q2,q3,q4,q5⟩:=aHx (vc:=vc) T.hS hi Aq hz0 T.hc hby hnc hn hl oz hr hx hc h1 tS;refine(H4 b o i c va vo vc b' o' cp w w1 hc0 hnc hn jn).mono λe w' hh=> ?_;obtain⟨rfl,rfl⟩:=hh;refine⟨b',o',cp,rfl,q1,q2,?_,q4,q5⟩;rw[cH (by omega),br (by omega),cD];exact q3
end
noncomputable def insertC(E:ET):Callee:={io:=[aB,aA,aA],ps:=[.l7 E,.d kY,.d (.one (.sl E))],rs:=[.tok E],os:=[.gone],f:=λx=>if ao (ae (α:=E.ty) x.2.2.1=1)&&(ao (0<=x.2.1)&&(ao (x.2.1<=(ae (α:=E.ty) x.1:aw))&&ao (ae (α:=E.ty) x.1+1<1099511627776)))then ai (pR (α:=E.ty) x.2.1.toNat x.1++(show ah E.ty from x.2.2.1)++pC (α:=E.ty) x.2.1.toNat x.1,())else au}
structure alN(P:bV)(fn z:ax):Prop where
 en:lA P fn
 run:∀(b o n c i j:ax) (cs:ah aL) (w:aU),c≠0->n<=c->i<j->j<=n->n<1099511627776->ae cs=n*z->dw w b o cs->hZ z w b (o+c*z)->(∀v∈cs,v.oneCell'=aB)->
  fF P fn #[.slice (ai ⟨b,o,au⟩) n c,.int .i64 i,.int .i64 j] w λe w'=>e=.returned (.slice (ai ⟨b,o,au⟩) (n-(j-i)) c)/\
   dw w' b o (cs.take (i*z)++cs.drop (j*z))/\hZ z w' b (o+c*z)/\kF b w w'
def aAS{w:aU}{b o n c i j z:ax}{cs zs:ah aL}(hij:i<j)(hj:j<=n)(hnc:n<=c)(hl:ae cs=n*z)(oz:dw w b o cs)(hr:hZ z w b (o+c*z))(hz:ae zs=(j-i)*z): dw ((w.setCells b (o+i*z) (cs.drop (j*z))).setCells b (o+(i+(n-j))*z) zs) b o (cs.take (i*z)++cs.drop (j*z)):=by
 have h1:i*z<=j*z:=dh _ (by omega);have h2:j*z<=n*z:=dh _ hj;have h3:n*z<=c*z:=dh _ hnc;have h4:(i+(n-j))*z=i*z+(n*z-j*z):=by rw[V3,Az]
 have h5:(j-i)*z=j*z-i*z:=Az _ _ _;have Zu:ae (cs.drop (j*z))=n*z-j*z:=by rw[dR,hl]
 have w1:=dw.write (news:=cs.drop (j*z)) (c:=i*z) oz (hr.le (by rw[hl];omega)) (by rw[hl,Zu];omega);have w2:=dw.write (news:=zs) (c:=(i+(n-j))*z) w1 ((ji _ _ _ hr).le (by simp only[bg,cO,dR,hl];omega)) (by simp only[bg,cO,dR,hl,hz,h4,h5];omega);have e1:(cs.take (i*z)++cs.drop (j*z)++cs.drop (i*z+ae (cs.drop (j*z)))).take ((i+(n-j))*z)=cs.take (i*z)++cs.drop (j*z):=by rw[nE (by simp only[bg,cO,dR,hl,h4];omega),cH (by simp only[bg,cO,dR,hl,h4];omega)]
 rw[e1]at w2;exact w2.left.left
noncomputable def ase(E:ET):Callee:={io:=[aB,aA,aA],ps:=[.l7 E,.d kY,.d kY],rs:=[.tok E],os:=[.gone],f:=λx=>if ao (0<=x.2.1)&&(ao (x.2.1<x.2.2.1)&&(ao (x.2.2.1<=(ae (α:=E.ty) x.1:aw))&&ao (ae (α:=E.ty) x.1<1099511627776)))then ai (pR (α:=E.ty) x.2.1.toNat x.1++pC (α:=E.ty) x.2.2.1.toNat x.1,())else au}
section
variable {P:bV} {φ:ax->ax}
def asS{w:aU}{K:ax->Prop}{vs:ah aL}{ys:ah A}(h:dp φ w K vs (ys.flatMap A.cells))(hf:ys.all Vf=aB):∀u∈vs,u.oneCell'=aB:=λu hu=>by obtain⟨j,hj⟩:=fO.1 hu;obtain⟨x,hx,hr⟩:=h.aDS hj;obtain⟨y,hy,hxy⟩:=wT.1 (cq hx);have:=bz.1 hf y hy;exact Value.one_cell (hr.Ul (am5 (bz.1 this x hxy)))
def WU(E:ET)(xs:ah E.ty):(xs.map E.enc).all Vf=aB:=by rw[JX];exact bz.2 λx _=>ET.auA E x
def Im{E:ET}{xs:ah E.ty}:∀x∈xs.map E.enc,ae x.cells=E.z:=λx hx=>by obtain⟨y,_,rfl⟩:=dF.1 hx;exact ET.Im E y
def oQ.azP{g:ax}{c:Callee}{E:ET}{ms:ah MT}(he:lA P (φ g))(hps:c.ps=.l7 E::ms)(hd:aus ms=aB) (h:∀x y,c.f x=ai y->dx P φ g (KJ c.ps x) (JD c y).1 (JD c y).2):oQ P φ g c:=by
 refine⟨he,λal res outs hc=> ?_⟩;unfold Callee.cf at hc;split at hc
 .rename_i hx;obtain⟨y,hy,hr⟩:=aM.1 hc;have h1:=h _ _ hy;rw[hr]at h1;have hn:Dj c.ps al=al:=by rw[hps];cases al with|nil=>rfl|cons a l=>(have:(MT.l7 E).norm a=a:=by cases a<;>rfl);rw[Dj,this,LY hd]
  have e:al=KJ c.ps hx.choose:=hn.symm.trans hx.choose_spec.2;generalize hx.choose=x at e h1;subst e;exact h1
 .cases hc
def GX{E:ET}(hp:E.plain=aB){fn g z:ax}(hz:E.z=z)(h0z:z≠0)(W:uq P fn z)(hφ:φ g=fn):oQ P φ g (insertC E):=by
 subst hφ;refine oQ.azP W.en rfl rfl λx y hy0=> ?_;obtain⟨xs,i,v,⟨⟩⟩:=x;have hy:(if ao (ae (α:=E.ty) v=1)&&(ao (0<=i)&&(ao (i<=(ae (α:=E.ty) xs:aw))&&ao (ae (α:=E.ty) xs+1<1099511627776)))then ai (pR (α:=E.ty) i.toNat xs++(show ah E.ty from v)++pC (α:=E.ty) i.toNat xs,())else au)=ai y:=hy0;split at hy;rotate_left;·cases hy
 rename_i hc;simp only[az,aG]at hc;obtain⟨hv1,hi0,tT,fm⟩:=hc;obtain rfl:=cA hy;have e1:KJ (insertC E).ps (xs,i,v,())=[.l7 E.z ((show ah E.ty from xs).map E.enc),.int .i64 i,.sl E.z ((show ah E.ty from v).map E.enc)]:=by have q:((ET.one (.sl E)).v (show ah E.ty from v)).a=(ET.one (.sl E)).enc (show ah E.ty from v):=ET.v_a _ _;exact wE (λz=>[A.l7 E.z ((show ah E.ty from xs).map E.enc),.int .i64 i,z]) q
 rw[e1];generalize LD:(show ah E.ty from xs)=xl at*;have aK9:xs=xl:=LD;subst aK9
 obtain⟨x1,rfl⟩:∃x1:E.ty,v=[x1]:=by
  cases v with
  |nil=>simp at hv1
  |cons a l=>cases l with
   |nil=>exact⟨a,rfl⟩
   |cons b l=>simp at hv1
 show dx P φ g [A.l7 E.z (ky E.enc xs),.int .i64 i,.sl E.z (ky E.enc [x1])] [A.tok 0 E.z (ky E.enc (pR i.toNat xs++ [x1]++pC i.toNat xs))] [A.any];intro w K vs bs ha Jg hKb hK hG;cases ha with|cons v0 _ b0 vs0 _ bs0 hv0 t0=>
 cases t0 with|cons v1 _ b1 vs1 _ bs1 aK3 t1=>
 cases t1 with|cons v2 _ b2 vs2 _ bs2 hv2 t2=>
 cases t2;cases aK3 with|data _ r1=>
 cases r1;cases hv2 with|data _ r2=>
 generalize aOm:ky E.enc [x1]=ex at r2;cases r2 with|Rx=>simp at aOm|sl vb vo vc z' _ us hvb Qz ajb hur huc=>
 subst aOm;have hul:ae us=E.z:=by have:=hur.length;rw[ke Qz]at this;simpa using this
 have hu1:=asS hur (WU E [x1]);have hvw:=hK _ hvb;have eJ:ae (ky E.enc [x1])=1:=rfl;rw[eJ];obtain⟨k,hk⟩:∃k:ax,(show aw from i)=(k:aw):=⟨aGP i,(ai7 hi0).symm⟩;have hk':i=(k:aw):=hk;subst hk';rw[aH];have hkl:k<=ae xs:=Int.ofNat_le.1 tT;have Md:(ky E.enc (pR k xs++ [x1]++pC k xs)).all A.plain=aB:=afZ hp _;have hrl:ae (ky E.enc (pR k xs++ [x1]++pC k xs))=ae xs+1:=by simp;omega
 have azw:(ky E.enc (pR k xs++ [x1]++pC k xs)).flatMap A.cells=((ky E.enc xs).flatMap A.cells).take (k*E.z)++(ky E.enc [x1]).flatMap A.cells++((ky E.enc xs).flatMap A.cells).drop (k*E.z):=by rw[dP,dP,RH,RH,pO,nz,Dc Im,su Im]
 cases hv0 with|data _ hr=>cases hr|l7 _ _ ob hO=>generalize OU:ky E.enc xs=ys at hO;cases hO with|empty ad z2=>(have hxn:xs=[]:=by cases xs with|nil=>rfl|cons=>simp at OU);subst hxn;(have hk0:k=0:=by simpa using hkl);subst hk0;have:=W.nil ad vb vo vc us w (by rw[hul,hz]) huc hu1 hvw;refine this.mono λe w' hh=> ?_;obtain⟨b',cp,rfl,q1,q2,q3,q4,q5,q6⟩:=hh;refine⟨_,rfl,q6.size,λq hq _=>q6.block q hq (by omega),⟨q6.os,q6.output⟩,λq off hq=>q6.fr q off hq,λq n hr=>q6.room q n hr,[_],K,[b'],[],rfl,λ_ h=>h,λ_ h=>.inl h,?_,.gone _ _ _ _ _ _ _ (.data _ _ _ _ _ _ ⟨λ_ _ h=>(by cases h),λ_ _ h=>(by cases h)⟩ (.data _ _ _ _ _ _ ⟨λ_ _ h=>(by cases h),λ_ _ h=>(by cases h)⟩ .nil)),by simp,λq hq=> ?_⟩;(·have hO':=eL.mk (φ:=φ) (w:=w') (K:=K) b' 0 cp E.z (ky E.enc (pR 0 []++ [x1]++pC 0 [])) us (by simpa using q1) (by omega) Im (by rw[azw];simpa using hur.mono (λq hq=>q6.block q (hK q hq) (by have:=hK q hq;omega)) λ_ h=>h) q4 (by rw[dL,hz];exact q5);rw[hrl]at hO';exact .cons _ _ [b'] _ _ [] (.tok _ 0 E.z _ (ai b') hO') .nil);·(have:q=b':=by simpa using hq);subst this;exact⟨λhk=>by have:=hK _ hk;omega,q3,.inr q2⟩|mk b o cap z2 _ cs ajb hc0 hcz hcr LC gM=>subst OU;(have Ao:ae cs=ae xs*E.z:=by have:=hcr.length;rw[ke hcz]at this;simpa using this);have hbK:¬K b:=hKb b (by simp);have iS:vb≠b:=λe=>hbK (e▸hvb);(have hsh:∃e k,w.shape? vb=ai (e,k)/\k≠0:=by have h00:us[0]? =ai us[0]:=aE (by omega);have:=huc 0 _ h00;simp only[b9]at this;split at this;(·rename_i C eC frC hC;refine⟨eC,C.size,by simp[aJ4,hC],λe=> ?_⟩;(have dE:vo+0<C.size:=by(rcases bL (vo+0) C.size with h|h);(·exact h);·rw[qd h]at this;cases this);omega);·cases this);have jn:=W.run b o (ae xs) cap k vb vo vc cs us w hc0 (by simpa using ajb) hkl fm (by rw[Ao,hz]) LC (by rw[<-hz];exact gM) (by rw[hul,hz]) huc iS (asS hcr (WU E xs)) hu1 hvw hsh;rw[bf];refine jn.mono λe w' hh=> ?_;obtain⟨b',o',cp,rfl,q1,q2,q3,q4,q5⟩:=hh;have hKs:∀q,K q->w'.heap[q]? =w.heap[q]? :=λq hq=>q5.block q (hK q hq) λe=>hbK (e▸hq);refine⟨_,rfl,q5.size,λq hq hn=>q5.block q hq λe=>hn (by simp[e]),⟨q5.os,q5.output⟩,λq off hq=>q5.fr q off hq,λq n hr=>q5.room q n hr,[_],K,[b'],[],rfl,λ_ h=>h,λ_ h=>.inl h,?_,.gone _ _ _ _ _ _ _ (.data _ _ _ _ _ _ ⟨λ_ _ h=>(by cases h),λ_ _ h=>(by cases h)⟩ (.data _ _ _ _ _ _ ⟨λ_ _ h=>(by cases h),λ_ _ h=>(by cases h)⟩ .nil)),by simp,λq hq=> ?_⟩;(·have hO':=eL.mk (φ:=φ) (w:=w') (K:=K) b' o' cp E.z (ky E.enc (pR k xs++ [x1]++pC k xs)) (cs.take (k*E.z)++us++cs.drop (k*E.z)) (by rw[hrl];exact q1) (by omega) Im (by rw[azw];exact(((hcr.take (k*E.z)).append hur).append (hcr.drop (k*E.z))).mono hKs λ_ h=>h) (by rw[hz];exact q3) (by rw[hz];exact q4);rw[hrl]at hO';exact .cons _ _ [b'] _ _ [] (.tok _ 0 E.z _ (ai b') hO') .nil);·(have:q=b':=by simpa using hq);subst this;(rcases q2 with rfl|⟨q2,q2'⟩);(·exact⟨hbK,bX gM.lt q5.size,.inl (by simp)⟩);·exact⟨λhk=>by have:=hK _ hk;omega,q2',.inr q2⟩
def aAT{E:ET}(hp:E.plain=aB){fn g z:ax}(hz:E.z=z)(W:alN P fn z)(hφ:φ g=fn):oQ P φ g (ase E):=by
 subst hφ;refine oQ.azP W.en rfl rfl λx y hy0=> ?_;obtain⟨xs,i,j,⟨⟩⟩:=x;have hy:(if ao (0<=i)&&(ao (i<j)&&(ao (j<=(ae (α:=E.ty) xs:aw))&&ao (ae (α:=E.ty) xs<1099511627776)))then ai (pR (α:=E.ty) i.toNat xs++pC (α:=E.ty) j.toNat xs,())else au)=ai y:=hy0;split at hy;rotate_left;·cases hy
 rename_i hc;simp only[az,aG]at hc;obtain⟨hi0,hij,hjl,fm⟩:=hc;obtain rfl:=cA hy;have e1:KJ (ase E).ps (xs,i,j,())=[.l7 E.z ((show ah E.ty from xs).map E.enc),.int .i64 i,.int .i64 j]:=rfl;rw[e1];generalize LD:(show ah E.ty from xs)=xl at*;have aK9:xs=xl:=LD;subst aK9;show dx P φ g [A.l7 E.z (ky E.enc xs),.int .i64 i,.int .i64 j] [A.tok 0 E.z (ky E.enc (pR i.toNat xs++pC j.toNat xs))] [A.any];intro w K vs bs ha Jg hKb hK hG;cases ha with|cons v0 _ b0 vs0 _ bs0 hv0 t0=>
 cases t0 with|cons v1 _ b1 vs1 _ bs1 aK3 t1=>
 cases t1 with|cons v2 _ b2 vs2 _ bs2 hv2 t2=>
 cases t2;cases aK3 with|data _ r1=>
 cases r1;cases hv2 with|data _ r2=>
 cases r2;obtain⟨k,hk⟩:∃k:ax,(show aw from i)=(k:aw):=⟨aGP i,(ai7 hi0).symm⟩;have hk':i=(k:aw):=hk;subst hk';obtain⟨m,hm⟩:∃m:ax,(show aw from j)=(m:aw):=⟨aGP j,(ai7 (xA hi0 (Int.le_of_lt hij))).symm⟩;have hm':j=(m:aw):=hm;subst hm';rw[aH,aH];have hml:m<=ae xs:=Int.ofNat_le.1 hjl;have hkm:k<m:=Int.ofNat_lt.1 hij;have Md:(ky E.enc (pR k xs++pC m xs)).all A.plain=aB:=afZ hp _;have hrl:ae (ky E.enc (pR k xs++pC m xs))=ae xs-(m-k):=by simp;omega
 have azw:(ky E.enc (pR k xs++pC m xs)).flatMap A.cells=((ky E.enc xs).flatMap A.cells).take (k*E.z)++((ky E.enc xs).flatMap A.cells).drop (m*E.z):=by rw[dP,RH,pO,nz,Dc Im,su Im]
 cases hv0 with|data _ hr=>cases hr|l7 _ _ ob hO=>generalize OU:ky E.enc xs=ys at hO;cases hO with|empty ad z2=>(have hxn:xs=[]:=by cases xs with|nil=>rfl|cons=>simp at OU);subst hxn;simp at hml;omega|mk b o cap z2 _ cs ajb hc0 hcz hcr LC gM=>subst OU;(have Ao:ae cs=ae xs*E.z:=by have:=hcr.length;rw[ke hcz]at this;simpa using this);have hbK:¬K b:=hKb b (by simp);have jn:=W.run b o (ae xs) cap k m cs w hc0 (by simpa using ajb) hkm hml fm (by rw[Ao,hz]) LC (by rw[<-hz];exact gM) (asS hcr (WU E xs));rw[bf];refine jn.mono λe w' hh=> ?_;obtain⟨rfl,q3,q4,q5⟩:=hh;have hKs:∀q,K q->w'.heap[q]? =w.heap[q]? :=λq hq=>q5.block q (hK q hq) λe=>hbK (e▸hq);refine⟨_,rfl,q5.size,λq hq hn=>q5.block q hq λe=>hn (by simp[e]),⟨q5.os,q5.output⟩,λq off hq=>q5.fr q off hq,λq n hr=>q5.room q n hr,[_],K,[b],[],rfl,λ_ h=>h,λ_ h=>.inl h,?_,.gone _ _ _ _ _ _ _ (.data _ _ _ _ _ _ ⟨λ_ _ h=>(by cases h),λ_ _ h=>(by cases h)⟩ (.data _ _ _ _ _ _ ⟨λ_ _ h=>(by cases h),λ_ _ h=>(by cases h)⟩ .nil)),by simp,λq hq=> ?_⟩;(·have hO':=eL.mk (φ:=φ) (w:=w') (K:=K) b o cap E.z (ky E.enc (pR k xs++pC m xs)) (cs.take (k*E.z)++cs.drop (m*E.z)) (hrl▸dQ (Nat.sub_le _ _) (show ae xs<=cap from by simpa using ajb)) hc0 Im (by rw[azw];exact((hcr.take (k*E.z)).append (hcr.drop (m*E.z))).mono hKs λ_ h=>h) (by rw[hz];exact q3) (by rw[hz];exact q4);rw[hrl]at hO';exact .cons _ _ [b] _ _ [] (.tok _ 0 E.z _ (ai b) hO') .nil);·(have:q=b:=by simpa using hq);subst this;exact⟨hbK,bX gM.lt q5.size,.inl (by simp)⟩
end
end Go.Ab
namespace Go.Ab
open Go.RowKit
structure Fq(S:ax)(v:aL)(w w':aU):Prop where
 size:w.heap.size<=w'.heap.size
 block:∀c,c<S->(∀o,v≠ .pointer (ai ⟨c,o,au⟩))->w'.heap[c]? =w.heap[c]?
 os:w'.os=w.os
 output:w'.output=w.output
 frz:∀b off,b<S->w'.frozen? ⟨b,off,au⟩=w.frozen? ⟨b,off,au⟩
 room:∀{z:ax} b n,b<S->hZ z w b n->hZ z w' b n
def Fq.refl(S:ax)(v:aL)(w:aU):Fq S v w w:=⟨bx _,λ_ _ _=>rfl,rfl,rfl,λ_ _ _=>rfl,λ_ _ _ h=>h⟩
def Fq.trans{S:ax}{v:aL}{w w1 w2:aU}(h:Fq S v w w1)(h':Fq S v w1 w2):Fq S v w w2:=⟨dQ h.size h'.size,λc hc hn=>(h'.block c hc hn).trans (h.block c hc hn),h'.os.trans h.os,h'.output.trans h.output,λb o hb=>(h'.frz b o hb).trans (h.frz b o hb),λb n hb hr=>h'.room b n hb (h.room b n hb hr)⟩
def Fq.anf{S:ax}{v:aL}{w w':aU}(h:Lo S w w'):Fq S v w w':=⟨h.size,λc hc _=>h.block c hc,h.os,h.output,λb off hb=>kC (h.block b hb) off,λb n hb hr=>hr.of_block (h.block b hb)⟩
def Fq.alloc{S:ax}{v:aL}{w w1:aU}(h:Fq S v w w1)(hS:S<=w1.heap.size)(o:Obj):Fq S v w (w1.alloc o):=h.trans (.anf ((Lo.refl S w1).alloc hS o))
def Fq.drew{S:ax}{v:aL}{w w1:aU}(h:Fq S v w w1):Fq S v w w1.drew:=h.trans (.anf (Lo.drew (Lo.refl S w1)))
def Fq.setCell{S:ax}{v:aL}{w w1:aU}(h:Fq S v w w1){b j:ax}{u:aL}(hb:S<=b):Fq S v w (w1.setCell ⟨b,j,au⟩ u):=h.trans (.anf ((Lo.refl S w1).setCell hb))
def aw3(P:bV)(φ:ax->ax)(S:ax)(e eI:bO)(K:ax->Prop)(x:FH.ty)(v3:aL)(xs:ah (ah aw))(oc:aL)(jx:ah aw)(rK:aL)(w:aU):Prop:=∃(O:ax->Prop) (B:ax) (Tz:aq ax),kE φ w K v3 3 (FH.enc x) [B]/\qf φ e xs oc O w/\LU w eI rK (jx.map (fq .i64)) Tz/\ (∀b,Tz=ai b->¬O b/\S<=b/\b<w.heap.size/\¬K b/\b≠B)/\(∀b,O b->S<=b/\b<w.heap.size/\¬K b/\b≠B)/\(∀b,K b->b<w.heap.size/\b≠B)/\Dv P K w/\S<=w.heap.size/\B<w.heap.size
def Wid(K0 K:ax->Prop)(S:ax)(w:aU):Prop:=(∀b,K0 b->K b)/\∀b,K b->K0 b\/(S<=b/\b<w.heap.size)
def Wid.size{K0 K:ax->Prop}{S:ax}{w w':aU}(h:Wid K0 K S w)(hz:w.heap.size<=w'.heap.size):Wid K0 K S w':=⟨h.1,λb hb=>(h.2 b hb).imp id λh=>⟨h.1,bX h.2 hz⟩⟩
def Mst(P:bV)(φ:ax->ax)(S:ax)(e eI:bO)(K0:ax->Prop)(x:FH.ty)(v3:aL)(xs:ah (ah aw))(oc:aL)(jx:ah aw)(rK:aL)(w:aU):Prop:=∃K,Wid K0 K S w/\aw3 P φ S e eI K x v3 xs oc jx rK w
section
variable {P:bV} {φ:ax->ax} {S:ax} {e eI:bO} {K K0:ax->Prop} {x:FH.ty} {v3:aL} {xs:ah (ah aw)} {oc:aL} {jx:ah aw} {rK:aL} {w:aU}
def aw3.fI{w':aU}(h:aw3 P φ S e eI K x v3 xs oc jx rK w)(hw:Lo w.heap.size w w'):aw3 P φ S e eI K x v3 xs oc jx rK w':=by
 obtain⟨O,B,Tz,h1,h2,h3,h4,h5,h6,h7,h8,h9⟩:=h;have hs:=hw.size;refine⟨O,B,Tz,h1.aaE (λb hb=>hw.block b (h6 b hb).1) (λb hb=> ?_),h2.fI λc hc=>hw.block c (h5 c hc).2.1,h3.fI λb hb=>hw.block b (h4 b hb).2.2.1,λb hb=> ?_,λb hb=> ?_,λb hb=> ?_,h7.on (λ_ h=>h) λb hb=>hw.block b (h6 b hb).1,by omega,by omega⟩;·rw[aT]at hb;subst hb;exact hw.block _ h9
 .obtain⟨a1,a2,a3,a4⟩:=h4 b hb;exact⟨a1,a2,by omega,a4⟩
 .obtain⟨a2,a3,a4⟩:=h5 b hb;exact⟨a2,by omega,a4⟩
 .obtain⟨a3,a4⟩:=h6 b hb;exact⟨by omega,a4⟩
def Mst.fI{w':aU}(h:Mst P φ S e eI K0 x v3 xs oc jx rK w)(hw:Lo w.heap.size w w'):Mst P φ S e eI K0 x v3 xs oc jx rK w':=by obtain⟨K,hK0,h⟩:=h;exact⟨K,hK0.size hw.size,h.fI hw⟩
def Mst.row(h:Mst P φ S e eI K0 x v3 xs oc jx rK w)(ad:aq afQ):Mst P φ S e eI K0 x v3 xs oc [] (.slice ad 0 0) w:=by obtain⟨K,hK0,O,B,Tz,h1,h2,h3,h4,h5⟩:=h;exact⟨K,hK0,O,B,au,h1,h2,.empty ad,λb hb=>(by cases hb),h5⟩
def Mst.out(h:Mst P φ S e eI K0 x v3 xs oc jx rK w)(ad:aq afQ):Mst P φ S e eI K0 x v3 [] (.slice ad 0 0) jx rK w:=by obtain⟨K,hK0,O,B,Tz,h1,h2,h3,h4,h5,h6⟩:=h;exact⟨K,hK0,λ_=>JW,B,Tz,h1,.nil e ad w,h3,λb hb=>⟨λh=>h,(h4 b hb).2⟩,λb hb=>hb.elim,h6⟩
def Mst.lit(h:Mst P φ S e eI K0 x v3 xs oc jx rK w)(C:kZ aL)(t:bO):∃K:ax->Prop,K w.heap.size/\Wid K0 K S (w.alloc (.cells C t))/\aw3 P φ S e eI K x v3 xs oc jx rK (w.alloc (.cells C t)):=by
 obtain⟨K,hK0,h⟩:=h;obtain⟨O0,B0,aLh,g1,g2,g3,g4,g5,g6,g7,g8,g9⟩:=h;have hz:(w.alloc (.cells C t)).heap.size=w.heap.size+1:=by simp
 refine⟨λb=>K b\/b=w.heap.size,.inr rfl,⟨λb hb=>.inl (hK0.1 b hb),λb hb=>hb.elim (λhb=>((hK0.size (w':=w.alloc (.cells C t)) (by omega)).2 b hb)) λhb=>.inr ⟨by omega,by omega⟩⟩,O0,B0,aLh,?_,g2.fI λc hc=>iN _ _ (g5 c hc).2.1,g3.fI λb hb=>iN _ _ (g4 b hb).2.2.1,λb hb=> ?_,λb hb=> ?_,λb hb=> ?_,?_,by omega,by omega⟩
 .have:=g1.aaE (w':=w.alloc (.cells C t)) (λb hb=>iN _ _ (g6 b hb).1) λb hb=>by rw[aT]at hb;subst hb;exact iN _ _ g9
  exact this.mono λb hb=>.inl hb
 .obtain⟨a1,a2,a3,a4,a5⟩:=g4 b hb;exact⟨a1,a2,by omega,λhk=>hk.elim a4 (λe=>by omega),a5⟩
 .obtain⟨a2,a3,a4,a5⟩:=g5 b hb;exact⟨a2,by omega,λhk=>hk.elim a4 (λe=>by omega),a5⟩
 .rcases hb with hb|rfl
  .obtain⟨a3,a4⟩:=g6 b hb;exact⟨by omega,a4⟩
  .exact⟨by omega,by omega⟩
 .exact g7.on (λb hb=>.inl hb) λb hb=>iN _ _ (g6 b hb).1
def aw3.call{g:ax}{a:A}{u:aL}{y:aw}{x':FH.ty}(h:aw3 P φ S e eI K x v3 xs oc jx rK w)(hK0:Wid K0 K S w)(hu:gY φ w K u a)(hc:dx P φ g [.iU 3 [FH.enc x],a] [.int .i64 y] [.iU 3 [FH.enc x']])(ha:(∀z xs,a≠ .iU z xs)/\∀z xs,a≠ .l7 z xs): fF P (φ g) #[v3,u] w λr w'=>(r=.returned (.int .i64 y)/\w.heap.size<=w'.heap.size/\Fq S v3 w w'/\Mst P φ S e eI K0 x' v3 xs oc jx rK w')/\∀c,c<w.heap.size->(∀o,v3≠ .pointer (ai ⟨c,o,au⟩))->w'.heap[c]? =w.heap[c]? :=by
 obtain⟨O,B,Tz,h1,h2,h3,h4,h5,h6,h7,h8,h9⟩:=h;have hvB:∃o,v3=.pointer (ai ⟨B,o,au⟩):=by cases h1 with|mk _ o _ _ vs _ _ _ _=>exact⟨o,rfl⟩
 have ui:gy φ w K [v3,u] [.iU 3 [FH.enc x],a] ([B]++([]++ [])):=.cons _ _ _ _ _ _ (.iU _ _ _ _ h1) (.cons _ _ _ _ _ _ (.data _ _ hu) .nil);refine(hc w K [v3,u] [B] ui (by simp) (λb hb=>by rw[aT]at hb;subst hb;exactλhk=>(h6 _ hk).2 rfl) (λb hb=>(h6 b hb).1) h7).mono λr w' ⟨v,he,hb⟩=> ?_;subst he;obtain⟨qQ,K',rb,ob,hv,k1,k2,R8,ho,Jg,hbl⟩:=hb.rest;have Vh:∀c,c<w.heap.size->c≠B->w'.heap[c]? =w.heap[c]? :=λc hc hn=>hb.frame c hc (by simpa using hn);have hK':∀b,K' b->K b\/b=B\/(w.heap.size<=b/\b<w'.heap.size):=λb hb'=>by(rcases k2 b hb' with h|h|h);(·exact .inl h);(·exact .inr (.inl (by simpa using h)));·exact .inr (.inr h)
 have hg:=hb.grow;cases R8 with|cons v0 _ b0 vs0 _ bs0 r1 r2=>cases r2;cases r1 with|data _ r3=>cases r3;refine⟨⟨by rw[hv];rfl,hg,⟨hg,λc hc hn=>Vh c (by omega) (λe=>by obtain⟨o,ho'⟩:=hvB;exact hn o (by rw[ho',e])),hb.env.1,hb.env.2,λb off hb'=>hb.fr b off (by omega),λb n hb' hr=>hb.room b n hr⟩,?_⟩,λc hc hn=>Vh c hc λe=>by obtain⟨o,ho'⟩:=hvB;exact hn o (by rw[ho',e])⟩;cases ho with|data _ _ _ _ _ _ iS _=>exact bG rfl (iS.1 _ _)|iU _ _ _ _ bq _ _ _ bs1 hq ht=>(have hbq:∃bs,bq=B::bs:=by cases h1 with|mk _ o _ _ vs _ _ _ _=>generalize hpv:Value.pointer (ai ⟨B,o,au⟩)=pv at hq;cases hq with|mk b2 o2 _ _ vs2 bs2 _ _ _ _=>cases hpv;exact⟨_,rfl⟩);obtain⟨bs2,rfl⟩:=hbq;(have aKx:bs2=[]:=by(have rh:∀{vs:ah aL} {ab:ah A} {bs:ah ax},dK φ w' K' vs ab bs->(∀z xs,A.own z xs∉ab)->bs=[]:=by intro vs ab bs hcr;induction hcr with|nil=>intro _;rfl|cons v a b vs ab bs h t ih=>intro hn;rw[ih λz xs hm=>hn z xs (bm _ hm)];cases h with|data=>rfl|own z xs b h=>exact bG (cI ..) (hn z xs));generalize hpv:v3=pv at hq;generalize hbb:B::bs2=bb at hq;generalize hxx:FH.enc x'=xx at hq;cases hq with|mk b o z xx vs bs h hv hr hz=>cases hbb;refine rh h λz xs hm=> ?_;obtain⟨x1,x2,x3,⟨⟩⟩:=x';rw[<-hxx]at hm;simp[ET.enc,vq.enc,CT.enc,A.cells]at hm);subst aKx;have hnK:¬K' B:=(hbl B (by simp)).1;(have hd:∀b,b<w.heap.size->¬K b->b≠B->¬K' b:=λb h1 h2 h3 h4=>by(rcases hK' b h4 with h|h|h);(·exact h2 h);(·exact h3 h);·omega);have hG':Dv P K' w':=h7.on k1 λb hb=>Vh b (h6 b hb).1 (h6 b hb).2;refine⟨K',⟨λb hb=>k1 b (hK0.1 b hb),λb hb=> ?_⟩,O,B,Tz,hq,h2.fI λc hc=>Vh c (h5 c hc).2.1 (h5 c hc).2.2.2,h3.fI λb hb=>Vh b (h4 b hb).2.2.1 (h4 b hb).2.2.2.2,λb hb=> ?_,λb hb=> ?_,λb hb=> ?_,hG',by omega,by omega⟩;(·(rcases hK' b hb with h|h|h);(·exact(hK0.2 b h).imp id λh=>⟨h.1,by omega⟩);(·exact bG (h▸hb) hnK);·exact .inr ⟨by omega,h.2⟩);(·obtain⟨a1,a2,a3,a4,a5⟩:=h4 b hb;exact⟨a1,a2,by omega,hd b a3 a4 a5,a5⟩);(·obtain⟨a2,a3,a4,a5⟩:=h5 b hb;exact⟨a2,by omega,hd b a3 a4 a5,a5⟩);·refine⟨?_,λe=>hnK (by rw[<-e];exact hb)⟩;(rcases hK' b hb with h|h|h);(·have:=(h6 b h).1;omega);(·omega);·exact h.2
def Mst.call{g:ax}{n y:aw}{x':FH.ty}(h:Mst P φ S e eI K0 x v3 xs oc jx rK w)(hc:dx P φ g [.iU 3 [FH.enc x],.int .i64 n] [.int .i64 y] [.iU 3 [FH.enc x']]): fF P (φ g) #[v3,.int .i64 n] w λr w'=>r=.returned (.int .i64 y)/\w.heap.size<=w'.heap.size/\Fq S v3 w w'/\Mst P φ S e eI K0 x' v3 xs oc jx rK w':=by obtain⟨K,hK0,h⟩:=h;exact(h.call hK0 (.int _ _) hc ⟨λ_ _ h=>(by cases h),λ_ _ h=>(by cases h)⟩).mono λ_ _ h=>h.1
def Mst.slice(h:Mst P φ S e eI K0 x v3 xs oc jx rK w):∃ad cp,oc=.slice ad (ae xs) cp:=by obtain⟨K,hK0,O,B,Tz,h1,h2,_⟩:=h;exact h2.slice
def Mst.first{y:aw}{ys:ah aw}{rt:ah (ah aw)}(h:Mst P φ S e eI K0 x v3 ((y::ys)::rt) oc jx rK w): ∃b cap b0 o0 c0,oc=.slice (ai ⟨b,0,au⟩) (ae rt+1) cap/\w.cell? ⟨b,0,au⟩=ai (.slice (ai ⟨b0,o0,au⟩) (ae ys+1) c0)/\(∃u,w.cell? ⟨b0,o0,au⟩=ai u)/\w.frozen? ⟨b0,o0,au⟩=aA/\S<=b0/\ ∀n,Mst P φ S e eI K0 x v3 ((n::ys)::rt) oc jx rK (w.setCell ⟨b0,o0,au⟩ (.int .i64 n)):=by
 obtain⟨K,hK0,O,B,Tz,h1,h2,h3,h4,h5,h6,h7,h8,h9⟩:=h;obtain⟨b,cap,b0,o0,c0,g1,g2,g3,g4,g5,_,g7⟩:=h2.first;have hb0:=h5 b0 g5;refine⟨b,cap,b0,o0,c0,g1,g2,g3,g4,hb0.1,λn=> ?_⟩;have hbk:∀q,q≠b0->(w.setCell ⟨b0,o0,au⟩ (.int .i64 n)).heap[q]? =w.heap[q]? :=λq hq=>gL _ _ _ _ _ hq
 refine⟨K,hK0.size (by rw[gC];exact bx _),O,B,Tz,?_,g7 n,h3.fI λq hq=>hbk q λe=>(h4 q hq).1 (e▸g5),λq hq=>by rw[gC];exact h4 q hq,λq hq=>by rw[gC];exact h5 q hq,λq hq=>by rw[gC];exact h6 q hq,
  h7.on (λ_ h=>h) λq hq=>hbk q λe=>hb0.2.2.1 (e▸hq),by rw[gC];exact h8,by rw[gC];exact h9⟩
 refine h1.aaE (λq hq=>hbk q λe=>hb0.2.2.1 (e▸hq)) λq hq=> ?_;rw[aT]at hq;subst hq;exact hbk _ λe=>hb0.2.2.2 e.symm
def Mst.fin(h:Mst P φ S e eI K0 x v3 xs oc jx rK w):gY φ w (λb=>S<=b/\b<w.heap.size) oc (.sl 1 (xs.map nO.enc)):=by obtain⟨K,hK0,O,B,Tz,h1,h2,h3,h4,h5,_⟩:=h;exact h2.data λb hb=>⟨(h5 b hb).1,(h5 b hb).2.1⟩
end
section
variable {P:bV} {φ:ax->ax}
end
section
variable {P:bV} {φ:ax->ax}
def aEz{w:aU}{K:ax->Prop}{ys:ah aw}:∀{vs:ah aL},dp φ w K vs ((ys.map kY.enc).flatMap A.cells)->vs=ys.map (fq .i64):=by induction ys with|nil=>intro vs h;cases h;rfl|cons y ys ih=>intro vs h;have h':dp φ w K vs (.int .i64 y::(ys.map kY.enc).flatMap A.cells):=h;cases h' with|cons v a vs ab h t=>cases h;rw[ih t];rfl
def agz{w:aU}{K:ax->Prop}:∀ys:ah aw,dp φ w K (ys.map (fq .i64)) ((ys.map kY.enc).flatMap A.cells) | []=>.nil |y::ys=>.cons _ _ _ _ (.int _ _) (agz ys)
def aFk{w:aU}{K:ax->Prop}{xs:ah (ah aw)}:∀{vs:ah aL},dp φ w K vs ((xs.map nO.enc).flatMap A.cells)->ae vs=ae xs/\∀(i:ax) (row:ah aw),xs[i]? =ai row->∃ad n cp,vs[i]? =ai (.slice ad n cp)/\gY φ w K (.slice ad n cp) (.sl 1 (row.map kY.enc)):=by induction xs with|nil=>intro vs h;cases h;exact⟨rfl,λi row h=>by simp at h⟩|cons x xs ih=>intro vs h;have h':dp φ w K vs (.sl 1 (x.map kY.enc)::(xs.map nO.enc).flatMap A.cells):=h;cases h' with|cons v a vs ab h t=>obtain⟨i1,i2⟩:=ih t;refine⟨by simp[i1],λi row hi=> ?_⟩;cases i with|zero=>cases hi;(have hs:∃ad n c,v=.slice ad n c:=by generalize hz:x.map kY.enc=zs at h;cases h with|Rx ad c z=>exact⟨_,_,_,rfl⟩|sl=>exact⟨_,_,_,rfl⟩);obtain⟨ad,n,c,rfl⟩:=hs;exact⟨ad,n,c,rfl,h⟩|succ i=>exact i2 i row hi
def aH7{w:aU}{K:ax->Prop}{v:aL}{xs:ah (ah aw)}(h:gY φ w K v (.sl 1 (xs.map nO.enc))): (∃ad cp,v=.slice ad (ae xs) cp)/\∀(i:ax) (row:ah aw),xs[i]? =ai row->∃b o cap ad n cp,v=.slice (ai ⟨b,o,au⟩) (ae xs) cap/\w.cell? ⟨b,o+i,au⟩=ai (.slice ad n cp)/\K b/\gY φ w K (.slice ad n cp) (.sl 1 (row.map kY.enc)):=by generalize hy:xs.map nO.enc=ys at h;cases h with|Rx ad c z=>(obtain rfl:xs=[]:=by cases xs with|nil=>rfl|cons=>simp at hy);exact⟨⟨_,_,rfl⟩,λi row h=>by simp at h⟩|sl b o cap z _ vs hb hz hc hr hv=>subst hy;obtain⟨i1,i2⟩:=aFk hr;refine⟨⟨_,_,by rw[bf]⟩,λi row hi=> ?_⟩;obtain⟨ad,n,cp,h1,h2⟩:=i2 i row hi;exact⟨b,o,cap,ad,n,cp,by rw[bf],hv i _ h1,hb,h2⟩
def qf.aOF{e:bO}{xs:ah (ah aw)}{v:aL}{O:ax->Prop}{w:aU}(h:qf φ e xs v O w){jx:ah aw}{a:aq afQ}{n cp:ax}{Tz:aq ax}(hr:eL φ w (λ_=>JW) (.slice a n cp) 1 (jx.map kY.enc) Tz)(dE:∀b,Tz=ai b->b<w.heap.size) (hd:∀b,Tz=ai b->¬O b) (hO:∀b,O b->b<w.heap.size) {t:bO} (ht:P.underlying t=ai (.slice e)) {i:WJ} (hi:P.info? e=ai i) (hz:i.size=1) {zv:aL} (hzv:i.zero=ai zv) (hzs:zv.cells.size=1) (hb:i.bytes<=128) (fm:ae xs+1<1099511627776) {bu:ax} {D:kZ aL} {tu:bO} (hu:w.heap[bu]? =ai (.cells D tu)) (hx:D[0]? =ai (.slice a n cp)) (c:ax) (ty:bO): ∃ad n' cp' w',(fH #[t,t] ty #[v,.slice (ai ⟨bu,0,au⟩) 1 c]).run P w=.ok (.slice ad n' cp') w'/\w.heap.size<=w'.heap.size/\w'.os=w.os/\w'.output=w.output/\ (∀q,q<w.heap.size->¬O q->w'.heap[q]? =w.heap[q]?)/\qf φ e (xs++ [jx]) (.slice ad n' cp') (λb=>O b\/Tz=ai b\/(w.heap.size<=b/\b<w'.heap.size)) w':=by
 obtain⟨vs,ob,rb,h1,h2,h3,h4,h5⟩:=h;obtain⟨ad,n',cp',w',ob',e1,e2,e3,e4,e5,e6,e7⟩:=h1.app ht hi hz hzv hzs hb (by rw[h2];exact fm) hu hx rfl c ty;have iS:∀q,q<w.heap.size->¬O q->w'.heap[q]? =w.heap[q]? :=λq hq hn=>e4 q hq λe=>hn (h3 q e);have aEa:∀b,Tz=ai b->w'.heap[b]? =w.heap[b]? :=λb hb=>iS b (dE b hb) (hd b hb);refine⟨ad,n',cp',w',e1,e3,e6,e7,iS,vs++ [.slice a n cp],ob',λj=>if j=ae xs then Tz else rb j,e2,by simp[h2],λb hb=> ?_,λj hj=> ?_,λi j b hij hj hb1 hb2=> ?_⟩
 .rcases e5 with rfl|⟨q,rfl,q1,q2⟩
  .exact .inl (h3 b hb)
  .cases hb;exact .inr (.inr ⟨q1,q2⟩)
 .rw[bg,cT]at hj;rcases bL j (ae xs)with hjl|hjl
  .obtain⟨⟨ad0,n0,cp0,a1,a2⟩,a3⟩:=h4 j hjl;(have hnj:j≠ae xs:=by omega);simp only[hnj,aJ];(have Jm:rowAt (xs++ [jx]) j=rowAt xs j:=by simp[rowAt,dM hjl]);rw[Jm];refine⟨⟨ad0,n0,cp0,by rw[dM (by omega)];exact a1,a2.aiE λb hb=>e4 b (hO b (a3 b hb).1) (a3 b hb).2⟩,λb hb=>⟨.inl (a3 b hb).1,λe=> ?_⟩⟩;(rcases e5 with rfl|⟨q,rfl,q1,q2⟩);(·exact(a3 b hb).2 e);·cases e;have:=hO _ (a3 _ hb).1;omega
  ·(obtain rfl:j=ae xs:=by omega);simp only[aK];(have Jm:rowAt (xs++ [jx]) (ae xs)=jx:=by simp[rowAt]);rw[Jm];refine⟨⟨a,n,cp,by rw[<-h2];simp,hr.aiE aEa⟩,λb hb=>⟨.inr (.inl hb),λe=> ?_⟩⟩;(rcases e5 with rfl|⟨q,rfl,q1,q2⟩);(·exact hd b hb (h3 b e));·cases e;have:=dE _ hb;omega
 .rw[bg,cT]at hj;have hni:i≠ae xs:=by omega
  simp only[hni,aJ]at hb1;rcases bL j (ae xs)with hjl|hjl
  ·(have hnj:j≠ae xs:=by omega);simp only[hnj,aJ]at hb2;exact h5 i j b hij hjl hb1 hb2
  ·(obtain rfl:j=ae xs:=by omega);simp only[aK]at hb2;exact hd b hb2 ((h4 i hij).2 b hb1).1
def ark{xs:ah (ah aw)}{i j:ax}{r:ah aw}(hi:i<ae xs):rowAt (xs.set i r) j=if i=j then r else rowAt xs j:=by
 simp only[rowAt,ail];split;·rename_i h;subst h;rfl
 .rfl
def qf.aOM{e:bO}{xs:ah (ah aw)}{v:aL}{O:ax->Prop}{w:aU}(h:qf φ e xs v O w){i:ax}(hi:i<ae xs): ∃b cap ad cp,v=.slice (ai ⟨b,0,au⟩) (ae xs) cap/\w.cell? ⟨b,i,au⟩=ai (.slice ad (ae (rowAt xs i)) cp):=by obtain⟨vs,ob,rb,h1,h2,h3,h4,h5⟩:=h;obtain⟨⟨ad,n,cp,a1,a2⟩,a3⟩:=h4 i hi;cases h1 with|empty ad=>simp at h2;omega|mk b cap C vs hC Aq wi h0 oz=>have auS:=oz i (by omega);rw[a1]at auS;(have hn:n=ae (rowAt xs i):=by generalize hz:(rowAt xs i).map kY.enc=zs at a2;generalize rb i=r0 at a2;(have hzl:ae zs=ae (rowAt xs i):=by rw[<-hz];simp);cases a2 with|empty=>rw[<-hzl];rfl|mk=>exact hzl);exact⟨b,cap,ad,cp,by rw[<-h2],by rw[<-hn];simp[b9,hC,auS]⟩
def qf.at{e:bO}{xs:ah (ah aw)}{v:aL}{O:ax->Prop}{w:aU}(h:qf φ e xs v O w){i k:ax}{y:aw}(hi:i<ae xs)(hk:(rowAt xs i)[k]? =ai y): ∃b cap b0 o0 c0,v=.slice (ai ⟨b,0,au⟩) (ae xs) cap/\w.cell? ⟨b,i,au⟩=ai (.slice (ai ⟨b0,o0,au⟩) (ae (rowAt xs i)) c0)/\w.cell? ⟨b0,o0+k,au⟩=ai (.int .i64 y)/\w.frozen? ⟨b0,o0+k,au⟩=aA/\O b0/\(O b/\b≠b0)/\ ∀x,qf φ e (xs.set i ((rowAt xs i).set k x)) v O (w.setCell ⟨b0,o0+k,au⟩ (.int .i64 x)):=by
 obtain⟨vs,ob,rb,h1,h2,h3,h4,h5⟩:=h;obtain⟨⟨ad,n,cp,a1,a2⟩,a3⟩:=h4 i hi;have hkl:k<ae (rowAt xs i):=by(rcases bL k (ae (rowAt xs i))with h|h);(·exact h);·simp[bU h]at hk
 cases h1 with|empty ad=>simp at h2;omega|mk b cap C vs hC Aq wi h0 oz=>generalize hv:U7 ad n cp=sv at a2;generalize LD:(rowAt xs i).map kY.enc=zs at a2;generalize hrb:rb i=r0 at a2;(have eJ:ae zs=ae (rowAt xs i):=by rw[<-LD];simp);cases a2 with|empty ad1 z=>simp at eJ;omega|mk b0 o0 c0 z zs us hc hc0 Qz R8 hvv gM=>have auS:=oz i (by omega);rw[a1]at auS;have iS:b≠b0:=λe=>(a3 b0 hrb).2 (by rw[e]);subst LD;have hus:=aEz R8;have WY:=gM.cell (j:=o0+k) (by omega);refine⟨b,cap,b0,o0,c0,by rw[<-h2],?_,hvv k _ (by rw[hus,cC,hk];rfl),WY.2,(a3 b0 hrb).1,⟨h3 b rfl,iS⟩,λx=> ?_⟩;(·rw[<-eJ,<-hv];simp[b9,hC,auS]);·have hbk:∀q,q≠b0->(w.setCell ⟨b0,o0+k,au⟩ (.int .i64 x)).heap[q]? =w.heap[q]? :=λq hq=>gL _ _ _ _ _ hq;refine⟨vs,ai b,rb,.mk b cap C vs ((hbk b iS).trans hC) Aq wi h0 oz,by rw[h2,Ow],h3,λj hj=> ?_,λi j q hij hj=>h5 i j q hij (by rwa[Ow]at hj)⟩;rw[Ow]at hj;rw[ark hi];split;(·rename_i e;subst e;refine⟨⟨ad,n,cp,a1,?_⟩,a3⟩;rw[hv,hrb];(have hxl:ae (((rowAt xs i).set k x).map kY.enc)=ae ((rowAt xs i).map kY.enc):=by simp);have:=eL.mk (φ:=φ) (w:=w.setCell ⟨b0,o0+k,au⟩ (.int .i64 x)) (K:=λ_=>JW) b0 o0 c0 1 (((rowAt xs i).set k x).map kY.enc) (((rowAt xs i).set k x).map (fq .i64)) (by rw[hxl];exact hc) hc0 (λy hy=>by obtain⟨z,_,rfl⟩:=dF.1 hy;rfl) (agz _) (λj u hj=>by rw[cC,ail]at hj;split at hj;(·rename_i e;subst e;cases hj;exact aqh _ _ _ WY.1);·rename_i e;rw[aqg _ _ _ _ (by simp<;>omega)];exact hvv j u (by rw[hus,cC];exact hj)) (K5 gM);rw[hxl]at this;exact this);·rename_i e;obtain⟨⟨ad',n',cp',g1,g2⟩,g3⟩:=h4 j hj;refine⟨⟨ad',n',cp',g1,g2.aiE λq hq=>hbk q λe'=> ?_⟩,g3⟩;(rcases Nat.lt_or_gt_of_ne e with h|h);(·exact h5 i j b0 h hj hrb (by rw[<-e'];exact hq));·exact h5 j i b0 h hi (by rw[<-e'];exact hq) hrb
end
def px(by_ le n:aw):aw:=if n<=le then n else if n-by_<le then le else n-by_
def Y9(own:ah aw->aq (ah aw)):ah (ah aw)->aq (ah (ah aw)) | []=>ai [] |r::rs=>af (own r) λr'=>(Y9 own rs).map λt=>r'::t
def an3(r:ah aw):aW:=ao (ae r<=1000)&&r.all λn=>ao (-1000000<=n)&&ao (n<=1000000)
def aDx(own:ah aw->aq (ah aw))(xs:ah (ah aw))(by_ le:aw):aq (ah (ah aw)):=if ae xs<=1000/\ -1000000<=by_/\by_<=1000000/\ -1000000<=le/\le<=1000000 then af (Y9 own xs) λys=>if ys.all an3=aB then ai (ys.map λr=>r.map (px by_ le))else au else au
noncomputable def LF(own:ah aw->aq (ah aw)):Callee:={io:=[],ps:=[.d (.one (.sl nO)),.d kY,.d kY],rs:=[.d (.one (.sl nO))],os:=[],f:=λx=>aDx own x.1 x.2.1 x.2.2.1}
structure ac6(P:bV)(fn no:ax):Prop where
 en:lA P fn
 run:∀(φ:ax->ax) (go:ax) (own:ah aw->aq (ah aw)),φ go=no->
  (∀r r',own r=ai r'->dx P φ go [.sl 1 (r.map kY.enc)] [.tok 0 1 (r'.map kY.enc)] [])->
  ∀(xs:ah (ah aw)) (by_ le:aw) (ys:ah (ah aw)),aDx own xs by_ le=ai ys->
  ∀(w:aU) (K:ax->Prop) (v:aL),gY φ w K v (.sl 1 (xs.map nO.enc))->(∀b,K b->b<w.heap.size)->Dv P K w->
  fF P fn #[v,.int .i64 by_,.int .i64 le] w λr w'=>∃ad n cp,r=.returned (.slice ad n cp)/\Lo w.heap.size w w'/\gY φ w' (λb=>w.heap.size<=b/\b<w'.heap.size) (.slice ad n cp) (.sl 1 (ys.map nO.enc))
section
variable {P:bV} {φ:ax->ax}
def avI{own:ah aw->aq (ah aw)}{fn no g go:ax}(L:ac6 P fn no)(hφ: [g,go].map φ=[fn,no]) (oo:∀r r',own r=ai r'->dx P φ go [.sl 1 (r.map kY.enc)] [.tok 0 1 (r'.map kY.enc)] []):oQ P φ g (LF own):=by
 simp only[aY,gJ,dU,pN]at hφ;obtain⟨h1,h2⟩:=hφ;refine oQ.mK (by rw[h1];exact L.en) rfl rfl λx y hy=> ?_;obtain⟨x,b,l,⟨⟩⟩:=x;have e1:KJ (LF own).ps (x,b,l,())=[.sl 1 ((show ah (ah aw)from x).map nO.enc),.int .i64 b,.int .i64 l]:=by have q:((ET.one (.sl nO)).v (show ah (ah aw)from x)).a=(ET.one (.sl nO)).enc (show ah (ah aw)from x):=ET.v_a _ _;exact wE (λz=>([z,.int .i64 b,.int .i64 l]:ah A)) q
 have e2:JD (LF own) y=([.sl 1 ((show ah (ah aw)from y).map nO.enc)],[]):=by have q:((ET.one (.sl nO)).v (show ah (ah aw)from y)).a=(ET.one (.sl nO)).enc (show ah (ah aw)from y):=ET.v_a _ _;exact wE (λz=>(([z]:ah A),([]:ah A))) q
 have e3:=wE (λz=>dx P φ g z (JD (LF own) y).1 (JD (LF own) y).2) e1;refine e3.mpr ?_;rw[e2];refine dx.aLk rfl λw K vs hr hK hG=> ?_;cases hr with|cons v _ vs _ hv t=>cases t with|cons v2 _ vs2 _ hv2 t2=>cases t2 with|cons v3 _ vs3 _ hv3 t3=>cases t3;cases hv2;cases hv3;have:=L.run φ go own h2 oo x b l y hy w K v hv hK hG;rw[h1];exact this.mono λe w' hq=>by obtain⟨ad,n,cp,q1,q2,q3⟩:=hq;exact⟨_,q1,q2,q3⟩
end
def LV(b le:aw)(ys:ah (ah aw))(i k:ax):ah (ah aw):=(ys.take i).map (λr=>r.map (px b le))++((((rowAt ys i).take k).map (px b le)++(rowAt ys i).drop k)::ys.drop (i+1))
def YX{b le:aw}{ys:ah (ah aw)}{i k:ax}(hi:i<ae ys):ae (LV b le ys i k)=ae ys:=by simp only[LV,bg,bf,cO,bl,dR];omega
def afY{b le:aw}{ys:ah (ah aw)}{i k:ax}(hi:i<ae ys):rowAt (LV b le ys i k) i=((rowAt ys i).take k).map (px b le)++(rowAt ys i).drop k:=by
 have h:ae ((ys.take i).map (λr=>r.map (px b le)))=i:=by simp;omega
 simp only[rowAt,LV];rw[fR (by rw[h];exact bx _),h,Qu];rfl
def ac9{b le:aw}{ys:ah (ah aw)}{i k:ax}(hi:i<ae ys)(hk:k<=ae (rowAt ys i)):ae (rowAt (LV b le ys i k) i)=ae (rowAt ys i):=by rw[afY hi];simp only[bg,bf,cO,dR];omega
def aDu{b le:aw}{ys:ah (ah aw)}{i k:ax}(hi:i<ae ys){y:aw}(hk:(rowAt ys i)[k]? =ai y):(rowAt (LV b le ys i k) i)[k]? =ai y:=by
 have hkl:k<ae (rowAt ys i):=by(rcases bL k (ae (rowAt ys i))with h|h);(·exact h);·simp[bU h]at hk
 have h:ae (((rowAt ys i).take k).map (px b le))=k:=by simp;omega
 rw[afY hi,fR (by rw[h];exact bx _),h,Qu,FD];exact hk
def axc{b le:aw}{ys:ah (ah aw)}{i k:ax}(hi:i<ae ys){y:aw}(hk:(rowAt ys i)[k]? =ai y): (LV b le ys i k).set i ((rowAt (LV b le ys i k) i).set k (px b le y))=LV b le ys i (k+1):=by
 have hkl:k<ae (rowAt ys i):=by(rcases bL k (ae (rowAt ys i))with h|h);(·exact h);·simp[bU h]at hk
 have hy:(rowAt ys i)[k]=y:=by rw[aE hkl]at hk;exact cA hk
 have h:ae ((ys.take i).map (λr=>r.map (px b le)))=i:=by simp;omega
 have h2:ae (((rowAt ys i).take k).map (px b le))=k:=by simp;omega
 rw[afY hi];have e:(((rowAt ys i).take k).map (px b le)++(rowAt ys i).drop k).set k (px b le y)=((rowAt ys i).take (k+1)).map (px b le)++(rowAt ys i).drop (k+1):=by rw[ba hkl,aCF _ _ (by rw[h2];exact bx _),h2,Qu,aGT,WL,hk,dP];simp
 rw[e];simp only[LV];rw[aCF _ _ (by rw[h];exact bx _),h,Qu,aGT]
def axd{b le:aw}{ys:ah (ah aw)}{i:ax}(hi:i<ae ys):LV b le ys i 0=(ys.take i).map (λr=>r.map (px b le))++ys.drop i:=by simp only[LV,LS,gJ,cJ,cL];rw[ba hi];simp[rowAt,aE hi]
def axb{b le:aw}{ys:ah (ah aw)}{i:ax}(hi:i<ae ys):LV b le ys i (ae (rowAt ys i))=(ys.take (i+1)).map (λr=>r.map (px b le))++ys.drop (i+1):=by simp only[LV,bc,ac4,cD];rw[WL,aE hi,dP];simp[rowAt,aE hi]
end Go.Ab
namespace Go.Ab
@[reducible] def iz:ET:=.agg (.cons .str (.cons (.int .i64) (.cons (.int .i64) (.cons (.int .i64) .nil))))
def Vg(row:ah aw)(a n:aw):aW:=ao (a+n<=40/\∀m,m<n.toNat->row[a.toNat+m]? =ai 0)
def xJ(row:ah aw)(a n:ax)(v:aw):ah aw:=row.take a++bK n v++row.drop (a+n)
abbrev PwR:=aW×aW×ah (ah aw)×aw
def af4(rec:ah (ah aw)->aw->PwR)(i:ax)(n FE k:aw):ax->aw->ah (ah aw)->aw->PwR ⊕ (ah (ah aw)×aw) |0,_,bJ,left=>.inr (bJ,left) |f+1,d,bJ,left=>if d+n-1<=FE then if Vg (rowAt bJ i) d n=aB then if left=0 then .inl (aA,aA,bJ,left)else if(rec (bJ.set i (xJ (rowAt bJ i) d.toNat n.toNat (k+1))) (left-1)).1=aB\/(rec (bJ.set i (xJ (rowAt bJ i) d.toNat n.toNat (k+1))) (left-1)).2.1=aA then .inl (rec (bJ.set i (xJ (rowAt bJ i) d.toNat n.toNat (k+1))) (left-1))else af4 rec i n FE k f (d+1) ((rec (bJ.set i (xJ (rowAt bJ i) d.toNat n.toNat (k+1))) (left-1)).2.2.1.set i (xJ (rowAt (rec (bJ.set i (xJ (rowAt bJ i) d.toNat n.toNat (k+1))) (left-1)).2.2.1 i) d.toNat n.toNat 0)) (rec (bJ.set i (xJ (rowAt bJ i) d.toNat n.toNat (k+1))) (left-1)).2.2.2 else af4 rec i n FE k f (d+1) bJ left else .inr (bJ,left)
def as9(rec:ah (ah aw)->aw->PwR)(fst n FE k:aw):ax->ax->ah (ah aw)->aw->PwR ⊕ (ah (ah aw)×aw)
 |0,_,bJ,left=>.inr (bJ,left)
 |m+1,i,bJ,left=>
  match af4 rec i n FE k (FE+1-fst).toNat fst bJ left with
  |.inl r=>.inl r
  |.inr p=>as9 rec fst n FE k m (i+1) p.1 p.2
def wkD(x:iz.ty):aw:=x.2.1
def wkF(x:iz.ty):aw:=x.2.2.1
def wkL(x:iz.ty):aw:=x.2.2.2.1
def JR:ah iz.ty->aw->ah (ah aw)->aw->PwR
 | [],_,bJ,left=>(aB,aB,bJ,left)
 |x::xs,k,bJ,left=>
  match as9 (JR xs (k+1)) (wkF x) (wkD x) (wkL x) k (ae bJ) 0 bJ left with
  |.inl r=>r
  |.inr p=>(aA,aB,p.1,p.2)
def Uv(x:iz.ty):aW:=ao (1<=wkD x)&&ao (wkD x<=40)&&ao (0<=wkF x)&&ao (wkF x<=39)&&ao (0<=wkL x)&&ao (wkL x<=39)
def X0(vw:ah iz.ty->aq aW)(ada:aw)(rj:ah iz.ty)(cu:aw):aq (ah (ah aw)×aw):=af (vw rj) λv=>if v=aA then ai ([],1)else if¬(1<=ada/\ada<=6/\1<=cu/\cu<=20000)then ai ([],2)else if ae rj<=1000/\rj.all Uv=aB then if(JR rj 0 (bK ada.toNat (bK 40 0)) cu).2.1=aA then ai ([],5)else if(JR rj 0 (bK ada.toNat (bK 40 0)) cu).1=aA then ai ([],3)else ai ((JR rj 0 (bK ada.toNat (bK 40 0)) cu).2.2.1,0)else au
def Db{row:ah aw}{a n:ax}{v:aw}(h:a+n<=ae row):ae (xJ row a n v)=ae row:=by simp only[xJ,bg,cO,LQ,dR];omega
def amc(row:ah aw)(a:ax)(v:aw):xJ row a 0 v=row:=by simp[xJ]
def aqB{row:ah aw}{a n:ax}{v:aw}(h:a+n<=ae row)(j:ax):(xJ row a n v)[j]? =if a<=j/\j<a+n then ai v else row[j]? :=by
 unfold xJ;rcases bL j a with h1|h1
 .rw[aP (by omega),df,dM (by simp;omega),sq,aQ h1]
 .rcases bL j (a+n)with h2|h2
  .rw[aQ ⟨h1,h2⟩,dM (by simp;omega),fR (by simp;omega),aDe,aQ (by simp;omega)]
  .rw[aP (by omega),fR (by simp;omega),FD];congr 1;simp;omega
def amb{row:ah aw}{a t:ax}{v:aw}(h:a+t<ae row):(xJ row a t v).set (a+t) v=xJ row a (t+1) v:=by
 apply List.ext_getElem?;intro j;rw[ail,aqB (by omega),aqB (by omega),Db (by omega)];by_cases h1:a+t=j;·subst h1;rw[aQ rfl,aQ h,aQ (by omega)]
 .rw[aP h1];by_cases h2:a<=j/\j<a+t;·rw[aQ h2,aQ (by omega)]
  .rw[aP h2,aP (by omega)]
def RI(e:bO)(b:ax)(row:ah aw)(w:aU):Prop:=w.heap[b]? =ai (.cells (row.map (fq .i64)).toArray e)
def RI.cell{e:bO}{b:ax}{row:ah aw}{w:aU}(h:RI e b row w){k:ax}{y:aw}(hk:row[k]? =ai y):w.cell? ⟨b,k,au⟩=ai (.int .i64 y):=by have h':w.heap[b]? =ai (.cells (row.map (fq .i64)).toArray e):=h;simp[b9,h',hk]
def RI.frozen{e:bO}{b:ax}{row:ah aw}{w:aU}(h:RI e b row w)(k:ax):w.frozen? ⟨b,k,au⟩=aA:=by have h':w.heap[b]? =ai (.cells (row.map (fq .i64)).toArray e):=h;simp[yT,h']
def RI.set{e:bO}{b:ax}{row:ah aw}{w:aU}(h:RI e b row w)(k:ax)(y:aw):RI e b (row.set k y) (w.setCell ⟨b,k,au⟩ (.int .i64 y)):=by have:=Nb h k (.int .i64 y);show(w.setCell ⟨b,k,au⟩ (.int .i64 y)).heap[b]? =_;rw[this];congr 2;apply aa7;simp[aqj]
def RI.lt{e:bO}{b:ax}{row:ah aw}{w:aU}(h:RI e b row w):b<w.heap.size:=by
 rcases bL b w.heap.size with h1|h1
 .exact h1
 .have h':w.heap[b]? =ai (.cells (row.map (fq .i64)).toArray e):=h;rw[qd h1]at h';cases h'
def aDG(rec:ah (ah aw)->aw->PwR)(fst n FE k:aw)(m i:ax):PwR ⊕ (ah (ah aw)×aw)->PwR ⊕ (ah (ah aw)×aw) |.inl r=>.inl r |.inr p=>as9 rec fst n FE k m (i+1) p.1 p.2
def axq:PwR ⊕ (ah (ah aw)×aw)->PwR |.inl r=>r |.inr p=>(aA,aB,p.1,p.2)
def arl(rec:ah (ah aw)->aw->PwR)(fst n FE k:aw)(m i:ax)(bJ:ah (ah aw))(left:aw): as9 rec fst n FE k (m+1) i bJ left=aDG rec fst n FE k m i (af4 rec i n FE k (FE+1-fst).toNat fst bJ left):=by rw[as9];cases af4 rec i n FE k (FE+1-fst).toNat fst bJ left<;>rfl
def arv(x:iz.ty)(xs:ah iz.ty)(k:aw)(bJ:ah (ah aw))(left:aw): JR (x::xs) k bJ left=axq (as9 (JR xs (k+1)) (wkF x) (wkD x) (wkL x) k (ae bJ) 0 bJ left):=by rw[JR];cases as9 (JR xs (k+1)) (wkF x) (wkD x) (wkL x) k (ae bJ) 0 bJ left<;>rfl
structure PwD(n Bp pb:ax)(rb:ax->ax):Prop where
 a:∀j,j<n->rb j≠Bp/\rb j≠pb
 b:pb≠Bp
 c:∀i j,i<n->j<n->rb i=rb j->i=j
structure Oy(T e tI:bO)(Bp pb:ax)(rb:ax->ax)(n cv:ax)(lv:aL)(tl:ah aL)(bJ:ah (ah aw))(left:aw)(w:aU):Prop where
 box:w.heap[Bp]? =ai (.cells (lv::.slice (ai ⟨pb,0,au⟩) n cv::.int .i64 left::tl).toArray T)
 len:ae bJ=n
 pl:∃C,w.heap[pb]? =ai (.cells C e)/\∀j,j<n->C[j]? =ai (.slice (ai ⟨rb j,0,au⟩) 40 40)
 row:∀j,j<n->RI tI (rb j) (rowAt bJ j) w/\ae (rowAt bJ j)=40
section
variable {T e tI:bO} {Bp pb n cv:ax} {rb:ax->ax} {lv:aL} {tl:ah aL} {bJ:ah (ah aw)} {left:aw} {w:aU}
def Oy.fI(h:Oy T e tI Bp pb rb n cv lv tl bJ left w){w':aU}(h1:w'.heap[Bp]? =w.heap[Bp]?)(h2:w'.heap[pb]? =w.heap[pb]?)(h3:∀j,j<n->w'.heap[rb j]? =w.heap[rb j]?):Oy T e tI Bp pb rb n cv lv tl bJ left w':=by obtain⟨a,b,⟨C,c1,c2⟩,d⟩:=h;exact⟨h1.trans a,b,⟨C,h2.trans c1,c2⟩,λj hj=>⟨(h3 j hj).trans (d j hj).1,(d j hj).2⟩⟩
def Oy.cell(h:Oy T e tI Bp pb rb n cv lv tl bJ left w){j:ax}(hj:j<n):w.cell? ⟨pb,j,au⟩=ai (.slice (ai ⟨rb j,0,au⟩) 40 40):=by obtain⟨C,c1,c2⟩:=h.pl;simp[b9,c1,c2 j hj]
def Oy.c0(h:Oy T e tI Bp pb rb n cv lv tl bJ left w):w.cell? ⟨Bp,0,au⟩=ai lv:=by simp[b9,h.box]
def Oy.c1(h:Oy T e tI Bp pb rb n cv lv tl bJ left w):w.cell? ⟨Bp,1,au⟩=ai (.slice (ai ⟨pb,0,au⟩) n cv):=by simp[b9,h.box]
def Oy.c2(h:Oy T e tI Bp pb rb n cv lv tl bJ left w):w.cell? ⟨Bp,2,au⟩=ai (.int .i64 left):=by simp[b9,h.box]
def Oy.fz(h:Oy T e tI Bp pb rb n cv lv tl bJ left w)(k:ax):w.frozen? ⟨Bp,k,au⟩=aA:=by simp[yT,h.box]
def Di{w:aU}{b:ax}{o:Obj}(h:w.heap[b]? =ai o):b<w.heap.size:=by
 rcases bL b w.heap.size with h1|h1
 .exact h1
 .rw[qd h1]at h;cases h
def Oy.lts(h:Oy T e tI Bp pb rb n cv lv tl bJ left w):Bp<w.heap.size/\pb<w.heap.size/\∀j,j<n->rb j<w.heap.size:=by obtain⟨C,c1,_⟩:=h.pl;exact⟨Di h.box,Di c1,λj hj=>(h.row j hj).1.lt⟩
def Oy.alloc(h:Oy T e tI Bp pb rb n cv lv tl bJ left w)(o:Obj):Oy T e tI Bp pb rb n cv lv tl bJ left (w.alloc o):=by obtain⟨h1,h2,h3⟩:=h.lts;exact h.fI (iN _ _ h1) (iN _ _ h2) λj hj=>iN _ _ (h3 j hj)
def Oy.aaF(h:Oy T e tI Bp pb rb n cv lv tl bJ left w)(D:PwD n Bp pb rb)(l:aw):Oy T e tI Bp pb rb n cv lv tl bJ l (w.setCell ⟨Bp,2,au⟩ (.int .i64 l)):=by obtain⟨a,b,⟨C,c1,c2⟩,d⟩:=h;refine⟨?_,b,⟨C,(gL _ _ _ _ _ D.b).trans c1,c2⟩,λj hj=>⟨(gL _ _ _ _ _ (D.a j hj).1).trans (d j hj).1,(d j hj).2⟩⟩;rw[Nb a 2 (.int .i64 l)];rfl
def Oy.tail(h:Oy T e tI Bp pb rb n cv lv tl bJ left w)(D:PwD n Bp pb rb)(k:ax)(v:aL):Oy T e tI Bp pb rb n cv lv (tl.set k v) bJ left (w.setCell ⟨Bp,k+3,au⟩ v):=by obtain⟨a,b,⟨C,c1,c2⟩,d⟩:=h;refine⟨?_,b,⟨C,(gL _ _ _ _ _ D.b).trans c1,c2⟩,λj hj=>⟨(gL _ _ _ _ _ (D.a j hj).1).trans (d j hj).1,(d j hj).2⟩⟩;rw[Nb a (k+3) v,List.setIfInBounds_toArray];rfl
def Oy.aFF(h:Oy T e tI Bp pb rb n cv lv tl bJ left w)(D:PwD n Bp pb rb){i:ax}(hi:i<n){row:ah aw}{w':aU}(hr:RI tI (rb i) row w')(hl:ae row=40)(hw:Rg (λc=>c=rb i) w w'): Oy T e tI Bp pb rb n cv lv tl (bJ.set i row) left w':=by
 obtain⟨a,b,⟨C,c1,c2⟩,d⟩:=h;have up:∀c o,w.heap[c]? =ai o->c≠rb i->w'.heap[c]? =ai o:=λc o hc hn=>(hw.block c (by(rcases bL c w.heap.size with h|h);(·exact h);·rw[qd h]at hc;cases hc) hn).trans hc;refine⟨up _ _ a λe=>(D.a i hi).1 e.symm,by rw[Ow];exact b,⟨C,up _ _ c1 λe=>(D.a i hi).2 e.symm,c2⟩,λj hj=> ?_⟩;rw[ark (by rw[b];exact hi)];split;·rename_i e;subst e;exact⟨hr,hl⟩
 .rename_i iS;exact⟨up _ _ (d j hj).1 λe=>iS (D.c i j hi hj e.symm),(d j hj).2⟩
end
def aAn{φ:ax->ax}{w:aU}{K:ax->Prop}{v:aL}{xs:ah iz.ty}(h:gY φ w K v (.sl 4 (xs.map iz.enc))): (∃ad cp,v=.slice ad (ae xs) cp)/\∀(i:ax) (x:iz.ty),xs[i]? =ai x->∃b o cap,v=.slice (ai ⟨b,o,au⟩) (ae xs) cap/\K b/\ w.cell? ⟨b,o+i*4,au⟩=ai (.string ⟨x.1.toArray⟩)/\w.cell? ⟨b,o+i*4+1,au⟩=ai (.int .i64 (wkD x))/\w.cell? ⟨b,o+i*4+2,au⟩=ai (.int .i64 (wkF x))/\w.cell? ⟨b,o+i*4+3,au⟩=ai (.int .i64 (wkL x)):=by generalize hy:xs.map iz.enc=ys at h;cases h with|Rx ad c z=>(obtain rfl:xs=[]:=by cases xs with|nil=>rfl|cons=>simp at hy);exact⟨⟨_,_,rfl⟩,λi x h=>by simp at h⟩|sl b o cap z _ vs hb hz hc hr hv=>subst hy;refine⟨⟨_,_,by rw[bf]⟩,λi x hi=> ?_⟩;refine⟨b,o,cap,by rw[bf],hb,?_⟩;have h1:=(hr.drop (i*4)).take (iz.enc x).cells.length;rw[<-su hz]at h1;(have tT:i<ae xs:=by(rcases bL i (ae xs)with h|h);(·exact h);·rw[bU h]at hi;cases hi);(have hx:xs[i]=x:=by rw[aE tT]at hi;exact cA hi);rw[<-nz,ba tT,aY,cr,hx,List.take_left]at h1;have e4:=(hv.drop (i*4)).take (iz.enc x).cells.length;generalize (vs.drop (i*4)).take (iz.enc x).cells.length=us at h1 e4;obtain⟨x1,x2,x3,x4,⟨⟩⟩:=x;have h1':dp φ w K us [.str x1,.int .i64 x2,.int .i64 x3,.int .i64 x4]:=h1;cases h1' with|cons v1 _ vs1 _ r1 t1=>cases t1 with|cons v2 _ vs2 _ r2 t2=>cases t2 with|cons v3 _ vs3 _ r3 t3=>cases t3 with|cons v4 _ vs4 _ r4 t4=>cases t4;cases r1;cases r2;cases r3;cases r4;exact⟨e4 0 _ rfl,e4 1 _ rfl,e4 2 _ rfl,e4 3 _ rfl⟩
section
variable {P:bV} {φ:ax->ax} {T e tI:bO} {Bp pb n cv:ax} {rb:ax->ax} {lv:aL} {tl:ah aL} {bJ:ah (ah aw)} {left:aw} {w:aU}
def Oy.data(h:Oy T e tI Bp pb rb n cv lv tl bJ left w)(hn:n<=cv){K:ax->Prop}(hK:K pb/\∀j,j<n->K (rb j)):gY φ w K (.slice (ai ⟨pb,0,au⟩) n cv) (.sl 1 (bJ.map nO.enc)):=by
 have Jm:∀(j:ax),j<n->gY φ w K (.slice (ai ⟨rb j,0,au⟩) 40 40) (.sl 1 ((rowAt bJ j).map kY.enc)):=λj hj=>by obtain⟨r1,r2⟩:=h.row j hj;have:=gY.sl (φ:=φ) (w:=w) (ok:=K) (rb j) 0 40 1 ((rowAt bJ j).map kY.enc) ((rowAt bJ j).map (fq .i64)) (hK.2 j hj) (λx hx=>by obtain⟨z,_,rfl⟩:=dF.1 hx;rfl) (by rw[bf,r2];exact bx _) (agz _) (λk u hk=>by rw[cC]at hk;obtain⟨y,hy,rfl⟩:=aM.1 hk;rw[dL];exact r1.cell hy);rw[bf,r2]at this;exact this
 have rh:∀(k i:ax),i+k=n->dp φ w K ((ac5 i k).map λj=>U7 (ai ⟨rb j,0,au⟩) 40 40) (((bJ.drop i).map nO.enc).flatMap A.cells):=by intro k;induction k with|zero=>intro i hi;rw[br (by rw[h.len];omega)];exact .nil|succ k ih=>intro i hi;(have tT:i<ae bJ:=by rw[h.len];omega);(have e1:rowAt bJ i=bJ[i]:=by simp[rowAt,aE tT]);have:=Jm i (by omega);rw[e1]at this;rw[apj,aY,ba tT,aY,cr];exact .cons _ _ _ _ this (ih (i+1) (by omega))
 have r1:=rh n 0 (by omega);rw[cL]at r1;have:=gY.sl (φ:=φ) (w:=w) (ok:=K) pb 0 cv 1 (bJ.map nO.enc) _ hK.1 (λx hx=>by obtain⟨z,_,rfl⟩:=dF.1 hx;rfl) (by rw[bf,h.len];exact hn) r1 (λj u hj=>by rw[cC]at hj;obtain⟨y,hy,rfl⟩:=aM.1 hj;(have hjn:j<n:=by(rcases bL j n with h|h);(·exact h);·rw[bU (by simpa using h)]at hy;cases hy);rw[List.getElem?_range' hjn]at hy;cases hy;have:=h.cell hjn;simpa using this);rw[bf,h.len]at this;exact this
structure PwB(T e tI:bO)(S Bp:ax)(lv:aL)(tl:ah aL)(j:ax)(pv:aL)(left:aw)(w:aU):Prop where
 box:w.heap[Bp]? =ai (.cells (lv::pv::.int .i64 left::tl).toArray T)
 ex:∃(vs:ah aL) (ob:aq ax) (rb:ax->ax),LU w e pv vs ob/\ae vs=j/\
  (∀i,i<j->vs[i]? =ai (.slice (ai ⟨rb i,0,au⟩) 40 40)/\RI tI (rb i) (bK 40 0) w/\S<=rb i/\rb i≠Bp/\ob≠ai (rb i))/\
  (∀i k,i<j->k<j->rb i=rb k->i=k)/\∀b,ob=ai b->S<=b/\b≠Bp
def PwB.fI{S j:ax}{pv:aL}(h:PwB T e tI S Bp lv tl j pv left w)(hS:S<=Bp){w':aU}(hw:∀b,b<w.heap.size->w'.heap[b]? =w.heap[b]?):PwB T e tI S Bp lv tl j pv left w':=by obtain⟨h1,vs,ob,rb,h2,h3,h4,h5,h6⟩:=h;refine⟨(hw _ (Di h1)).trans h1,vs,ob,rb,h2.fI λb hb=>hw b (by subst hb;exact h2.lt),h3,λi hi=> ?_,h5,h6⟩;obtain⟨a1,a2,a3⟩:=h4 i hi;exact⟨a1,(hw _ a2.lt).trans a2,a3⟩
def PwB.step{S j:ax}{pv:aL}(h:PwB T e tI S Bp lv tl j pv left w)(hS:S<=w.heap.size)(hj:j<=1000){t:bO}(ht:P.underlying t=ai (.slice e)){i:WJ}(hi:P.info? e=ai i)(hz:i.size=1){zv:aL}(hzv:i.zero=ai zv)(hzs:zv.cells.size=1) (hb:i.bytes<=128) (c:ax) (ty:bO): ∃ad n cp w',(fH #[t,t] ty #[pv,.slice (ai ⟨w.heap.size+1,0,au⟩) 1 c]).run P ((w.alloc (.cells ((bK 40 (0:aw)).map (fq .i64)).toArray tI)).alloc (.cells #[.slice (ai ⟨w.heap.size,0,au⟩) 40 40] e))=.ok (.slice ad n cp) w'/\ w'.heap[Bp]? =w.heap[Bp]? /\PwB T e tI S Bp lv tl (j+1) (.slice ad n cp) left (w'.setCell ⟨Bp,1,au⟩ (.slice ad n cp))/\Lo S w w':=by
 obtain⟨h1,vs,ob,rb,h2,h3,h4,h5,h6⟩:=h;have hzA:(w.alloc (.cells ((bK 40 (0:aw)).map (fq .i64)).toArray tI)).heap.size=w.heap.size+1:=by simp
 have hzB:((w.alloc (.cells ((bK 40 (0:aw)).map (fq .i64)).toArray tI)).alloc (.cells #[.slice (ai ⟨w.heap.size,0,au⟩) 40 40] e)).heap.size=w.heap.size+2:=by simp
 have up:∀b,b<w.heap.size->((w.alloc (.cells ((bK 40 (0:aw)).map (fq .i64)).toArray tI)).alloc (.cells #[.slice (ai ⟨w.heap.size,0,au⟩) 40 40] e)).heap[b]? =w.heap[b]? :=λb hb=>(iN _ _ (by omega)).trans (iN _ _ hb);have Jm:((w.alloc (.cells ((bK 40 (0:aw)).map (fq .i64)).toArray tI)).alloc (.cells #[.slice (ai ⟨w.heap.size,0,au⟩) 40 40] e)).heap[w.heap.size]? =ai (.cells ((bK 40 (0:aw)).map (fq .i64)).toArray tI):=(iN _ _ (by omega)).trans (HB _ _ rfl);have hbp:=Di h1;obtain⟨ad,n',cp,w',ob',e1,e2,e3,e4,e5,e6,e7⟩:=(h2.fI (w':=(w.alloc (.cells ((bK 40 (0:aw)).map (fq .i64)).toArray tI)).alloc (.cells #[.slice (ai ⟨w.heap.size,0,au⟩) 40 40] e)) λb hb=>up b (by subst hb;exact h2.lt)).app ht hi hz hzv hzs hb (by omega) (HB _ _ (by rw[hzA])) rfl rfl c ty;rw[hzB]at e3 e4 e5;have aSb:ob≠ai Bp:=λq=>(h6 _ q).2 rfl;have hBp:w'.heap[Bp]? =w.heap[Bp]? :=(e4 _ (by omega) aSb).trans (up _ hbp);have aN3:∀b,ob=ai b->b<w.heap.size:=λb hb=>by subst hb;exact h2.lt
 have aHn:∀b,ob'=ai b->(S<=b/\b≠Bp)/\b≠w.heap.size/\∀q,q<w.heap.size->ob≠ai q->b≠q:=λb hb=>by(rcases e5 with rfl|⟨q,rfl,q1,q2⟩);(·have:=aN3 b hb;exact⟨h6 b hb,by omega,λq _ hq e=>hq (by rw[<-e];exact hb)⟩);·cases hb;exact⟨⟨by omega,by omega⟩,by omega,λq hq _ e=>by omega⟩
 have aLw:∀b,b≠Bp->(w'.setCell ⟨Bp,1,au⟩ (.slice ad n' cp)).heap[b]? =w'.heap[b]? :=λb hb=>gL _ _ _ _ _ hb;refine⟨ad,n',cp,w',e1,hBp,⟨?_,vs++ [.slice (ai ⟨w.heap.size,0,au⟩) 40 40],ob',λi=>if i=j then w.heap.size else rb i,e2.fI λb hb=>aLw b (aHn b hb).1.2,by simp[h3],λi hi=> ?_,λi k hi hk hik=> ?_,λb hb=>(aHn b hb).1⟩,?_⟩;·rw[Nb (hBp.trans h1) 1 (.slice ad n' cp)];rfl
 .by_cases hij:i=j;·subst hij;simp only[aK];refine⟨by rw[fR (by omega),h3];simp,?_,hS,by omega,λq=>(aHn _ q).2.1 rfl⟩;exact(aLw _ (by omega)).trans ((e4 _ (by omega) (λq=>by have:=aN3 _ q;omega)).trans Jm)
  ·(have tT:i<j:=by omega);simp only[hij,aJ];obtain⟨a1,a2,a3,a4,a5⟩:=h4 i tT;refine⟨by rw[dM (by omega)];exact a1,(aLw _ a4).trans ((e4 _ (by have:=a2.lt;omega) a5).trans ((up _ a2.lt).trans a2)),a3,a4,λq=>(aHn _ q).2.2 _ a2.lt a5 rfl⟩
 .by_cases hij:i=j<;>by_cases hkj:k=j
  .omega
  .subst hij;simp only[aK,hkj,aJ]at hik;have:=(h4 k (by omega)).2.1.lt;omega
  .subst hkj;simp only[aK,hij,aJ]at hik;have:=(h4 i (by omega)).2.1.lt;omega
  .simp only[hij,hkj,aJ]at hik;exact h5 i k (by omega) (by omega) hik
 .refine⟨by omega,λb hb=>(e4 b (by omega) λq=> ?_).trans (up b (by omega)),e6,e7⟩;have:=(h6 b q).1;omega
def PwB.done{S j:ax}{pv:aL}(h:PwB T e tI S Bp lv tl j pv left w)(hj:0<j): ∃pb cv rb,pv=.slice (ai ⟨pb,0,au⟩) j cv/\j<=cv/\PwD j Bp pb rb/\Oy T e tI Bp pb rb j cv lv tl (bK j (bK 40 0)) left w/\S<=pb/\∀i,i<j->S<=rb i:=by obtain⟨h1,vs,ob,rb,h2,h3,h4,h5,h6⟩:=h;cases h2 with|empty ad=>simp at h3;omega|mk b cap C vs hC Aq wi h0 oz=>obtain⟨q1,q2⟩:=h6 b rfl;refine⟨b,cap,rb,by rw[h3],by omega,⟨λi hi=>⟨(h4 i hi).2.2.2.1,λq=>(h4 i hi).2.2.2.2 (by rw[q])⟩,q2,h5⟩,⟨by rw[h3]at h1;exact h1,by simp,⟨C,hC,λi hi=>by rw[oz i (by omega)];exact(h4 i hi).1⟩,λi hi=> ?_⟩,q1,λi hi=>(h4 i hi).2.2.1⟩;(have e9:rowAt (bK j (bK 40 (0:aw))) i=bK 40 0:=by simp[rowAt,hi]);rw[e9];exact⟨(h4 i hi).2.1,by simp⟩
end
noncomputable def ahk(vw:ah iz.ty->aq aW):Callee:={io:=[],ps:=[.d kY,.d (.one (.sl iz)),.d kY],rs:=[.d (.one (.sl nO)),.d kY],os:=[],f:=λx=>X0 vw x.1 x.2.1 x.2.2.1}
structure aql(P:bV)(fn nv:ax):Prop where
 en:lA P fn
 run:∀(φ:ax->ax) (gv:ax) (vw:ah iz.ty->aq aW),φ gv=nv->(∀l b,vw l=ai b->dx P φ gv [.sl 4 (l.map iz.enc)] [.bool b] [])->
  ∀(n:aw) (xs:ah iz.ty) (c:aw) (y:ah (ah aw)×aw),X0 vw n xs c=ai y->
  ∀(w:aU) (K:ax->Prop) (v:aL),gY φ w K v (.sl 4 (xs.map iz.enc))->(∀b,K b->b<w.heap.size)->Dv P K w->
  fF P fn #[.int .i64 n,v,.int .i64 c] w λr w'=>∃u,r=.returned (.tuple #[u,.int .i64 y.2])/\Lo w.heap.size w w'/\gY φ w' (λb=>w.heap.size<=b/\b<w'.heap.size) u (.sl 1 (y.1.map nO.enc))
section
variable {P:bV} {φ:ax->ax}
def aeU{vw:ah iz.ty->aq aW}{fn nv g gv:ax}(L:aql P fn nv)(hφ: [g,gv].map φ=[fn,nv]) (ov:∀l b,vw l=ai b->dx P φ gv [.sl 4 (l.map iz.enc)] [.bool b] []):oQ P φ g (ahk vw):=by
 simp only[aY,gJ,dU,pN]at hφ;obtain⟨h1,h2⟩:=hφ;refine oQ.mK (by rw[h1];exact L.en) rfl rfl λx y hy=> ?_;obtain⟨n,xs,c,⟨⟩⟩:=x;have e1:KJ (ahk vw).ps (n,xs,c,())=[.int .i64 n,.sl 4 ((show ah iz.ty from xs).map iz.enc),.int .i64 c]:=by have q:((ET.one (.sl iz)).v (show ah iz.ty from xs)).a=(ET.one (.sl iz)).enc (show ah iz.ty from xs):=ET.v_a _ _;exact wE (λz=>([.int .i64 n,z,.int .i64 c]:ah A)) q
 have e2:JD (ahk vw) y=([.sl 1 ((show ah (ah aw)×aw from y).1.map nO.enc),.int .i64 (show ah (ah aw)×aw from y).2],[]):=by have q:((ET.one (.sl nO)).v (show ah (ah aw)×aw from y).1).a=(ET.one (.sl nO)).enc (show ah (ah aw)×aw from y).1:=ET.v_a _ _;exact wE (λz=>(([z,A.int .i64 (show ah (ah aw)×aw from y).2]:ah A),([]:ah A))) q
 have e3:=wE (λz=>dx P φ g z (JD (ahk vw) y).1 (JD (ahk vw) y).2) e1;refine e3.mpr ?_;rw[e2];have hn:([.int .i64 n,.sl 4 ((show ah iz.ty from xs).map iz.enc),.int .i64 c]:ah A).any Ga=aA:=rfl;intro w K vs bs ha Jg hKb hKz hG;obtain⟨hr,rfl⟩:=ha.am6 hn;cases hr with|cons v1 _ vs1 _ hv1 t1=>
 cases t1 with|cons v2 _ vs2 _ hv2 t2=>
 cases t2 with|cons v3 _ vs3 _ hv3 t3=>
 cases t3;cases hv1;cases hv3;have:=L.run φ gv vw h2 ov n xs c y hy w K v2 hv2 hKz hG;rw[h1];refine this.mono λe w' hq=> ?_;obtain⟨u,rfl,hb,h3⟩:=hq;refine⟨_,rfl,hb.size,λb hb' _=>hb.block b hb',⟨hb.os,hb.output⟩,λb off hb'=>kC (hb.block b hb') off,λb n hr=>hr.of_block (hb.block b hr.lt),?_⟩
 exact⟨[u,.int .i64 (show ah (ah aw)×aw from y).2],λb=>K b\/(w.heap.size<=b/\b<w'.heap.size),[],[],rfl,λ_ h=>.inl h,λ_ h=>h.elim .inl λh=>.inr (.inr h),
  gz.ml (.cons _ _ _ _ (h3.mono (λ_ _=>rfl) λ_ h=>.inr h) (.cons _ _ _ _ (.int _ _) .nil)),jF.RT ha.len hn,by simp,λb hb'=>by simp at hb'⟩
end
section
variable {P:bV} {φ:ax->ax}
end
end Go.Ab
namespace Go.Ab
def ae2(b:aw)(l:ah iz.ty)(n:aw):aq (ah (ah aw)×aw):=if 1<=b/\b<=6/\1<=n/\n<=20000 then X0 (λ_=>ai aB) b l n else au
noncomputable def Zd:Callee:={io:=[],ps:=[.d kY,.d (.one (.sl iz)),.d kY],rs:=[.d (.one (.sl nO)),.d kY],os:=[],f:=λx=>ae2 x.1 x.2.1 x.2.2.1}
@[reducible] def axk:ET:=.agg (.cons .str (.cons (.int .i64) (.cons (.int .i64) (.cons (.int .i64) .nil))))
@[reducible] def aDK:ET:=.agg (.cons .str (.cons (.int .i64) (.cons (.int .i64) .nil)))
@[reducible] def avo:ET:=.agg (.cons (.own axk) (.cons (.own aDK) (.cons (.sl (.one (.sl kY))) (.cons (.int .i64) (.cons (.int .i64) (.cons (.int .i64) (.cons (.int .i64) (.cons (.own axk) (.cons (.own (.agg (.cons .str (.cons (.int .i64) (.cons (.int .i64) (.cons (.int .i64) (.cons (.int .i64) .nil))))))) (.cons (.own aDK) (.cons (.own axk) (.cons (.sl (.agg (.cons .str (.cons .str (.cons (.int .i64) (.cons (.int .i64) (.cons (.int .i64) .nil))))))) .nil))))))))))))
def aec:avo.ty:=([],[],[[30,32],[31,33]],1300,1950,60,110,[],[],[],[],[],())
noncomputable def am4:Callee:={io:=[],ps:=[],rs:=[.d avo],os:=[],f:=λ_=>ai aec}
end Go.Ab
namespace Go.Ab
open Go.RowKit
@[reducible] def q4E:ET:=.agg (.cons .str (.cons (.int .i64) (.cons (.int .i64) (.cons (.int .i64) .nil))))
@[reducible] def q3E:ET:=.agg (.cons .str (.cons (.int .i64) (.cons (.int .i64) .nil)))
@[reducible] def q5E:ET:=.agg (.cons .str (.cons (.int .i64) (.cons (.int .i64) (.cons (.int .i64) (.cons (.int .i64) .nil)))))
@[reducible] def qpE:ET:=.agg (.cons .str (.cons .str (.cons (.int .i64) (.cons (.int .i64) (.cons (.int .i64) .nil)))))
@[reducible] def eH:ET:=.agg (.cons (.own q4E) (.cons (.own q3E) (.cons (.sl (.one (.sl (.one (.int .i64))))) (.cons (.int .i64) (.cons (.int .i64) (.cons (.int .i64) (.cons (.int .i64) (.cons (.own q4E) (.cons (.own q5E) (.cons (.own q3E) (.cons (.own q4E) (.cons (.sl qpE) .nil))))))))))))
@[reducible] def aau:ET:=.agg (.cons (.sl q4E) (.cons (.sl q3E) (.cons (.sl (.one (.sl (.one (.int .i64))))) (.cons (.int .i64) (.cons (.int .i64) (.cons (.int .i64) (.cons (.int .i64) (.cons (.sl q4E) (.cons (.sl q5E) (.cons (.sl q3E) (.cons (.sl q4E) (.cons (.sl qpE) .nil))))))))))))
@[reducible] def wD:ET:=.agg (.cons (.own kY) (.cons (.own kY) (.cons (.int .i64) (.cons .str .nil))))
@[reducible] def TG:ET:=.agg (.cons (.sl kY) (.cons (.sl kY) (.cons (.int .i64) (.cons .str .nil))))
structure Fm(w:aU)(K:ax->Prop)(bs:ah ax)(w':aU)(K':ax->Prop):Prop where
 grow:w.heap.size<=w'.heap.size
 frame:∀b,b<w.heap.size->b∉bs->w'.heap[b]? =w.heap[b]?
 env:w'.os=w.os/\w'.output=w.output
 fr:∀b off,b<w.heap.size->w'.frozen? ⟨b,off,au⟩=w.frozen? ⟨b,off,au⟩
 room:∀{z:ax} b n,b<w.heap.size->hZ z w b n->hZ z w' b n
 up:∀b,K b->K' b
 dn:∀b,K' b->K b\/b∈bs\/w.heap.size<=b
def Fm.refl(w:aU)(K:ax->Prop)(bs:ah ax):Fm w K bs w K:=⟨bx _,λ_ _ _=>rfl,⟨rfl,rfl⟩,λ_ _ _=>rfl,λ_ _ _ h=>h,λ_ h=>h,λ_ h=>.inl h⟩
def Fm.trans{w w1 w2:aU}{K K1 K2:ax->Prop}{bs bs1:ah ax}(h:Fm w K bs w1 K1)(h':Fm w1 K1 bs1 w2 K2)(hb:∀b∈bs1,b∈bs\/w.heap.size<=b):Fm w K bs w2 K2 where
 grow:=dQ h.grow h'.grow
 frame b hz hn:=(h'.frame b (bX hz h.grow) λhm=>(hb b hm).elim hn λh=>by omega).trans (h.frame b hz hn)
 env:=⟨h'.env.1.trans h.env.1,h'.env.2.trans h.env.2⟩
 fr b off hz:=(h'.fr b off (bX hz h.grow)).trans (h.fr b off hz)
 room b n hz hr:=h'.room b n (bX hz h.grow) (h.room b n hz hr)
 up b hk:=h'.up b (h.up b hk)
 dn b hk:=by
  have g:=h.grow;rcases h'.dn b hk with h1|h1|h1
  .exact h.dn b h1
  .exact .inr (hb b h1)
  .exact .inr (.inr (by omega))
def Fm.lo{w w1 w2:aU}{K K1:ax->Prop}{bs:ah ax}(h:Fm w K bs w1 K1)(hl:Lo w.heap.size w1 w2):Fm w K bs w2 K1 where
 grow:=dQ h.grow hl.size
 frame b hz hn:=(hl.block b hz).trans (h.frame b hz hn)
 env:=⟨hl.os.trans h.env.1,hl.output.trans h.env.2⟩
 fr b off hz:=(kC (hl.block b hz) off).trans (h.fr b off hz)
 room b n hz hr:=(h.room b n hz hr).of_block (hl.block b hz)
 up:=h.up
 dn:=h.dn
def Fm.aGf{w w1:aU}{K K1 K2:ax->Prop}{bs:ah ax}(h:Fm w K bs w1 K1)(hu:∀b,K1 b->K2 b)(hd:∀b,K2 b->K1 b\/w.heap.size<=b):Fm w K bs w1 K2 where
 grow:=h.grow
 frame:=h.frame
 env:=h.env
 fr:=h.fr
 room:=h.room
 up b hb:=hu b (h.up b hb)
 dn b hb:=(hd b hb).elim (h.dn b) λh=>.inr (.inr h)
def Fm.aOR{w w1:aU}{K K1:ax->Prop}{bs:ah ax}{B:ax}(h:Fm w K bs w1 K1)(hb:∀b∈bs,B<=b)(hB:B<=w.heap.size):Lo B w w1:=
 ⟨h.grow,λb hz=>h.frame b (by omega) λhm=>by have:=hb b hm;omega,h.env.1,h.env.2⟩
section
variable {P:bV} {φ:ax->ax}
structure Bx(P:bV)(φ:ax->ax)(t:ET)(x:t.ty)(v:aL)(bs:ah ax)(K:ax->Prop)(w:aU):Prop where
 box:kE φ w K v t.z (t.enc x) bs
 nd:bs.Nodup
 ge:∀b∈bs,¬K b/\b<w.heap.size
 kz:∀b,K b->b<w.heap.size
 gl:Dv P K w
def Bx.fI{t:ET}{x:t.ty}{v:aL}{bs:ah ax}{K:ax->Prop}{w w':aU}(h:Bx P φ t x v bs K w)(hz:w.heap.size<=w'.heap.size)(hK:∀b,K b->w'.heap[b]? =w.heap[b]?)(hb:∀b∈bs,w'.heap[b]? =w.heap[b]?):Bx P φ t x v bs K w':=⟨h.box.aaE hK hb,h.nd,λb hb=>⟨(h.ge b hb).1,bX (h.ge b hb).2 hz⟩,λb hb=>bX (h.kz b hb) hz,h.gl.on (λ_ h=>h) hK⟩
def Bx.lo{t:ET}{x:t.ty}{v:aL}{bs:ah ax}{K:ax->Prop}{w w':aU}(h:Bx P φ t x v bs K w)(hl:Lo w.heap.size w w'):Bx P φ t x v bs K w':=h.fI hl.size (λb hb=>hl.block b (h.kz b hb)) λb hb=>hl.block b (h.ge b hb).2
def kE.aOw{K K':ax->Prop}{w:aU}{v:aL}{z:ax}{x:A}{bs:ah ax}(h:kE φ w K v z x bs)(hk:∀b,K b->K' b):kE φ w K' v z x bs:=kE.mono hk h
def Bx.wide{t:ET}{x:t.ty}{v:aL}{bs:ah ax}{K K':ax->Prop}{w:aU}(h:Bx P φ t x v bs K w)(hk:∀b,K b->K' b)(hn:∀b,K' b->b<w.heap.size/\b∉bs):Bx P φ t x v bs K' w:=⟨h.box.aOw hk,h.nd,λb hb=>⟨λhk'=>(hn b hk').2 hb,(h.ge b hb).2⟩,λb hb=>(hn b hb).1,h.gl.on hk λ_ _=>rfl⟩
def Bx.call{t:ET}{x y:t.ty}{v:aL}{bs:ah ax}{K:ax->Prop}{w:aU}{g:ax}{ab rs:ah A}{us:ah aL}(h:Bx P φ t x v bs K w)(hu:dp φ w K us ab)(hc:dx P φ g (.iU t.z [t.enc x]::ab) rs [.iU t.z [t.enc y]]): fF P (φ g) (v::us).toArray w λe w'=>∃qQ K' rb WO,e=.returned (IQ qQ)/\Fm w K bs w' K'/\gz φ w' K' qQ rs rb/\Bx P φ t y v WO K' w'/\(∀b∈WO,b∈bs\/w.heap.size<=b)/\∀b∈rb,¬K' b/\b<w'.heap.size/\(b∈bs\/w.heap.size<=b)/\b∉WO:=by have ui:gy φ w K (v::us) (.iU t.z [t.enc x]::ab) (bs++ []):=.cons _ _ _ _ _ _ (.iU _ _ _ _ h.box) (gy.ml hu);rw[cD]at ui;refine(hc w K _ bs ui h.nd (λb hb=>(h.ge b hb).1) h.kz h.gl).mono λe w' ⟨r,he,hb⟩=> ?_;subst he;obtain⟨qQ,K',rb,ob,hv,k1,k2,R8,ho,Jg,hbl⟩:=hb.rest;cases ho with|data _ _ _ _ _ _ iS _=>exact bG rfl (iS.1 _ _)|iU _ _ _ _ bq _ _ _ bs1 hq ht=>obtain⟨-,rfl⟩:=anG hu ht;rw[cD]at Jg hbl;obtain⟨n1,n2,n3⟩:=dX.1 Jg;refine⟨qQ,K',rb,bq,by rw[hv],⟨hb.grow,hb.frame,hb.env,hb.fr,λb n _ hr=>hb.room b n hr,k1,λb hk=>(k2 b hk).imp id λh=>h.imp id λh=>h.1⟩,R8,⟨hq,n2,λb hb'=> ?_,λb hk=> ?_,?_⟩,λb hb'=>(hbl b (bN _ hb')).2.2,λb hb'=> ?_⟩;(·have:=hbl b (bN _ hb');exact⟨this.1,this.2.1⟩);(·(rcases k2 b hk with h1|h1|h1);(·exact bX (h.kz b h1) hb.grow);(·exact bX (h.ge b h1).2 hb.grow);·exact h1.2);(·exact h.gl.on k1 λb hk=>hb.frame b (h.kz b hk) λhm=>(h.ge b hm).1 hk);·have:=hbl b (dZ _ hb');exact⟨this.1,this.2.1,this.2.2,λhm=>n3 b hb' b hm rfl⟩
def aH5{w:aU}{K:ax->Prop}{qQ:ah aL}{rb:ah ax}{b:aW}{n:aw}(h:gz φ w K qQ [.bool b,.int .i64 n] rb):qQ=[.bool b,.int .i64 n]:=by cases h with|cons v1 _ b1 vs1 _ bs1 r1 t1=>cases t1 with|cons v2 _ b2 vs2 _ bs2 r2 t2=>cases t2;cases r1 with|data _ h1=>cases r2 with|data _ h2=>cases h1;cases h2;rfl
def aFi{w:aU}{K:ax->Prop}{qQ:ah aL}{rb:ah ax}{b:aW}(h:gz φ w K qQ [.bool b] rb):qQ=[.bool b]:=by cases h with|cons v1 _ b1 vs1 _ bs1 r1 t1=>cases t1;cases r1 with|data _ h1=>cases h1;rfl
def eL.aFC{w:aU}{K K':ax->Prop}{v:aL}{z:ax}{xs:ah A}{b:aq ax}(h:eL φ w K v z xs b)(hk:∀c,K c->K' c)(hb:∀c,b=ai c->K' c):gY φ w K' v (.sl z xs):=by cases h with|empty ad z=>exact .Rx _ _ _|mk b o cap z xs vs hc h0 hz hr hv qP=>exact .sl b o cap z xs vs (hb b rfl) hz hc (hr.mono (λ_ _=>rfl) hk) hv
def arh{w:aU}{K:ax->Prop}{qQ:ah aL}{rb:ah ax}{j:ax}{xs:ah A}{n:aw}(h:gz φ w K qQ [.tok j 1 xs,.int .i64 n] rb): ∃v,qQ=[v,.int .i64 n]/\gY φ w (λb=>K b\/b∈rb) v (.sl 1 xs):=by cases h with|cons v1 _ b1 vs1 _ bs1 r1 t1=>cases t1 with|cons v2 _ b2 vs2 _ bs2 r2 t2=>cases t2;cases r2 with|data _ h2=>cases h2;cases r1 with|data _ h1=>cases h1|tok _ _ _ ob h1=>exact⟨v1,rfl,h1.aFC (λc hc=>.inl hc) λc e=>.inr (by subst e;simp)⟩
def aoG:A->A |.own z xs=>.sl z xs |a=>a
def dK.aoG{w:aU}{K:ax->Prop}{X:ah ax}:∀{vs:ah aL} {cs:ah A} {bs:ah ax},dK φ w K vs cs bs->(∀b∈bs,b∈X)->dp φ w (λb=>K b\/b∈X) vs (cs.map Ab.aoG)
 |_,_,_,.nil,_=>.nil
 |_,_,_,.cons v x ob vs xs bs h t,hX=>by(refine .cons _ _ _ _ ?_ (dK.aoG t λb hb=>hX b (bN _ hb));cases h with|data _ h ha=>(have e:Ab.aoG x=x:=by cases h<;>rfl);rw[e];exact h.mono (λ_ _=>rfl) λ_ h=>.inl h|own z xs _ ho=>exact ho.aFC (λc hc=>.inl hc) λc e=>.inr (hX c (dZ _ (by subst e;simp))))
def af1{w:aU}{K:ax->Prop}{v:aL}{z:ax}{x:A}{bs:ah ax}(h:kE φ w K v z x bs):∃b o vs,v=.pointer (ai ⟨b,o,au⟩)/\b∈bs/\dw w b o vs/\ae vs=z/\dp φ w (λc=>K c\/c∈bs) vs (x.cells.map aoG)/\hZ z w b (o+z):=by cases h with|mk b o z x vs bs h hv hr hz=>have hu:=dK.aoG (X:=b::bs) h λc hc=>bm _ hc;refine⟨b,o,vs,rfl,by simp,hv,?_,hu,hr⟩;rw[hu.length,bf,hz]
structure ExF where
 cut:ah ay->ah ay->aq (ah ay×ah ay×aW)
 split:ah ay->ah ay->aq (ah (ah ay))
 rd:wD.ty->aw->ah ay->aq (aW×wD.ty)
 tt:ah (ah ay×(eH.ty->ah ay->aq (aW×aw×eH.ty)))
 ta:ah (ah ay×ah ay×(eH.ty->TG.ty->aq (ah (ah ay)×aw×eH.ty)))
def lk{α:Type}:ah (ah ay×α)->ah ay->aq α | [],_=>au |p::l,s=>if p.1=s then ai p.2 else lk l s
def rdL(rd:wD.ty->aw->ah ay->aq (aW×wD.ty)):ah ay->ah (ah ay)->wD.ty->aq (aq wD.ty) | [],_,a=>ai (ai a) |k::ks,w::ws,a=>af (rd a (k.toNat:aw) w) λr=>if r.1 then rdL rd ks ws r.2 else ai au |_::_,[],_=>au
def exF(F:ExF)(d:eH.ty)(line:ah ay):aq (ah (ah ay)×aw×aW×eH.ty):=
 af (F.cut line [32]) λc=>
  if 65536<ae c.1 then au else
  match lk F.tt c.1 with
  |some f=>if c.2.2 then af (f d c.2.1) λr=>ai ([[111,107]],r.2.1,r.1,r.2.2)else ai ([],0,aA,d)
  |none=>af (F.split line [32]) λws=>
   match lk F.ta c.1 with
   |none=>ai ([],0,aA,d)
   |some (ks,f)=>if ae ws=ae ks+1 then af (rdL F.rd ks ws.tail ([],[],0,[],())) λr=>
     match r with
     |none=>ai ([],0,aA,d)
     |some a=>af (f d a) λq=>ai (q.1,q.2.1,aB,q.2.2)
    else ai ([],0,aA,d)
noncomputable def exC(F:ExF):Callee:={io:=[aB,aA],ps:=[.box eH,.d (.one .str)],rs:=[.d (.one (.sl (.one .str))),.d (.one (.int .i64)),.d (.one .bool)],os:=[.box eH],f:=λx=>exF F x.1 x.2.1}
def qV(f:aau.ty->TG.ty->aq (ah (ah ay)×aw))(d:eH.ty)(a:TG.ty):aq (ah (ah ay)×aw×eH.ty):=(f d a).map λr=>(r.1,r.2,d)
def aGV(P:bV)(φ:ax->ax)(f:eH.ty->ah ay->aq (aW×aw×eH.ty))(n:ax):Prop:=∃g,φ g=n/\lA P n/\∀d s r,f d s=ai r->dx P φ g [.iU 12 [eH.enc d],.str s] [.bool r.1,.int .i64 r.2.1] [.iU 12 [eH.enc r.2.2]]
def aCV(P:bV)(φ:ax->ax)(f:eH.ty->TG.ty->aq (ah (ah ay)×aw×eH.ty))(n:ax):Prop:=∃g,φ g=n/\lA P n/\((∀d a r,f d a=ai r->r.2.2=d/\dx P φ g [.ptr (aau.enc d).cells 0,TG.enc a] [.tok 0 1 (r.1.map Fx.enc),.int .i64 r.2.1] [])\/ ∀d a r,f d a=ai r->dx P φ g [.iU 12 [eH.enc d],TG.enc a] [.tok 0 1 (r.1.map Fx.enc),.int .i64 r.2.1] [.iU 12 [eH.enc r.2.2]])
def aox(xs:ah (ah ay)):(xs.map Fx.enc).all A.plain=aB:=by rw[JX,bz];intro x _;rfl
def axl(d:eH.ty):(eH.enc d).cells.map aoG=(aau.enc d).cells:=rfl
def Bx.act{d:eH.ty}{v va:aL}{bs:ah ax}{K:ax->Prop}{w:aU}{f:eH.ty->TG.ty->aq (ah (ah ay)×aw×eH.ty)}{n:ax}{a:TG.ty}{r:ah (ah ay)×aw×eH.ty} (h:Bx P φ eH d v bs K w) (ha:gY φ w K va (TG.enc a)) (hf:aCV P φ f n) (hr:f d a=ai r): fF P n #[v,va] w λe w'=>∃vl K' WO,e=.returned (.tuple #[vl,.int .i64 r.2.1])/\Fm w K bs w' K'/\Bx P φ eH r.2.2 v WO K' w'/\(∀b∈WO,b∈bs\/w.heap.size<=b)/\gY φ w' K' vl (.sl 1 (r.1.map Fx.enc)):=by
 obtain⟨g,rfl,-,hf⟩:=hf;rcases hf with hf|hf
 .obtain⟨hd,hc⟩:=hf d a r hr;obtain⟨b,o,vs,hv,hb,Ao,-,hu,-⟩:=af1 h.box;have hp:gY φ w (λc=>K c\/c∈bs) v (.ptr (aau.enc d).cells 0):=by rw[hv,<-axl];exact .ptr b o 0 _ vs (.inr hb) hu Ao
  refine(hc w (λc=>K c\/c∈bs) [v,va] [] (gy.ml (.cons _ _ _ _ hp (.cons _ _ _ _ (ha.mono (λ_ _=>rfl) λ_ h=>.inl h) .nil))) ib (λ_ h=>by cases h) (λc hc=>hc.elim (h.kz c) λhm=>(h.ge c hm).2) (h.gl.on (λ_ h=>.inl h) λ_ _=>rfl)).mono λe w' ⟨x,he,hb'⟩=> ?_;subst he;obtain⟨qQ,K',rb,ob,hx,k1,k2,R8,ho,Jg,hbl⟩:=hb'.rest;obtain⟨vl,rfl,-⟩:=arh R8;have hlo:Lo w.heap.size w w':=⟨hb'.grow,λc hc=>hb'.frame c hc (by simp),hb'.env.1,hb'.env.2⟩;have Dx:gY φ w' (λc=>K c\/c∈rb) vl (.sl 1 (r.1.map Fx.enc)):=by cases R8 with|cons v1 _ b1 vs1 _ bs1 r1 t1=>cases t1 with|cons v2 _ b2 vs2 _ bs2 r2 t2=>cases t2;cases r1 with|data _ h1=>cases h1|tok _ _ _ ob h1=>exact(h1.any (K2:=K) (aox _)).aFC (λc hc=>.inl hc) λc e=>.inr (by subst e;simp)
  have auX:∀c∈rb,w.heap.size<=c/\c<w'.heap.size:=λc hc=>by have:=hbl c (dZ _ hc);exact⟨this.2.2.resolve_left (by simp),this.2.1⟩
  refine⟨vl,λc=>K c\/c∈rb,bs,by rw[hx];rfl,((Fm.refl w K bs).lo hlo).aGf (λc hc=>.inl hc) (λc hc=>hc.imp id λhm=>(auX c hm).1),?_,λc hc=>.inl hc,Dx⟩;rw[hd];refine(h.lo hlo).wide (λc hc=>.inl hc) λc hc=> ?_;rcases hc with hc|hc
  .exact⟨bX (h.kz c hc) hb'.grow,λhm=>(h.ge c hm).1 hc⟩
  .exact⟨(auX c hc).2,λhm=>by have:=(h.ge c hm).2;have:=(auX c hc).1;omega⟩
 .have hc:=hf d a r hr;refine(h.call (.cons _ _ _ _ ha .nil) hc).mono λe w' ⟨qQ,K',rb,WO,he,hfm,R8,hbx,hbs,hrb⟩=> ?_;obtain⟨vl,rfl,Dx⟩:=arh R8;refine⟨vl,λc=>K' c\/(c∈rb/\w.heap.size<=c)\/(c∈rb/\c∈bs),WO,by rw[he];rfl,⟨hfm.grow,hfm.frame,hfm.env,hfm.fr,hfm.room,λc hc=>.inl (hfm.up c hc),λc hc=> ?_⟩,hbx.wide (λc hc=>.inl hc) λc hc=> ?_,hbs,Dx.mono (λ_ _=>rfl) λc hc=>hc.imp id λhm=> ?_⟩;·(rcases hc with hc|hc|hc);(·exact hfm.dn c hc);(·exact .inr (.inr hc.2));·exact .inr (.inl hc.2)
  ·(rcases hc with hc|hc|hc);(·exact⟨hbx.kz c hc,λhm=>(hbx.ge c hm).1 hc⟩);(·exact⟨(hrb c hc.1).2.1,(hrb c hc.1).2.2.2⟩);·exact⟨(hrb c hc.1).2.1,(hrb c hc.1).2.2.2⟩
  ·(rcases(hrb c hm).2.2.1 with h1|h1);(·exact .inr ⟨hm,h1⟩);·exact .inl ⟨hm,h1⟩
open Go.Maps in
def M9(l:ah (ah ay×aL))(D:FI aL):FI aL:=l.foldl (λD p=>D.put (.string p.1) (.held p.2)) D
open Go.Maps in
def avg(s:ah ay):∀(l:ah (ah ay×aL)) (D:FI aL),IsMap D->(l.map ay4).Nodup->
 (∀z,(M9 l D).atKey (.string s) z=match lk l s with|some v=>.held v|none=>D.atKey (.string s) z)/\Maps.has (M9 l D) (.string s)=((lk l s).isSome||Maps.has D (.string s))
 | [],D,_,_=>⟨λz=>rfl,rfl⟩
 |p::l,D,hD,hn=>by
  obtain⟨n1,n2⟩:=Gu.1 (by simpa using hn:(p.1::l.map ay4).Nodup)
  obtain⟨h1,h2⟩:=avg s l (D.put (.string p.1) (.held p.2)) (hD.put _ _) n2
  by_cases hs:p.1=s
  .subst hs
   have hno:∀{l:ah (ah ay×aL)},p.1∉l.map ay4->lk l p.1=au:=by
    intro l hl
    induction l with
    |nil=>rfl
    |cons q l ih=>
     simp only[aY,bP,agG]at hl
     rw[lk,aP (λe=>hl.1 e.symm),ih hl.2]
   rw[hno n1]at h1 h2
   have e:lk (p::l) p.1=ai p.2:=by rw[lk,aQ rfl]
   rw[e]
   refine⟨λz=>(h1 z).trans (atKey_put_same hD (by trivial) _ _),h2.trans ?_⟩
   rw[has_put_same hD (by trivial)]
   rfl
  .have e:lk (p::l) s=lk l s:=by rw[lk,aP hs]
   rw[e]
   have iS:(Lit.string s)≠ .string p.1:=by intro e;injection e with e;exact hs e.symm
   refine⟨λz=>(h1 z).trans ?_,h2.trans ?_⟩
   .rw[atKey_put_other iS]
   .rw[has_put_other iS]
open Go.Maps in
def WV:aL->aq (FI aL×ah Ik):=λv=>ai (.held v,[])
open Go.Maps in
def avh{w:aU}{k e t:bO}{b n:ax}{l:ah (ah ay×aL)}(h:w.ownsMap P k WV b n (M9 l (.map [])))(Kk:Keyed P k)(ht:P.underlying t=ai (.map k e)){z:aL}(hz:(zeroValue e).run P w=.ok z w)(hn:(l.map ay4).Nodup){s:ah ay}(adr:keyOf P k (.string ⟨s.toArray⟩)=ai (.string s)): (Ou t (.map (ai b)) (.string ⟨s.toArray⟩) aB).run P w=.ok (.tuple #[(lk l s).getD z,.bool (lk l s).isSome]) w:=by obtain⟨h1,h2⟩:=avg s l (.map []) isMap_empty hn;obtain⟨v,ps,jn,hv⟩:=World.ownsMap.look_ok h Kk ht hz (zd:=.held z) (zp:=[]) rfl adr;rw[h1]at hv;rw[jn,h2];cases hl:lk l s with|none=>rw[hl]at hv;injection hv with hv;injection hv with hv;injection hv with hv;rw[hv];rfl|some u=>rw[hl]at hv;injection hv with hv;injection hv with hv;injection hv with hv;rw[hv];rfl
inductive Tab{α β:Type}(R:α->β->Prop):ah (ah ay×α)->ah (ah ay×β)->Prop
 |nil:Tab R [] []
 |cons (s:ah ay) (a:α) (b:β) (l:ah (ah ay×α)) (m:ah (ah ay×β)) (h:R a b) (t:Tab R l m):Tab R ((s,a)::l) ((s,b)::m)
def Tab.look{α β:Type}{R:α->β->Prop}(V:β->aL){l:ah (ah ay×α)}{m:ah (ah ay×β)}(h:Tab R l m)(s:ah ay): (lk l s=au/\lk (m.map λp=>(p.1,V p.2)) s=au)\/∃a b,lk l s=ai a/\R a b/\lk (m.map λp=>(p.1,V p.2)) s=ai (V b):=by induction h with|nil=>exact .inl ⟨rfl,rfl⟩|cons q a b l m h t ih=>simp only[aY,lk];by_cases e:q=s;(·rw[aQ e,aQ e];exact .inr ⟨a,b,rfl,h,rfl⟩);·rw[aP e,aP e];exact ih
def Bx.text{d:eH.ty}{v:aL}{bs:ah ax}{K:ax->Prop}{w:aU}{f:eH.ty->ah ay->aq (aW×aw×eH.ty)}{n:ax}{s:ah ay}{r:aW×aw×eH.ty} (h:Bx P φ eH d v bs K w) (hf:aGV P φ f n) (hr:f d s=ai r): fF P n #[v,.string ⟨s.toArray⟩] w λe w'=>∃K' WO,e=.returned (.tuple #[.bool r.1,.int .i64 r.2.1])/\Fm w K bs w' K'/\Bx P φ eH r.2.2 v WO K' w'/\∀b∈WO,b∈bs\/w.heap.size<=b:=by obtain⟨g,rfl,-,hf⟩:=hf;refine(h.call (.cons _ _ _ _ (.str s) .nil) (hf d s r hr)).mono λe w' ⟨qQ,K',rb,WO,he,hfm,R8,hbx,hbs,hrb⟩=> ?_;rw[aH5 R8]at he;exact⟨K',WO,he,hfm,hbx,hbs⟩
def Bx.read{a:wD.ty}{v:aL}{bs:ah ax}{K:ax->Prop}{w:aU}{g:ax}{k:aw}{s:ah ay}{r:aW×wD.ty} (h:Bx P φ wD a v bs K w) (hc:dx P φ g [.iU 4 [wD.enc a],.int .u8 k,.str s] [.bool r.1] [.iU 4 [wD.enc r.2]]): fF P (φ g) #[v,.int .u8 k,.string ⟨s.toArray⟩] w λe w'=>∃K' WO,e=.returned (.bool r.1)/\Fm w K bs w' K'/\Bx P φ wD r.2 v WO K' w'/\∀b∈WO,b∈bs\/w.heap.size<=b:=by refine(h.call (.cons _ _ _ _ (.int _ _) (.cons _ _ _ _ (.str s) .nil)) hc).mono λe w' ⟨qQ,K',rb,WO,he,hfm,R8,hbx,hbs,hrb⟩=> ?_;rw[aFi R8]at he;exact⟨K',WO,he,hfm,hbx,hbs⟩
def Bx.aQi{a:wD.ty}{b o:ax}{bs:ah ax}{K:ax->Prop}{w:aU}(h:Bx P φ wD a (.pointer (ai ⟨b,o,au⟩)) bs K w): ∃u0 u1 u2 u3,w.cell? ⟨b,o,au⟩=ai u0/\w.cell? ⟨b,o+1,au⟩=ai u1/\w.cell? ⟨b,o+2,au⟩=ai u2/\w.cell? ⟨b,o+3,au⟩=ai u3/\gY φ w (λc=>K c\/c∈bs) (.agg #[u0,u1,u2,u3]) (TG.enc a):=by obtain⟨b',o',vs,hv,-,hc,hl,hu,-⟩:=af1 h.box;cases hv;match vs,hl with| [u0,u1,u2,u3],_=>exact⟨u0,u1,u2,u3,hc 0 _ rfl,hc 1 _ rfl,hc 2 _ rfl,hc 3 _ rfl,.agg [u0,u1,u2,u3] _ hu⟩
def Fm.line{w w1 w2:aU}{K K1:ax->Prop}{bs WO:ah ax}{d:eH.ty}{v:aL}(h:Fm w K bs w1 K1)(hb:Bx P φ eH d v WO K1 w1){s:ah ay}{t:bO}(he:w2=w1.alloc (.cells #[.string ⟨s.toArray⟩] t)): ∃K2,Fm w K bs w2 K2/\Bx P φ eH d v WO K2 w2/\gY φ w2 K2 (.slice (ai ⟨w1.heap.size,0,au⟩) 1 1) (.sl 1 ([s].map Fx.enc)):=by
 have hl:Lo w.heap.size w1 w2:=by rw[he];exact(Lo.refl _ _).alloc h.grow _
 have hl2:Lo w1.heap.size w1 w2:=by rw[he];exact(Lo.refl _ _).alloc (bx _) _
 have hz:w2.heap.size=w1.heap.size+1:=by rw[he];simp
 refine⟨λb=>K1 b\/b=w1.heap.size,(h.lo hl).aGf (λb hb=>.inl hb) (λb hb=>hb.imp id λe=>by rw[e];exact h.grow),(hb.lo hl2).wide (λb hb=>.inl hb) λb hk=> ?_,?_⟩
 .rcases hk with hk|hk
  .exact⟨by have:=hb.kz b hk;omega,λhm=>(hb.ge b hm).1 hk⟩
  .exact⟨by omega,λhm=>by have:=(hb.ge b hm).2;omega⟩
 .refine .sl w1.heap.size 0 1 1 [.str s] [.string ⟨s.toArray⟩] (.inr rfl) (λx hx=>by rw[aT.1 hx];rfl) (bx _) (.cons _ _ _ _ (.str s) .nil) λj u hj=> ?_;cases j with|zero=>cases hj;(have e2:w2.heap[w1.heap.size]? =ai (.cells #[.string ⟨s.toArray⟩] t):=by rw[he];simp only[abb,DC]);simp only[b9,e2];rfl|succ j=>cases hj
def Bx.LX{w w2:aU}{K:ax->Prop}{t:bO}(hK:∀b,K b->b<w.heap.size)(hG:Dv P K w)(he:w2=w.alloc (.cells #[.slice au 0 0,.slice au 0 0,.int .i64 0,.string ⟨#[]⟩] t)): Bx P φ wD ([],[],0,[],()) (.pointer (ai ⟨w.heap.size,0,au⟩)) [w.heap.size] K w2:=by
 have hz:w2.heap.size=w.heap.size+1:=by rw[he];simp
 have e2:w2.heap[w.heap.size]? =ai (.cells #[.slice au 0 0,.slice au 0 0,.int .i64 0,.string ⟨#[]⟩] t):=by rw[he];simp only[abb,DC]
 have hh:w2.heap=w.heap.push (.cells #[.slice au 0 0,.slice au 0 0,.int .i64 0,.string ⟨#[]⟩] t):=by rw[he];rfl
 refine⟨.mk w.heap.size 0 4 (wD.enc ([],[],0,[],())) [.slice au 0 0,.slice au 0 0,.int .i64 0,.string ⟨#[]⟩] [] ?_ ?_ (He hh) rfl,by simp,λb hb=> ?_,λb hb=>by have:=hK b hb;omega,?_⟩;·exact .cons _ _ au _ _ [] (.own _ _ _ _ (.empty au 1)) (.cons _ _ au _ _ [] (.own _ _ _ _ (.empty au 1)) (.cons _ _ au _ _ [] (.data _ _ (.int _ _) (λ_ h=>by cases h)) (.cons _ _ au _ _ [] (.data _ _ (.str []) (λ_ h=>by cases h)) .nil)))
 .intro j u hj;have h5:j<4:=by have:=(mC.1 hj).1;simpa using this
  match j,h5 with|0,_=>cases hj;simp only[b9,e2];rfl|1,_=>cases hj;simp only[b9,e2];rfl|2,_=>cases hj;simp only[b9,e2];rfl|3,_=>cases hj;simp only[b9,e2];rfl
 .rw[aT.1 hb];exact⟨λh=>by have:=hK _ h;omega,by omega⟩
 .exact hG.on (λb hb=>hb) λb hb=>by have:=hK b hb;rw[hh,FC this,AL this]
def dx.three{g:ax}{ab:ah A}{s t:ah ay}{b:aW}(hc:dx P φ g ab [.str s,.str t,.bool b] []){w:aU}{K:ax->Prop}{vs:ah aL}(hr:dp φ w K vs ab)(hK:∀b,K b->b<w.heap.size)(hG:Dv P K w): fF P (φ g) vs.toArray w λe w'=>e=.returned (.tuple #[.string ⟨s.toArray⟩,.string ⟨t.toArray⟩,.bool b])/\Lo w.heap.size w w':=by refine(hc w K vs [] (gy.ml hr) ib (λ_ h=>by cases h) hK hG).mono λe w' ⟨v,he,hb⟩=> ?_;subst he;obtain⟨qQ,K',rb,ob,hv,_,_,R8,ho,_,hbl⟩:=hb.rest;refine⟨?_,hb.grow,λb hb'=>hb.frame b hb' (by simp),hb.env.1,hb.env.2⟩;cases R8 with|cons v1 _ b1 vs1 _ bs1 r1 t1=>cases t1 with|cons v2 _ b2 vs2 _ bs2 r2 t2=>cases t2 with|cons v3 _ b3 vs3 _ bs3 r3 t3=>cases t3;cases r1 with|data _ h1=>cases r2 with|data _ h2=>cases r3 with|data _ h3=>cases h1;cases h2;cases h3;rw[hv];rfl
def axo(s:ah ay):aL:=.string ⟨s.toArray⟩
def aoC{w:aU}{K:ax->Prop}:∀{r:ah (ah ay)} {vs:ah aL},dp φ w K vs ((r.map Fx.enc).flatMap A.cells)->vs=r.map axo
 | [],_,h=>by cases h;rfl
 |s::r,_,h=>by(cases h with|cons v _ vs _ h1 h2=>cases h1;rw[aoC h2];rfl)
def ayC{w:aU}{K:ax->Prop}{ad:aq afQ}{n cp:ax}{r:ah (ah ay)}(h:gY φ w K (.slice ad n cp) (.sl 1 (r.map Fx.enc))): (r=[]/\n=0)\/∃b o,ad=ai ⟨b,o,au⟩/\K b/\n=ae r/\ae r<=cp/\dw w b o (r.map axo):=by
 generalize hx:r.map Fx.enc=xs at h
 cases h with
 |Rx ad cap z=>cases r with
  |nil=>exact .inl ⟨rfl,rfl⟩
  |cons=>cases hx
 |sl b o cap z xs vs hb hz hc h hv=>
  subst hx;rw[bf]at hc⊢;rw[aoC h]at hv;exact .inr ⟨b,o,rfl,hb,rfl,hc,hv⟩
def aJM(P:bV)(φ:ax->ax)(w:aU)(K:ax->Prop)(bs:ah ax)(v:aL)(r:ah (ah ay)×aw×aW×eH.ty)(e:Ending)(w':aU):Prop:=∃vl K' WO,e=.returned (.tuple #[vl,.int .i64 r.2.1,.bool r.2.2.1])/\Fm w K bs w' K'/\Bx P φ eH r.2.2.2 v WO K' w'/\(∀b∈WO,b∈bs\/w.heap.size<=b)/\gY φ w' K' vl (.sl 1 (r.1.map Fx.enc))
structure aCY(P:bV)(ex cut spl rd:ax)(tn:ah (ah ay×ax))(an:ah (ah ay×ah ay×ax)):Prop where
 en:lA P ex
 run:∀(φ:ax->ax) (gc gs gr:ax) (F:ExF),φ gc=cut->φ gs=spl->φ gr=rd->
  (∀a b r,F.cut a b=ai r->dx P φ gc [.str a,.str b] [.str r.1,.str r.2.1,.bool r.2.2] [])->
  (∀a b r,F.split a b=ai r->ae r<4611686018427387904/\dx P φ gs [.str a,.str b] [.tok 0 1 (r.map Fx.enc)] [])->
  (∀a k s r,F.rd a k s=ai r->dx P φ gr [.iU 4 [wD.enc a],.int .u8 k,.str s] [.bool r.1] [.iU 4 [wD.enc r.2]])->
  Tab (aGV P φ) F.tt tn->Tab (λp q=>p.1=q.1/\aCV P φ p.2 q.2) F.ta an->
  ∀(d:eH.ty) (line:ah ay) r,exF F d line=ai r->∀(w:aU) (K:ax->Prop) (bs:ah ax) (v:aL),Bx P φ eH d v bs K w->
  fF P ex #[v,.string ⟨line.toArray⟩] w λe w'=>aJM P φ w K bs v r e w'
def An.self:∀(l:ah A),An l l | []=>.nil |a::l=>.cons _ _ _ _ (.refl a) (An.self l)
def oQ.asO{g:ax}{c:Callee}(he:lA P (φ g))(h:∀x y,c.f x=ai y->dx P φ g (KJ c.ps x) (JD c y).1 (JD c y).2):oQ P φ g c:=by
 refine⟨he,λab res outs hc=> ?_⟩;unfold Callee.cf at hc;split at hc;·rename_i hx;obtain⟨y,hy,hr⟩:=aM.1 hc;have h1:=h _ _ hy;rw[hr]at h1;exact h1.od (abN hx.choose_spec.2) (An.self _) (An.self _)
 .cases hc
def kE.lt{w:aU}{K:ax->Prop}{v:aL}{z:ax}{x:A}{bs:ah ax}(h:kE φ w K v z x bs):∀b∈bs,b<w.heap.size:=by cases h with|mk b o z x vs bs h hv hr hz=>intro c hc;(rcases bP.1 hc with rfl|hc);(·exact hr.lt);·exact h.lt c hc
def aNl{F:ExF}{g gc gs gr ex cut spl rd:ax}{tn:ah (ah ay×ax)}{an:ah (ah ay×ah ay×ax)}(L:aCY P ex cut spl rd tn an)(hφ: [g,gc,gs,gr].map φ=[ex,cut,spl,rd]) (h1:∀a b r,F.cut a b=ai r->dx P φ gc [.str a,.str b] [.str r.1,.str r.2.1,.bool r.2.2] []) (h2:∀a b r,F.split a b=ai r->ae r<4611686018427387904/\dx P φ gs [.str a,.str b] [.tok 0 1 (r.map Fx.enc)] []) (h3:∀a k s r,F.rd a k s=ai r->dx P φ gr [.iU 4 [wD.enc a],.int .u8 k,.str s] [.bool r.1] [.iU 4 [wD.enc r.2]]) (h4:Tab (aGV P φ) F.tt tn) (h5:Tab (λp q=>p.1=q.1/\aCV P φ p.2 q.2) F.ta an):oQ P φ g (exC F):=by
 simp only[aY,gJ,dU,pN]at hφ;obtain⟨f1,f2,f3,f4⟩:=hφ;refine oQ.asO (by rw[f1];exact L.en) λx y hy=> ?_;obtain⟨d,line,⟨⟩⟩:=x;have hy:exF F d line=ai y:=hy;have e1:KJ (exC F).ps (d,line,())=[.iU 12 [eH.enc d],.str line]:=by show [A.iU 12 [(eH.v d).a],.str line]=_;rw[ET.v_a]
 have e2:JD (exC F) y=([.sl 1 (y.1.map Fx.enc),.int .i64 y.2.1,.bool y.2.2.1],[.iU 12 [eH.enc y.2.2.2]]):=by have q:((ET.one (.sl Fx)).v y.1).a=(ET.one (.sl Fx)).enc y.1:=ET.v_a _ _;have q2:(eH.v y.2.2.2).a=eH.enc y.2.2.2:=ET.v_a _ _;show([((ET.one (.sl Fx)).v y.1).a,_,_],[A.iU 12 [(eH.v y.2.2.2).a]])=_;rw[q,q2];rfl
 rw[e1,e2];intro w K vs bs ha Jg hb hK hG;cases ha with|cons v _ b0 vs _ bs1 hv t=>
 cases t with|cons u _ b2 us _ bs2 hu t=>
 cases t;cases hu with|data _ hu=>
 cases hu;cases hv with|data _ h=>cases h|iU _ _ _ RY=>
 simp only[cD]at Jg hb⊢;rw[f1];have hbz:∀c∈b0,c<w.heap.size:=λc hc=>RY.lt c hc;refine(L.run φ gc gs gr F f2 f3 f4 h1 h2 h3 h4 h5 d line y hy w K b0 v ⟨RY,Jg,λb hb'=>⟨hb b hb',hbz b hb'⟩,hK,hG⟩).mono λe w' ⟨vl,K',WO,he,hfm,hbx,hbs,Dx⟩=>⟨_,he,?_⟩;refine⟨hfm.grow,hfm.frame,hfm.env,hfm.fr,λb n hr=>hfm.room b n hr.lt hr,[vl,.int .i64 y.2.1,.bool y.2.2.1],K',[],WO,rfl,hfm.up,λb hk=> ?_,?_,?_,by simpa using hbx.nd,λb hb'=> ?_⟩
 .rcases hfm.dn b hk with h|h|h
  .exact .inl h
  .exact .inr (.inl h)
  .exact .inr (.inr ⟨h,hbx.kz b hk⟩)
 .exact .cons _ _ [] _ _ [] (.data _ _ Dx) (.cons _ _ [] _ _ [] (.data _ _ (.int _ _)) (.cons _ _ [] _ _ [] (.data _ _ (.bool _)) .nil))
 .have:=jF.iU (φ:=φ) (w:=w') (K:=K') v 12 (eH.enc d) (eH.enc y.2.2.2) WO [.string ⟨line.toArray⟩] [.str line] [] [] hbx.box (.data _ _ _ _ _ _ ⟨λ_ _ h=>(by cases h),λ_ _ h=>(by cases h)⟩ .nil);rwa[cD]at this
 .have hb2:b∈WO:=by simpa using hb'
  exact⟨(hbx.ge b hb2).1,(hbx.ge b hb2).2,(hbs b hb2)⟩
end
section
variable {P:bV} {φ:ax->ax}
def oQ.ahZ{g:ax}{c:Callee}(h:oQ P φ g c){x:Hv c.ps}{y:Ts (c.rs++c.os)}{ab rs os:ah A}(ht:Gb c.ps=aB)(hn:Dj c.ps ab=KJ c.ps x)(hf:c.f x=ai y)(hr:JD c y=(rs,os)):dx P φ g ab rs os:=
 h.2 _ _ _ (by rw[Callee.aun ht hn,hf,aS,hr])
abbrev bE:ET:=.one .bool
def atm{D:ah (ax×Callee)}{H:ah (ax×ET)}{fn:Fn}{g n:ax}(h:oQ P φ g (ik D H fn [.box eH,.d Fx] [.d bE,.d kY] [.box eH]))(hn:φ g=n):
 aGV P φ (λd s=>(ik D H fn [.box eH,.d Fx] [.d bE,.d kY] [.box eH]).f (d,s,())) n:=
 ⟨g,hn,hn▸h.1,λd s r hr=>h.ahZ (c:=ik D H fn [.box eH,.d Fx] [.d bE,.d kY] [.box eH]) (x:=(d,s,())) (y:=r) rfl (by show [MT.norm (.box eH) (A.iU 12 [eH.enc d]),_]=[A.iU 12 [(eH.v d).a],_];rw[ET.v_a];rfl) hr (by show([_,_],[A.iU 12 [(eH.v r.2.2).a]])=_;rw[ET.v_a];rfl)⟩
def DL{D:ah (ax×Callee)}{H:ah (ax×ET)}{fn:Fn}{g n:ax}(h:oQ P φ g (ik D H fn [.p aau,.d TG] [.tok Fx,.d kY] []))(hn:φ g=n):
 aCV P φ (qV λd s=>(ik D H fn [.p aau,.d TG] [.tok Fx,.d kY] []).f (d,s,())) n:=
 ⟨g,hn,hn▸h.1,.inl λd a r hr=>by obtain⟨q,hq,rfl⟩:=aM.1 hr;refine⟨rfl,h.ahZ (c:=ik D H fn [.p aau,.d TG] [.tok Fx,.d kY] []) (x:=(d,a,())) (y:=q) rfl ?_ hq ?_⟩;(·show [MT.norm (.p aau) (A.ptr (aau.enc d).cells 0),_]=[A.ptr ((aau.vs d).map V.a) 0,(TG.v a).a];rw[ET.v_a,<-ET.aib];rfl);·rfl⟩
def aIZ{D:ah (ax×Callee)}{H:ah (ax×ET)}{fn:Fn}{g n:ax}(h:oQ P φ g (ik D H fn [.box eH,.d TG] [.tok Fx,.d kY] [.box eH]))(hn:φ g=n):
 aCV P φ (λd s=>(ik D H fn [.box eH,.d TG] [.tok Fx,.d kY] [.box eH]).f (d,s,())) n:=
 ⟨g,hn,hn▸h.1,.inr λd a r hr=>h.ahZ (c:=ik D H fn [.box eH,.d TG] [.tok Fx,.d kY] [.box eH]) (x:=(d,a,())) (y:=r) rfl (by show [MT.norm (.box eH) (A.iU 12 [eH.enc d]),TG.enc a]=[A.iU 12 [(eH.v d).a],(TG.v a).a];rw[ET.v_a,ET.v_a];rfl) hr (by show([_,_],[A.iU 12 [(eH.v r.2.2).a]])=_;rw[ET.v_a];rfl)⟩
def aG0{g:ax}(h:oQ P φ g aDH)(a b:ah ay)(r:ah ay×ah ay×aW)(hr:aDH.f (a,b,())=ai r):dx P φ g [.str a,.str b] [.str r.1,.str r.2.1,.bool r.2.2] []:=h.ahZ (c:=aDH) (x:=(a,b,())) (y:=r) rfl rfl hr rfl
def aru(p:ah ay)(n:ax):∀(k:ax) (s:ah ay),ae (Aw p n k s)<=k+1
 |0,s=>by simp[Aw]
 |k+1,s=>by
  unfold Aw;split;·simp
  .have:=aru p n k (s.drop ((arP s p).toNat+ae p));simp only[bl];omega
def aBW{g:ax}(h:oQ P φ g aot)(a b:ah ay)(r:ah (ah ay))(hr:aot.f (a,b,())=ai r):ae r<4611686018427387904/\dx P φ g [.str a,.str b] [.tok 0 1 (r.map Fx.enc)] []:=
 ⟨by
   have hq:(if ao (ae (α:=ay) a<4294967281)&&ao (1<=ae (α:=ay) b)then ai (Aw b 0 (WI a b) a)else au)=ai r:=hr
   split at hq
   .rename_i h1
    cases hq
    simp only[az,aG]at h1
    have:=aru b 0 (WI a b) a
    have:=Lib.count_le a b
    omega
   ·(cases hq),h.ahZ (c:=aot) (x:=(a,b,())) (y:=r) rfl rfl hr rfl⟩
def aFg{D:ah (ax×Callee)}{H:ah (ax×ET)}{fn:Fn}{g:ax}(h:oQ P φ g (ik D H fn [.box wD,.d (.one (.int .u8)),.d Fx] [.d bE] [.box wD]))(a:wD.ty)(k:aw)(s:ah ay)(r:aW×wD.ty)
 (hr:(ik D H fn [.box wD,.d (.one (.int .u8)),.d Fx] [.d bE] [.box wD]).f (a,k,s,())=ai r):dx P φ g [.iU 4 [wD.enc a],.int .u8 k,.str s] [.bool r.1] [.iU 4 [wD.enc r.2]]:=
 h.ahZ (c:=ik D H fn [.box wD,.d (.one (.int .u8)),.d Fx] [.d bE] [.box wD]) (x:=(a,k,s,())) (y:=r) rfl (by show [MT.norm (.box wD) (A.iU 4 [wD.enc a]),_,_]=[A.iU 4 [(wD.v a).a],_,_];rw[ET.v_a];rfl) hr (by show([_],[A.iU 4 [(wD.v r.2).a]])=_;rw[ET.v_a];rfl)
end
end Go.Ab

