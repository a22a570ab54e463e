/- The abstract interpreter and its soundness, third part. Conditions: none. -/
import Derived.Test.YtohijocnlnmlpaaGreatDoorG1
import Derived.Deep.MidRow
import Derived.Deep.AppendSrc
import Derived.Orders
set_option linter.unusedVariables false
set_option linter.unusedSimpArgs false
set_option linter.defProp false
open Array renaming ext'->Ri,getD_eq_getD_getElem? ->fi,getElem?_eq_none->nu,getElem?_eq_some_iff->I5,getElem?_modify->PS,getElem?_toList->n9,length_toList->Ys,range->ani,replicate->Pr,size_append->Mo
open Bool renaming and_eq_true->aj,and_eq_true_iff->hZ,and_self->bM,and_true->aeG,eq_iff_iff->afX,false->aw,false_and->qi,false_eq_true->ao,false_or->XM,not_eq_true'->cn,not_false->fF,not_true->aY,or_eq_true->cj,true->ar,true_and->jD,true_or->aar
open Classical renaming choose->akg
open Decidable renaming decide->ah
open Go.Act renaming eval->Rk,put->ao4
open Go.Addr.mk renaming injEq->adA
open Go.Array renaming range_zero'->Yu
open Go.Builtin renaming append_->fU,firstCells->pC,nextslicecap->ahN,zeroCells->bQ
open Go.Instr renaming buildSlice->vH,fill->VF,sureAddr->Ta
open Go.Oper renaming upon_skip->auc,upon_value->oi,wp->zq
open Go.Region renaming ready->ahK,wanted->S4
open Go.Result renaming andThen_ok->bP
open Go.Sem renaming run_bind->dp,run_ite->asq,run_pure->jb
open Go.Src renaming ofSlice->asr
open Go.Value renaming agg->qj
open Go.Value.slice renaming injEq->wN
open Go.World renaming cell? ->df,cell?_setCells_in->aj9,cell?_setCells_out->KD,setCell->KE,setCells->adD
open List renaming all_cons->de,all_eq_true->aG,all_map->uW,all_nil->fK,any_eq_true->Ms,append_assoc->dJ,append_nil->bS,cons_append->sn,contains_eq_mem->ck,drop_drop->al9,drop_zero->dV,eq_nil_of_length_eq_zero->gy,eq_of_mem_replicate->MV,flatMap_append->Jd,flatMap_cons->cg,getElem?_append_left->eA,getElem?_append_right->dC,getElem?_drop->Je,getElem?_eq_getElem->ay,getElem?_eq_none->bB,getElem?_eq_some_iff->iL,getElem?_map->bX,getElem?_replicate->ama,getElem?_set_ne->Tq,getElem?_set_self->PV,getElem?_take->oB,getElem_mem->bc,isEmpty_iff->qk,length_append->aQ,length_cons->bh,length_nil->cy,length_pos_iff->Z7,length_replicate->DZ,length_take->cQ,lookup_cons->adE,map_congr_left->nw,map_cons->aP,mem_append->aU,mem_append_left->bW,mem_append_right->aS,mem_cons->bl,mem_cons_of_mem->aL,mem_cons_self->di,mem_filter->awY,mem_flatMap->jq,mem_iff_getElem? ->ff,mem_map->dK,mem_of_getElem? ->bw,mem_of_mem_drop->cA,mem_of_mem_take->fo,mem_or_eq_of_mem_set->anq,mem_range->Jf,mem_singleton->aX,nil_append->dU,nodup_append->cZ,nodup_cons->pd,nodup_nil->iy,pairwise_append->ib,pairwise_cons->ic,range->dL,replicate->aZ,size_toArray->Nu,tail_cons->auq,tail_nil->avf,take_length->aA,take_zero->xf
open Nat renaming add_assoc->gS,add_mul->Ga,add_sub_cancel'->Tr,add_sub_cancel_left->zn,add_zero->anr,le_refl->bm,le_trans->dZ,lt_of_lt_of_le->bU,lt_or_ge->bH,min_eq_left->S6,mul_le_mul->VG,mul_le_mul_right->cu,succ_mul->dW,zero_add->c8,zero_le->iW
open Ne renaming symm->tN
open Option renaming bind_eq_some_iff->ak,bind_some->af,getD_some->eJ,isNone_iff_eq_none->ig,isSome_iff_exists->dq,map->Ts,map_eq_some_iff->au,map_some->az,none->ai,some->ae
open Option.some renaming inj->cq,injEq->aq
open Prod.mk renaming injEq->be
namespace Go.Ab
section
variable {P:Program} {φ:Nat->Nat} {w0:World} {L:kU} {E E':Env} {st st':St} {ev ev':Nat->Value} {w w':World} {r r':Nat->Option dF} {a:Act}
def U7{z:Nat}{w:World}{b n:Nat}{ad:Addr}{v:Value}(h:fA z w b n):fA z (w.setCell ad v) b n:=by
 obtain⟨C,e,fr,h1,h2,h3⟩:=h;by_cases hb:ad.block=b
 ·refine⟨if ad.spot.isSome then C else C.setIfInBounds ad.off v,e,fr,?_,?_,λoff ho=> ?_⟩;·simp only[KE,hb];rw[PS,h1];simp
  ·split<;>simpa using h2
  ·rw[World.frozen?_setCell];refine h3 off ?_;split at ho<;>simpa using ho
 ·have:(w.setCell ad v).heap[b]? =w.heap[b]? :=by simp only[KE];rw[PS];simp[hb]
  exact fA.of_block this ⟨C,e,fr,h1,h2,h3⟩
def OX(b:Nat):∀(vs:List Value) (o:Nat) (w:World),(∀b',b'≠b->(w.setCells b o vs).heap[b']? =w.heap[b']?)/\(w.setCells b o vs).heap.size=w.heap.size/\
 ((w.setCells b o vs).os=w.os/\(w.setCells b o vs).output=w.output)/\(∀{z:Nat} n,fA z w b n->fA z (w.setCells b o vs) b n)
 | [],o,w=>⟨λ_ _=>rfl,rfl,⟨rfl,rfl⟩,λ_ h=>h⟩
 |v::vs,o,w=>by
  obtain⟨h1,h2,h3,h4⟩:=OX b vs (o+1) (w.setCell ⟨b,o,ai⟩ v)
  refine⟨λb' hb=> ?_,?_,?_,λn hn=>h4 n (U7 hn)⟩
  ·rw[adD,h1 b' hb]
   simp only[KE]
   rw[PS]
   have:¬b=b':=λe=>hb e.symm
   simp[this]
  ·rw[adD,h2];simp[KE]
  ·rw[adD];exact h3
def Wr.cells{b o:Nat}{vs:List Value}(hn:¬E.ok b)(hz:Tv w0 L b)(sh:∀q R',r' q=ae R'->∃R,r q=ae R/\R'.b=R.b/\R'.z=R.z/\R'.xs.length=R.xs.length): Wr w0 L E r r' w (w.setCells b o vs) b:=by obtain⟨h1,h2,h3,h4⟩:=OX b vs o w;exact⟨h1,h2,h3,λoff=>World.frozen?_setCells b vs o w _,h4,hn,hz,sh⟩
def fA.cell{z:Nat}{b n:Nat}(h:fA z w b n){j:Nat}(hj:j<n):(w.cell? ⟨b,j,ai⟩).isSome=ar/\w.frozen? ⟨b,j,ai⟩=aw:=by obtain⟨C,e,fr,h1,h2,h3⟩:=h;refine⟨?_,h3 j (by omega)⟩;simp only[df,h1];simp;omega
def cH.write{z:Nat}{b o:Nat}{vs news:List Value}{c:Nat}(hv:cH w b o vs)(hr:fA z w b (o+vs.length))(hc:c+news.length<=vs.length):
 cH (w.setCells b (o+c) news) b o (vs.take c++news++vs.drop (c+news.length)):=λj v hj=>by
 rcases bH j c with h1|h1
 ·rw[KD b news (o+c) w ⟨b,o+j,ai⟩ (λ_ _=>.inl (by simp;omega))]
  refine hv j v ?_
  rw[dJ,eA (by simp;omega)]at hj
  rw[oB,aJ h1]at hj
  exact hj
 ·rcases bH j (c+news.length)with h2|h2
  ·have hin:=aj9 b news (o+c) w (λi hi=>(hr.cell (by omega)).1) (j-c) (by omega)
   rw[show o+c+(j-c)=o+j from by omega]at hin
   rw[hin]
   rw[dJ,dC (by simp;omega),eA (by simp;omega)]at hj
   have:(vs.take c).length=c:=by simp;omega
   rw[this,ay (by omega)]at hj
   exact hj
  ·rw[KD b news (o+c) w ⟨b,o+j,ai⟩ (λ_ _=>.inr (by simp;omega))]
   refine hv j v ?_
   have hl:(vs.take c++news).length=c+news.length:=by simp;omega
   rw[dC (by rw[hl];exact h2),hl]at hj
   simpa[show c+news.length+(j-(c+news.length))=j from by omega]using hj
def Value.one_cell{v:Value}(h:(∀cs,v≠ .agg cs)/\∀vs,v≠ .tuple vs):v.oneCell'=ar:=by cases v<;>first|rfl|exact absurd rfl (h.1 _)|exact absurd rfl (h.2 _)
def SB{z:Nat}{t:TypeId}{b o n:Nat}{v:Value}(ht:aly P t n=ar)(hl:v.cells.size=n)(h1:∀u∈v.cells.toList,u.oneCell'=ar)(hr:fA z w b (o+n)): (storeVar t ⟨b,o,ai⟩ v).run P w=.ok () (w.setCells b o v.cells.toList):=by obtain⟨i,hi,hs⟩:=Xv ht;have hst:=run_storeCells_cells (P:=P) b o v.cells.toList 0 w (λj hj=>by simpa using (hr.cell (by simp at hj;omega)).1) (λj hj=>by simpa using (hr.cell (by simp at hj;omega)).2) h1;simp only[anr]at hst;simp[storeVar,sizeOf,typeInfo,hi,hl,hs,hst]
def jW{old:A}{cs:List A}(hl:cs.length=old.cells.length)(hn:∀y∈cs,∀l,y≠ .agg l):(eX old cs).cells=cs:=by
 by_cases ho:∃l,old=.agg l;·obtain⟨l,rfl⟩:=ho;rfl
 ·have ho':∀l,old≠ .agg l:=λl e=>ho ⟨l,e⟩;rw[A.DO ho']at hl;have:eX old cs=cs.headD .any:=by cases old<;>first|rfl|exact absurd rfl (ho' _)
  rw[this];match cs,hl with| [y],_=>exact A.DO (hn y (aX.2 rfl))
def fg.agJ{q c:Nat}{v:Value}{x:A}(h:fg φ E r w q c v x)(l:List A):x≠ .agg l:=by cases h with|data _ h ha=>exact ha l|any=>exactλe=>by cases e|view=>exactλe=>by cases e
def cI.Um(h:cI φ w0 L E st ev w){d:Nat}(hd:d<1000):∀p' R',st.r p'=ae R'->R'.b=ar->∀x∈R'.xs,∀y∈x.cells,iY d y=aw:=λp' R' hp hb x hx y hy=>by cases hr:iY d y with|false=>rfl|true=>obtain⟨c,_,e,_⟩:=h.Jl hp hb hx hy hr;have:=Pe p' c;omega
def cI.box(h:cI φ w0 L E st ev w){d z b o:Nat}{x:A}{vs:List Value}(hd:d<1000)(hpl:∀p',L.pl d=ae p'->p'=(b,o))(hF:iK w0 L E st ev w b)(hz:x.cells.length=z)(hl:vs.length=x.cells.length) (hcells:∀(c:Nat) (v:Value) (a:A),vs[c]? =ae v->x.cells[c]? =ae a->fg φ E st.r w d c v a) (hv:cH w b o vs) (hr:fA z w b (o+z)): cI φ w0 L ⟨E.ok,λi=>if i=d then ae (b,o)else E.ρ i⟩ ((st.kill d).aD d (ae ⟨ar,z,[x]⟩)) ev w:=by
 have h1:=(h.kill d).CD d;rw[<-nZ];refine h1.root (p:=ae (b,o)) (by simp[St.aD]) (λi=>xr d _) (h1.Um hd) (λb' o' e=> ?_) (λp' e=>by rw[hpl p' e]) ?_
 ·cases e;refine⟨hF.z,λq' b' o' a1 a2=>hF.r q' b' o' ?_ a2,λi k b' a1=>hF.t i k b' (Tk.cJ (wh d) a1).1⟩;simp only[St.aD]at a1;split at a1;·cases a1
  ·exact a1
 ·refine .box b o z x vs (by simp) hz hd hl (λc v a h2 h3=> ?_) hv hr;cases hcells c v a h2 h3 with|data _ h ha=>exact .data _ _ h ha|any h=>exact .any _ h|view off n hc h hv=>(have hne:sub d c≠d:=by have:=Pe d c;omega);refine .view _ _ _ hc (h.VA λR hR=>⟨?_,aO hne⟩) hv;simpa[St.aD,St.kill,St.map,hne]using hR
def amF(h:lf φ w0 L E st a w){d b:Nat}{R:dF}(hR:st.r d=ae R)(hρ:E.ρ d=ae (b,0))(hd:d<a.tmps.size): lf φ w0 L E (st.put (ae d) (.loc d 0 0)) (a.put (ae d) (.pointer (ae ⟨b,0,ai⟩))) w:=by
 have hrv:jr φ E st.r w (.pointer (ae ⟨b,0,ai⟩)) (.loc d 0 0):=by have:=jr.loc (φ:=φ) (E:=E) (r:=st.r) (w:=w) b 0 d 0 0 R hR hρ;simpa using this
 exact h.put hd (.one _ _ hrv) ((DX.scalar Un).tok h)
section
variable {o:Oper} {next:Act->World->Prop} {Q:Exit->Act->World->Prop} {cf:CF} {io:Nat->List Bool}
def axK(h:lf φ w0 L E st a w){y:Operand}{y':bZ}(ho:o.op=.assign y)(hc:bV φ y y'=ar)(hd:∀i,o.dst=ae i->i<a.tmps.size)(hdl:∀i,o.dst=ae i->L.pl i=ai)(he:bt cf io o.dst st (.asg y')=ae st') (hn:∀E' v w',lf φ w0 L E' st' (a.put o.dst v) w'->next (a.put o.dst v) w'):o.wp P a w next Q:=by
 have hy:=dz h hc;have hrun:(execOp a.eval o).run P w=.ok (.value (a.eval y)) w:=by simp[execOp,ho]
 unfold zq;rw[hrun,oi];simp only[bt]at he;split at he
 ·rename_i d k z xs e1 e2;split at he;·rename_i hlt;simp only[aq]at he;subst he;rw[e1]at hn⊢;rw[e2]at hy;obtain⟨E1,h1,_,h2⟩:=h.tocI.ahb (q:=d) hy.1.PL (λb ht=>hy.2 k b (.one _ _ _ _ ht)) (hdl d e1) (h.Um hlt);have h3:lf φ w0 L E1 (((st.cX k).kill d).aD d (ae ⟨aw,z,xs⟩)) a w:=⟨h1,h.yI⟩;exact hn E1 _ w (h3.put (hd d e1) (.one _ _ h2) ((DX.scalar Ar).tok h3))
  ·cases he
 ·rename_i d z e1 e2;split at he;·rename_i hlt;simp only[aq]at he;subst he;rw[e1]at hn⊢;rw[e2]at hy;rw[hy.1.JY];have h1:=(h.tocI.kill d).CD d;have h2:=h1.root (p:=ai) (R:=⟨aw,z,[]⟩) (by simp[St.aD]) (λi=>xr d _) (h1.Um hlt) (λ_ _ e=>by cases e) (λp' e=>by rw[hdl d e1]at e;cases e) (.empty z (by simp));rw[nZ]at h2;have h3:lf φ w0 L _ ((st.kill d).aD d (ae ⟨aw,z,[]⟩)) a w:=⟨h2,h.yI⟩;exact hn _ _ w (h3.put (hd d e1) (.one _ _ (.kP ai d 0 ⟨aw,z,[]⟩ (by simp[St.aD]) rfl (iW _))) ((DX.scalar Ar).tok h3))
  ·cases he
 ·simp only[aq]at he;subst he;exact hn E _ w (h.aV hd hy.1 (hy.2.tok h))
def afa(h:cI φ w0 L E st ev w){C:Array Value}{e:TypeId}(hh:w'.heap=w.heap.push (.cells C e)):iK w0 L E st ev w' w.heap.size:=
 ⟨⟨λhk=>Nat.lt_irrefl _ (h.UP _ hk),.inl h.grow,by rw[hh];simp⟩,λq b' o a1 a2 e=>by have:=(h.rz q b' o a1 a2).2.2;omega,λi k b' a1 e=>by have:=(h.tz i k b' a1).1.2.2;omega⟩
def at3(h:lf φ w0 L E st a w){t:TypeId}{z:Nat}{zero:A}(ho:o.op=.alloc t)(hc:agn P t z zero=ar)(hd:∀i,o.dst=ae i->i<a.tmps.size)(hdl:∀i,o.dst=ae i->L.pl i=ai)(he:bt cf io o.dst st (.alloc z zero)=ae st') (hn:∀E' v w',lf φ w0 L E' st' (a.put o.dst v) w'->next (a.put o.dst v) w'):o.wp P a w next Q:=by
 simp only[bt]at he;split at he
 ·rename_i d e1;split at he
  ·rename_i hcond;obtain⟨hzl,hlt,hp⟩:=hcond;simp only[aq]at he;subst he;obtain⟨i,v,hi,hs,hzero,hcs,hvz⟩:=Pv hc;(have hrun:(execOp a.eval o).run P w=.ok (.value (.pointer (ae ⟨w.heap.size,0,ai⟩))) (w.alloc (.cells v.cells t)):=by simp[execOp,ho,Instr.alloc,zeroValue,typeInfo,hi,hzero,newVar,newRow]);unfold zq;rw[hrun,oi,e1];have hh:(w.alloc (.cells v.cells t)).heap=w.heap.push (.cells v.cells t):=rfl;have hext:=Ea hh ⟨rfl,rfl⟩;have h1:=h.tocI.ext hext (.refl E w _);have hreps:cW φ (w.alloc (.cells v.cells t)) E.ok v.cells.toList zero.cells:=wP hcs
   have h2:=h1.box (d:=d) (z:=z) (o:=0) (x:=zero) (vs:=v.cells.toList) hlt (λp' e=>by rw[hdl d e1]at e;cases e) (afa h.tocI hh) hzl hreps.length (λc u x hu hx=>by
    obtain⟨u',hu',hr⟩:=hreps.get hx
    rw[hu]at hu';cases hu'
    exact .data _ _ hr (Fe (aG.1 hp x (bw hx)))) (pG hh) ((Ax hh).le (by omega))
   rw[e1]at hn;exact hn _ _ _ (amF ⟨h2,h.yI⟩ (R:=⟨ar,z,[zero]⟩) (by simp[St.aD]) (by simp) (hd d e1))
  ·cases he
 ·cases he
def axL(h:lf φ w0 L E st a w){t:TypeId}{z:Nat}{y:Operand}{y':bZ}(ho:o.op=.box t y)(hc:bV φ y y'=ar)(hd:∀i,o.dst=ae i->i<a.tmps.size)(hdl:∀i,o.dst=ae i->L.pl i=ai)(he:bt cf io o.dst st (.box z y')=ae st') (hn:∀E' v w',lf φ w0 L E' st' (a.put o.dst v) w'->next (a.put o.dst v) w'):o.wp P a w next Q:=by
 simp only[bt]at he;split at he
 ·rename_i d e1;split at he
  ·rename_i hcond;obtain⟨hlt,hz1000,hzl,hsol⟩:=hcond;obtain⟨⟨cs,st1⟩,ha,he⟩:=au.1 he;subst he;(have hrun:(execOp a.eval o).run P w=.ok (.value (.pointer (ae ⟨w.heap.size,0,ai⟩))) (w.alloc (.cells (a.eval y).cells t)):=by simp[execOp,ho,Instr.box,newVar,newRow]);unfold zq;rw[hrun,oi,e1];rw[e1]at hn;have hy:=dz h hc;(have hsz:(a.eval y).cells.size=z:=by have:=(OY (a:=a) hy.1 hy.2 hsol).1;simp at this;omega);have hh:(w.alloc (.cells (a.eval y).cells t)).heap=w.heap.push (.cells (a.eval y).cells t):=rfl;have hext:=Ea hh ⟨rfl,rfl⟩;have h1:=((h.tocI.avQ hy.1 hy.2 gs).kill d).CD d
   obtain⟨E1,h2,hst,hl,hall⟩:=h1.fh ha (by omega) (λc' a1 a2 p' R' hp hb x hx y hy=>by
    cases hr:iY (sub d c') y with
    |false=>rfl
    |true=>
     obtain⟨c2,hc2,e2,_⟩:=h1.Jl hp hb hx hy hr
     have e3:=(Me (by omega) hc2 e2).1
     simp[St.aD,<-e3]at hp)
   have h3:=(h2.amq).ext hext (.refl E1 w _);(have hcell:∀(c:Nat) (u:Value) (x:A),(a.eval y).cells.toList[c]? =ae u->cs[c]? =ae x->fg φ E1 (st1.aV gs .any).r (w.alloc (.cells (a.eval y).cells t)) d c u x:=λc u x hu hx=>by obtain⟨u',hu',hcl⟩:=hall c x hx;simp only[evG,aC,c8]at hu';(have:u'=u:=by(have h5:(a.eval y).cells.toList[c]? =(a.eval y).cells[c]? :=by simp);rw[h5,hu']at hu;exact cq hu);subst this;simp only[c8]at hcl;exact hcl.ext hext.same (λ_ h=>h) rfl h2.UP);(have hna:∀x∈cs,∀l,x≠ .agg l:=λx hx=>by obtain⟨c,hc⟩:=ff.1 hx;obtain⟨u',hu',hcl⟩:=hall c x hc;exact hcl.agJ);have hrc:(eX (y'.v st) cs).cells=cs:=jW (by rw[hl,hzl]) hna;have h4:=h3.box (d:=d) (z:=z) (o:=0) (x:=eX (y'.v st) cs) (vs:=(a.eval y).cells.toList) hlt (λp' e=>by rw[hdl d e1]at e;cases e) (afa h2.amq hh) (by rw[hrc,hl]) (by rw[hrc,hl];simpa using hsz) (λc u x hu hx=>hcell c u x hu (by rw[hrc]at hx;exact hx)) (pG hh) ((Ax hh).le (by omega));exact hn _ _ _ (amF ⟨h4,h.yI⟩ (R:=⟨ar,z,[eX (y'.v st) cs]⟩) (by simp[St.aD]) (by simp) (hd d e1))
  ·cases he
 ·cases he
end
end
end Go.Ab
namespace Go.Ab
section
variable {P:Program} {φ:Nat->Nat} {w0:World} {L:kU} {E E':Env} {st st':St} {ev ev':Nat->Value} {w w':World} {r r':Nat->Option dF} {a:Act}
def fg.one{q c:Nat}{v:Value}{x:A}(h:fg φ E r w q c v x):(∀cs,v≠ .agg cs)/\(∀vs,v≠ .tuple vs):=by cases h with|data _ h ha=>exact h.LG ha|any h=>exact h|view _ _ _ _ h=>exact h
def Ul{α:Type}{l m k:List α}{j:Nat}:(l++m++k)[j]? =if j<l.length then l[j]? else if j<l.length+m.length then m[j-l.length]? else k[j-(l.length+m.length)]? :=by
 rw[dJ];split;·rename_i h;rw[eA h]
 ·rename_i h;rw[dC (by omega)];split;·rename_i h2;rw[eA (by omega)]
  ·rename_i h2;rw[dC (by omega)];congr 1;omega
def ah3{e:A}{c n:Nat}(hn:∀y∈e.cells,∀l,y≠ .agg l)(hc:c+n<=e.cells.length):(blank e c n).cells=e.cells.take c++aZ n .any++e.cells.drop (c+n):=by
 refine jW (by simp;omega) λy hy l=> ?_;rcases aU.1 hy with hy|hy
 ·rcases aU.1 hy with hy|hy
  ·exact hn y (fo hy) l
  ·rw[MV hy];exactλe=>by cases e
 ·exact hn y (cA hy) l
def cI.aq5(h:cI φ w0 L E st ev w){q b o:Nat}{R R':dF}(hR:st.r q=ae R)(hρ:E.ρ q=ae (b,o))(hs:R'.b=R.b/\R'.z=R.z/\R'.xs.length=R.xs.length) (hok:l9 φ E (st.aD q (ae R')).r w q R'):cI φ w0 L E (st.aD q (ae R')) ev w:=by
 have hq:=h.rz q b o (by rw[hR];rfl) hρ
 have W:Wr w0 L E st.r (st.aD q (ae R')).r w w b:=⟨λ_ _=>rfl,rfl,⟨rfl,rfl⟩,λ_=>rfl,λ_ h=>h,hq.1,hq.2.1,λp R1 hp=>by
  by_cases e:p=q
  ·subst e
   simp[St.aD]at hp;subst hp
   exact⟨R,hR,hs⟩
  ·simp[St.aD,e]at hp
   exact⟨R1,hp,rfl,rfl,rfl⟩⟩
 refine h.write W (λi k ht=>(h.tz i k b ht).2 q b o (by rw[hR];rfl) hρ rfl) λp R1 hp=> ?_;by_cases e:p=q;·subst e;simp[St.aD]at hp;subst hp;exact .inr hok
 ·simp[St.aD,e]at hp;exact .inl ⟨hp,λo' hρ'=>h.inj p q b o' b o (by rw[hp];rfl) (by rw[hR];rfl) hρ' hρ e rfl⟩
def cI.afW(h:cI φ w0 L E st ev w){q b o o':Nat}{R R':dF}{news:List Value}(hR:st.r q=ae R)(hρ:E.ρ q=ae (b,o))(hs:R'.b=R.b/\R'.z=R.z/\R'.xs.length=R.xs.length) (hok:Wr w0 L E st.r (st.aD q (ae R')).r w (w.setCells b o' news) b->l9 φ E (st.aD q (ae R')).r (w.setCells b o' news) q R'):cI φ w0 L E (st.aD q (ae R')) ev (w.setCells b o' news):=by
 have hq:=h.rz q b o (by rw[hR];rfl) hρ;have W:Wr w0 L E st.r (st.aD q (ae R')).r w (w.setCells b o' news) b:=Wr.cells hq.1 hq.2.1 λp R1 hp=>by by_cases e:p=q;(·subst e;simp[St.aD]at hp;subst hp;exact⟨R,hR,hs⟩);·simp[St.aD,e]at hp;exact⟨R1,hp,rfl,rfl,rfl⟩
 refine h.write W (λi k ht=>(h.tz i k b ht).2 q b o (by rw[hR];rfl) hρ rfl) λp R1 hp=> ?_;by_cases e:p=q;·subst e;simp[St.aD]at hp;subst hp;exact .inr (hok W)
 ·simp[St.aD,e]at hp;exact .inl ⟨hp,λo' hρ'=>h.inj p q b o' b o (by rw[hp];rfl) (by rw[hR];rfl) hρ' hρ e rfl⟩
def anW{xs:List A}{z:Nat}(hz:∀x∈xs,x.cells.length=z){i c:Nat}{e e':A}{V:List A}(he:xs[i]? =ae e)(hc:c+V.length<=z)(he':e'.cells=e.cells.take c++V++e.cells.drop (c+V.length)): (xs.set i e').flatMap A.cells=(xs.flatMap A.cells).take (i*z+c)++V++(xs.flatMap A.cells).drop (i*z+c+V.length):=by
 have hi:i<xs.length:=by(rcases bH i xs.length with h|h);(·exact h);·simp[bB h]at he
 have hez:e.cells.length=z:=hz e (bw he);have hez':e'.cells.length=z:=by rw[he'];simp;omega
 have hat:=amy hz he;rw[hez]at hat;rw[aa0 hz hez' hi,he'];generalize xs.flatMap A.cells=F at hat⊢;have hln:((F.drop (i*z)).take z).length=z:=by rw[<-hat];exact hez
 rw[hat];have h1:((F.drop (i*z)).take z).take c=(F.drop (i*z)).take c:=by rw[List.take_take];congr 1;omega
 have h2:((F.drop (i*z)).take z).drop (c+V.length)++F.drop (i*z+z)=F.drop (i*z+c+V.length):=by rw[<-al9 (i:=z) (j:=i*z),<-List.drop_append_of_le_length (by rw[hln];exact hc),List.take_append_drop,al9,gS]
 rw[h1,List.take_add];simp only[dJ];rw[h2]
section
variable {o:Oper} {next:Act->World->Prop} {Q:Exit->Act->World->Prop} {cf:CF} {io:Nat->List Bool}
def axN(h:lf φ w0 L E st a w){t:TypeId}{n:Nat}{y v:Operand}{y' v':bZ}(ho:o.op=.store t y v)(hc:bV φ y y'=ar)(hc2:bV φ v v'=ar)(ht:aly P t n=ar) (hd:∀i,o.dst=ae i->i<a.tmps.size) (he:bt cf io o.dst st (.rq n y' v')=ae st') (hn:∀E' v w',lf φ w0 L E' st' (a.put o.dst v) w'->next (a.put o.dst v) w'):o.wp P a w next Q:=by
 have hy:=dz h hc;have hv:=dz h hc2;simp only[bt]at he;split at he
 ·rename_i hvl;split at he
  ·rename_i q i c hyv;rw[hyv]at hy;obtain⟨R,hR,he⟩:=ak.1 he;obtain⟨b,o0,hρ,hye⟩:=hy.1.Dl.R9 hR;(have run:∀{m rz:Nat},(a.eval v).cells.size=n->(∀u∈(a.eval v).cells.toList,u.oneCell'=ar)->fA rz w b m->o0+i*R.z+c+n<=m->(execOp a.eval o).run P w=.ok .skip (w.setCells b (o0+i*R.z+c) (a.eval v).cells.toList):=by intro m rz h1 h2 h3 h4;simp only[execOp,ho,Instr.storeAt,Ta,hye,dp,jb,bP,SB ht h1 h2 (h3.le h4)]);split at he
   ·rename_i e hb hxs _;split at he
    ·rename_i hcond;obtain⟨hlt,hce,hc1000,hsol⟩:=hcond;obtain⟨⟨cs,st1⟩,ha,he⟩:=au.1 he;subst he;obtain⟨Rb,Rz,Rxs⟩:=R;simp only at hb hxs run hR ha hn;subst hb;subst hxs;(have hsz:(a.eval v).cells.size=n:=by have:=(OY (a:=a) hv.1 hv.2 hsol).1;simp at this;omega);have hG:=h.tocI.avQ hv.1 hv.2 gs;have hro:=hG.roots q _ hR;(have hnag:∀y∈e.cells,∀l,y≠ .agg l:=by cases hro with|box b o z _ vs hρ hz hlt hl hh hv hrm=>intro y hy l;obtain⟨j,hj⟩:=ff.1 hy;(have hjl:j<vs.length:=by(rw[hl];rcases bH j e.cells.length with h'|h');(·exact h');·simp[bB h']at hj);exact(hh j vs[j] y (by simp) hj).agJ l);have hbc:=ah3 hnag hce;(have hzl:Rz=e.cells.length:=by cases hro with|box b o z x vs hρ hz hlt hl hh hv hrm=>exact hz.symm);(have hblen:(blank e c n).cells.length=e.cells.length:=by rw[hbc];simp;omega);have hB:cI φ w0 L E ((st.aV gs (v'.v st)).aD q (ae ⟨ar,Rz,[blank e c n]⟩)) (evG (λi=>a.eval (.tmp i)) gs (a.eval v)) w:=by refine hG.aq5 (b:=b) (o:=o0) hR hρ ⟨rfl,rfl,rfl⟩ ?_;cases hro with|box b1 o1 z x vs hρ1 hz hlt hl hh hv1 hrm=>refine .box b1 o1 Rz (blank e c n) vs hρ1 (by rw[hblen];exact hz) hlt (by rw[hblen];exact hl) (λj u x hu hx=> ?_) hv1 hrm;rw[hbc,Ul]at hx;(have hj:j<e.cells.length:=by(rw[<-hl];rcases bH j vs.length with h'|h');(·exact h');·simp[bB h']at hu);(have old:∀{x},e.cells[j]? =ae x->fg φ E ((st.aV gs (v'.v st)).aD q (ae ⟨ar,Rz,[blank e c n]⟩)).r w q j u x:=λ{x} hx=>by cases hh j u x hu hx with|data _ h ha=>exact .data _ _ h ha|any h=>exact .any _ h|view off n hc h hv=>(have hne:sub q j≠q:=by have:=Pe q j;omega);exact .view _ _ _ hc (h.VA λR hR=>⟨by simpa[St.aD,hne]using hR,rfl⟩) hv);have hone:=(hh j u e.cells[j] hu (by simp)).one;simp only[cQ,DZ]at hx;rw[S6 (by omega)]at hx;split at hx;(·rename_i h1;rw[oB,aJ h1]at hx;exact old hx);·split at hx;(·rw[ama]at hx;split at hx;(·cases hx;exact .any _ hone);·cases hx);·rw[Je,show c+n+(j-(c+n))=j from by omega]at hx;exact old hx
     obtain⟨E1,h2,hst,hl,hall⟩:=hB.fh ha (by omega) (λc' a1 a2 p' R' hp hb x hx y hy=>by
      cases hr:iY (sub q c') y with
      |false=>rfl
      |true=>
       obtain⟨c2,hc2,e2,hx2⟩:=hB.Jl hp hb hx hy hr
       obtain⟨e3,e4⟩:=Me (by omega) hc2 e2
       subst e3;subst e4
       simp[St.aD]at hp;subst hp
       rw[aX]at hx;subst hx
       rw[hbc,Ul]at hx2
       simp only[cQ,DZ]at hx2
       rw[S6 (by omega),aO (by omega),aJ (by omega),ama,aJ (by omega)]at hx2
       cases hx2;cases hr)
     (have hqS:¬∃c',c+0<=c'/\c'<c+0+n/\q=sub q c':=λ⟨c',_,_,e⟩=>by have:=Pe q c';omega);have hq1:st1.r q=ae ⟨ar,Rz,[blank e c n]⟩:=hst.b q _ hqS (by simp[St.aD]) rfl;have hρ1:E1.ρ q=ae (b,o0):=(hst.ρ q hqS).trans hρ;(have hone:∀u∈(a.eval v).cells.toList,u.oneCell'=ar:=λu hu=>by obtain⟨j,hj⟩:=ff.1 hu;(have hjl:j<cs.length:=by rw[hl,<-hsz];(rcases bH j (a.eval v).cells.size with h'|h');(·exact h');·simp[h']at hj);obtain⟨u',hu',hcl⟩:=hall j cs[j] (by simp);simp only[evG,aC,c8]at hu';(have:u'=u:=by(have h5:(a.eval v).cells.toList[j]? =(a.eval v).cells[j]? :=by simp);rw[h5,hu']at hj;exact cq hj);subst this;exact Value.one_cell hcl.one);have h3:=h2.amq;have hro1:=h3.roots q _ hq1;unfold zq
     cases hro1 with
     |box b1 o1 z x vs hρ2 hz hlt hl2 hh hv1 hrm=>
      rw[hρ1]at hρ2;cases hρ2;(have hi0:o0+0*Rz+c=o0+c:=by omega);rw[run hsz hone hrm (by omega),auc,hi0];(have hcc:(eX e (e.cells.take c++cs++e.cells.drop (c+n))).cells=e.cells.take c++cs++e.cells.drop (c+n):=by refine jW (by simp;omega) λy hy l=> ?_;(rcases aU.1 hy with hy|hy);(·(rcases aU.1 hy with hy|hy);(·exact hnag y (fo hy) l);·obtain⟨j,hj⟩:=ff.1 hy;obtain⟨u',hu',hcl⟩:=hall j y hj;exact hcl.agJ l);·exact hnag y (cA hy) l);(have hnl:(a.eval v).cells.toList.length=n:=by simpa using hsz);have hvl2:vs.length=e.cells.length:=by rw[hl2,hblen]
      have h4:=h3.afW (b:=b) (o:=o0) (o':=o0+c) (R':=⟨ar,Rz,[eX e (e.cells.take c++cs++e.cells.drop (c+n))]⟩) (news:=(a.eval v).cells.toList) hq1 hρ1 ⟨rfl,rfl,rfl⟩ (λW=>by
       have hwr:=cH.write (news:=(a.eval v).cells.toList) (c:=c) hv1 (by rw[hvl2,<-hzl];exact hrm) (by rw[hnl,hvl2];exact hce)
       refine .box b o0 Rz _ _ hρ1 (by rw[hcc];simp;omega) hlt (by rw[hcc];simp;omega) (λj u x hu hx=> ?_) hwr (W.room _ hrm)
       rw[hcc,Ul]at hx
       rw[Ul]at hu
       simp only[cQ]at hx hu
       rw[S6 (by omega)]at hx hu
       rw[hnl]at hu
       rw[hl]at hx
       have old:∀{x},vs[j]? =ae u->e.cells[j]? =ae x->(j<c\/c+n<=j)->fg φ E1 st1.r w q j u x:=λ{x} h5 h6 h7=>by
        refine hh j u x h5 ?_
        rw[hbc,Ul]
        simp only[cQ,DZ]
        rw[S6 (by omega)]
        rcases h7 with h7|h7
        ·rw[aJ h7,oB,aJ h7];exact h6
        ·rw[aO (by omega),aO (by omega),Je,show c+n+(j-(c+n))=j from by omega];exact h6
       split at hx
       ·rename_i h5
        rw[aJ h5]at hu
        rw[oB,aJ h5]at hx hu
        exact(old hu hx (.inl h5)).write W
       ·rename_i h5
        rw[aO h5]at hu
        split at hx
        ·rename_i h6
         rw[aJ h6]at hu
         obtain⟨u',hu',hcl⟩:=hall (j-c) x hx
         simp only[evG,aC,c8]at hu'
         have:u'=u:=by
          have h5:(a.eval v).cells.toList[j-c]? =(a.eval v).cells[j-c]? :=by simp
          rw[h5,hu']at hu;exact cq hu
         subst this
         rw[show c+0+(j-c)=j from by omega]at hcl
         exact hcl.write W
        ·rename_i h6
         rw[aO h6]at hu
         rw[Je,show c+n+(j-(c+n))=j from by omega]at hx hu
         exact(old hu hx (.inr (by omega))).write W)
      have h5:lf φ w0 L E1 ((st1.aV gs .any).aD q (ae ⟨ar,Rz,[eX e (e.cells.take c++cs++e.cells.drop (c+n))]⟩)) a _:=⟨h4,h.yI⟩;exact hn E1 _ _ (h5.aV hd (.one _ _ (.any _)) ((DX.scalar yH).tok h5))
    ·cases he
   ·rename_i i _ _ _ hb _;obtain⟨⟨v0,st1⟩,hp,he⟩:=ak.1 he;simp only at he;(split at he<;>(try(cases he;done)));rename_i hvn0;obtain⟨R1,hR1,he⟩:=ak.1 he;obtain⟨e,hei,he⟩:=ak.1 he;obtain⟨cs,hcs,he⟩:=au.1 he;subst he;obtain⟨E1,h1,hρe,hst,hrep,hpc⟩:=h.tocI.QE hv.1 hv.2 hp;(have hRR:R1=R:=by(rcases hst.r q id with h2|h2);(·rw[h2,hR]at hR1;exact(cq hR1).symm);·rw[h2]at hR1;cases hR1);subst hRR;(have hρ1:E1.ρ q=ae (b,o0):=by rw[hρe];exact hρ);have hro:=h1.roots q _ hR1;unfold setCells at hcs;split at hcs
    ·rename_i hle;simp only[aq]at hcs;subst hcs;unfold zq
     cases hro with
     |empty z h=>simp at hei
     |box=>cases hb
     |sl b1 o1 z xs vs hρ2 hz hh hv1 hrm=>
      rw[hρ1]at hρ2;cases hρ2;simp only at hei run hn;have hcl:=hrep.cells;have hez:e.cells.length=z:=hz e (bw hei);(have hvn:v0.cells.length=(a.eval v).cells.size:=by have:=hcl.length;simpa using this.symm);(have hi:i<xs.length:=by(rcases bH i xs.length with h|h);(·exact h);·simp[bB h]at hei);(have hiz:i*z+z<=xs.length*z:=by have:=cu z (show i+1<=xs.length from hi);rw[dW]at this;exact this);have hfl:=js hz;(have hvs:vs.length=xs.length*z:=by rw[<-hfl];exact hh.length);(have hone:∀u∈(a.eval v).cells.toList,u.oneCell'=ar:=λu hu=>by obtain⟨j,hj⟩:=ff.1 hu;obtain⟨x,hx,hr⟩:=hcl.aqs hj;exact Value.one_cell (hr.LG (Fe (aG.1 hpc x (bw hx)))));(have hsz:(a.eval v).cells.size=n:=by rw[<-hvn];exact hvn0);(have hnl:(a.eval v).cells.toList.length=n:=by simpa using hsz);rw[run hsz hone hrm (by omega),auc];(have hcc:(eX e (e.cells.take c++v0.cells++e.cells.drop (c+v0.cells.length))).cells=e.cells.take c++v0.cells++e.cells.drop (c+v0.cells.length):=by by_cases hx:∃l,e=.agg l;(·obtain⟨l,rfl⟩:=hx;rfl);·have hx':∀l,e≠ .agg l:=λl h=>hx ⟨l,h⟩;refine jW (by simp;omega) λy hy l=> ?_;have hec:=A.DO hx';(rcases aU.1 hy with hy|hy);(·(rcases aU.1 hy with hy|hy);(·have:=fo hy;rw[hec,aX]at this;subst this;exact hx' l);·exact Fe (aG.1 hpc y hy) l);·have:=cA hy;rw[hec,aX]at this;subst this;exact hx' l);have hfc:=anW hz (e':=eX e (e.cells.take c++v0.cells++e.cells.drop (c+v0.cells.length))) hei (by omega) hcc
      have h4:=h1.afW (b:=b) (o:=o0) (o':=o0+i*z+c) (R':=⟨aw,z,xs.set i (eX e (e.cells.take c++v0.cells++e.cells.drop (c+v0.cells.length)))⟩) (news:=(a.eval v).cells.toList) hR1 hρ1 ⟨rfl,rfl,by simp⟩ (λW=>by
       have hwr:=cH.write (news:=(a.eval v).cells.toList) (c:=i*z+c) hv1 (by rw[hvs];exact hrm) (by rw[hnl,hvs];omega)
       rw[<-gS]at hwr
       refine .sl b o0 z _ _ hρ1 (λx hx=> ?_) ?_ hwr (by simpa using W.room _ hrm)
       ·rcases anq hx with h'|rfl
        ·exact hz x h'
        ·rw[hcc];simp;omega
       ·rw[hfc,hnl]
        refine W.W6 (((hh.take _).append hcl).append ?_)
        rw[show i*z+c+v0.cells.length=i*z+c+n from by omega]
        exact hh.drop _)
      have h5:lf φ w0 L E1 (st1.aD q (ae ⟨aw,z,xs.set i (eX e (e.cells.take c++v0.cells++e.cells.drop (c+v0.cells.length)))⟩)) a _:=⟨h4,h.yI⟩;exact hn E1 _ _ (h5.aV hd (.one _ _ (.any _)) ((DX.scalar yH).tok h5))
    ·cases hcs
   ·cases he
  ·cases he
 ·cases he
end
end
end Go.Ab
namespace Go.Ab
section
variable {P:Program} {φ:Nat->Nat} {w0:World} {L:kU} {E E':Env} {st st':St} {ev ev':Nat->Value} {w w':World} {r r':Nat->Option dF} {a:Act}
def abF{x:A}(h:aiP x=ar)(l:List A):x≠ .agg l:=by rintro rfl;simp[aiP]at h
def avV{z:Nat}{tx e':TypeId}(hk:P.underlying tx=ae (.slice e')){u:Value}{ys:List A}{ad:Option Addr}{cap:Nat}(hu:u=.slice ad ys.length cap) (hc:ys=[]\/∃b o vs,ad=ae ⟨b,o,ai⟩/\cW φ w E.ok vs (ys.flatMap A.cells)/\cH w b o vs/\∀y∈ys,y.cells.length=z) (hf:ys.all Mv=ar): ∃news,Src P z tx u ys.length news w/\cW φ w E.ok news (ys.flatMap A.cells)/\∀y∈ys,y.cells.length=z:=by
 subst hu;rcases hc with rfl|⟨b,o,vs,rfl,h1,h2,h3⟩
 ·refine⟨[],?_,.nil,λy hy=>by cases hy⟩;cases ad with|none=>exact Src.ofNil w hk cap|some ad=>exact asr w hk ad 0 cap [] (by simp) (λj u h=>by simp at h) (λu h=>by cases h)
 ·have hl:=h1.length;rw[js h3]at hl;refine⟨vs,asr w hk ⟨b,o,ai⟩ ys.length cap vs hl (λj u hj=>by rw[World.cell?_add];exact h2 j u hj) (λu hu=> ?_),h1,h3⟩;obtain⟨j,hj⟩:=ff.1 hu;obtain⟨x,hx,hr⟩:=h1.aqs hj;obtain⟨y,hy,hxy⟩:=jq.1 (bw hx);have:=aG.1 hf y hy;exact Value.one_cell (hr.LG (abF (aG.1 this x hxy)))
def Sa{k z:Nat}{ad:Option Addr}(k' b:Nat):¬Tk (.slice ad 0 0) (.tok k z []) k' b:=by intro h;cases h with|one _ _ _ _ h=>cases h;contradiction
def ap4(h0:lf φ w0 L E st a w){v u:Value}{z:Nat}{xs ys:List A}{ob:Option Nat}(hO:gD φ w E.ok v z xs ob)(hF:∀b,ob=ae b->iK w0 L E st (λi=>a.eval (.tmp i)) w b) {t tx ty e e':TypeId} (ht:P.underlying t=ae (.slice e)) (hk:P.underlying tx=ae (.slice e')) {i:TypeInfo} (hi:P.info? e=ae i) (hz:i.size=z) {zv:Value} (hzv:i.zero=ae zv) (hzs:zv.cells.size=z) (hb:i.bytes<=128) (hlim:xs.length+ys.length<lim) {ad:Option Addr} {cap:Nat} (hu:u=.slice ad ys.length cap) (hc:ys=[]\/∃b o vs,ad=ae ⟨b,o,ai⟩/\cW φ w E.ok vs (ys.flatMap A.cells)/\cH w b o vs/\∀y∈ys,y.cells.length=z) (hf:ys.all Mv=ar) (k:Nat): ∃v' w',(fU #[t,tx] ty #[v,u]).run P w=.ok v' w'/\lf φ w0 L E st a w'/\RV φ E st.r w' v' (.tok k z (xs++ys))/\Nv w0 L E st a w' v' (.tok k z (xs++ys)):=by
 obtain⟨news,hs,hnr,hyz⟩:=avV (z:=z) hk hu hc hf;have hlim':xs.length+ys.length<1099511627776:=by simpa[lim]using hlim
 have hfit:∀c,c<xs.length+ys.length->ahN (xs.length+ys.length) c*i.bytes<=281474976710656:=λc hc=> growslice_fits hc (by have:=VG (show xs.length+ys.length<=1099511627776 by omega) hb;omega);have hnl:news.length=ys.length*z:=by have:=hnr.length;rwa[js hyz]at this
 have grow:∀{base:Option Addr} {c:Nat} {olds:List Value},v=.slice base xs.length c->c<xs.length+ys.length->(pC i.size xs.length (.slice base xs.length c)).run P w.drew=.ok olds.toArray w.drew-> cW φ w E.ok olds (xs.flatMap A.cells)->(∀y∈xs,y.cells.length=z)-> ∃v' w',(fU #[t,tx] ty #[v,u]).run P w=.ok v' w'/\lf φ w0 L E st a w'/\RV φ E st.r w' v' (.tok k z (xs++ys))/\Nv w0 L E st a w' v' (.tok k z (xs++ys)):=by
  intro base c olds hv hlt hold hor hxz;subst hv;subst hz;have hrun:=run_append_grow_src (P:=P) w t tx ty e i zv ht hi hzv base xs.length c olds hold u ys.length news hs hlt (by omega) (hfit c hlt);have hol:olds.length=xs.length*i.size:=by have:=hor.length;rwa[js hxz]at this
  have hge:=grownCap_ge w (xs.length+ys.length) c e;have hh:(w.drew.alloc (.cells ((olds++news).toArray++bQ zv.cells (grownCap w (xs.length+ys.length) c e-(xs.length+ys.length))) e)).heap= w.heap.push (.cells ((olds++news).toArray++bQ zv.cells (grownCap w (xs.length+ys.length) c e-(xs.length+ys.length))) e):=rfl;have hcp:=pG hh;have htl:((olds++news).toArray++bQ zv.cells (grownCap w (xs.length+ys.length) c e-(xs.length+ys.length))).toList=(olds++news)++(bQ zv.cells (grownCap w (xs.length+ys.length) c e-(xs.length+ys.length))).toList:=by simp
  rw[htl]at hcp
  have hnt:=agL (k:=k) (z:=i.size) (cap:=grownCap w (xs.length+ys.length) c e) (xs:=xs++ys) h0 hh ⟨rfl,rfl⟩ (λy hy=>(aU.1 hy).elim (hxz y) (hyz y))
   (by rw[Jd];exact hor.append hnr) hcp.left (by simpa using hge) (by
     simp only[Mo,Nu,aQ,size_zeroCells,hzs,hol,hnl]
     rw[<-Ga,<-Ga]
     exact cu _ (by omega))
  rw[aQ]at hnt;exact⟨_,_,hrun,h0.ext (Ea hh ⟨rfl,rfl⟩) (.refl E w _),hnt.1,hnt.2⟩
 cases hO with|empty ad0 z=>(by_cases hy0:ys=[];(·subst hy0;have hn0:news=[]:=gy (by simpa using hnl);subst hn0;refine⟨.slice ad0 0 0,w,?_,h0,.one _ _ (.DI _ _ _),⟨λk b h=>(Sa _ _ h).elim,λi k k' b b' h=>(Sa _ _ h).elim,λk k' b b' h=>(Sa _ _ h).elim⟩⟩;have hsc:∀A:Addr,(storeCells A ([]:List Value)).run P w=.ok () w:=λA=>rfl;(have hcs:(pC i.size 0 u).run P w=.ok #[] w:=by rw[hz];exact hs.cells);have hln:=hs.len;rcases hs.kind with ⟨e2,hk2⟩|hk2<;>cases ad0<;> simp[fU,run_underlying ht,run_underlying hk2,sizeOf,typeInfo,hi,hln,hcs,hsc]);·refine grow rfl (by have:=Z7.2 hy0;simp;omega) ?_ .nil (λy hy=>by cases hy);cases ad0 with|none=>exact run_firstCells_none w.drew i.size 0 0 0|some ad0=>exact run_firstCells_some w.drew i.size 0 ad0 0 0 [] (by simp) (λj u h=>by simp at h))|mk b o c z xs vs hcap hc0 hxz hxr hxv hrm=>(have hvl:vs.length=xs.length*z:=by have:=hxr.length;rwa[js hxz]at this);by_cases hroom:xs.length+ys.length<=c;(·(have hle:xs.length*z+ys.length*z<=c*z:=by rw[<-Ga];exact cu _ hroom);subst hz;have hpos:∀j,j<news.length->(w.cell? ⟨b,o+xs.length*i.size+j,ai⟩).isSome=ar/\w.frozen? ⟨b,o+xs.length*i.size+j,ai⟩=aw:=λj hj=>hrm.cell (by omega);have hrun:=run_append_room_src (P:=P) w t tx ty e i ht hi b o xs.length c u ys.length news hs hroom (λj hj=>(hpos j hj).1) (λj hj=>(hpos j hj).2);have hFb:=hF b rfl;have W:Wr w0 L E st.r st.r w (w.setCells b (o+xs.length*i.size) news) b:=Wr.cells hFb.z.1 hFb.z.2.1 λq R' h=>⟨R',h,rfl,rfl,rfl⟩;have h1:=h0.tocI.write W (λi k ht=>hFb.t i k b ht rfl) λq R' hq=>.inl ⟨hq,λo' hρ=>hFb.r q b o' (by rw[hq];rfl) hρ rfl⟩;have hsz:=W.size;(have hcells:cH (w.setCells b (o+xs.length*i.size) news) b o (vs++news):=by refine cH.append (λj v hj=> ?_) (λj v hj=> ?_);(·(have hjl:j<vs.length:=by(rcases bH j vs.length with h|h);(·exact h);·simp[bB h]at hj);rw[KD b news _ w ⟨b,o+j,ai⟩ (λ_ _=>.inl (by simp;omega))];exact hxv j v hj);·(have hjl:j<news.length:=by(rcases bH j news.length with h|h);(·exact h);·simp[bB h]at hj);rw[hvl,aj9 b news (o+xs.length*i.size) w (λj hj=>(hpos j hj).1) j hjl,<-hj];simp);have hrv:=jr.tok (φ:=φ) (E:=E) (r:=st.r) (w:=w.setCells b (o+xs.length*i.size) news) b o c k i.size (xs++ys) (vs++news) (by simpa using hroom) hc0 (λy hy=>(aU.1 hy).elim (hxz y) (hyz y)) (by rw[Jd];exact W.W6 (hxr.append hnr)) hcells (W.room _ hrm);rw[aQ]at hrv;(have htb:∀k' b',Tk (.slice (ae ⟨b,o,ai⟩) (xs.length+ys.length) c) (.tok k i.size (xs++ys)) k' b'->b'=b/\k'=k:=by intro k' b' h;cases h with|one _ _ _ _ h=>cases h;exact⟨rfl,rfl⟩);refine⟨_,_,hrun,⟨h1,h0.yI⟩,.one _ _ hrv,⟨λk' b' h=> ?_,λi' k1 k2 b1 b2 h h' _=> ?_,λk1 k2 b1 b2 h h' hne=> ?_⟩⟩;(·obtain⟨rfl,_⟩:=htb _ _ h;exact⟨⟨hFb.z.1,hFb.z.2.1,by rw[hsz];exact hFb.z.2.2⟩,hFb.r⟩);(·obtain⟨rfl,_⟩:=htb _ _ h;exactλe=>hFb.t i' k2 b2 h' e.symm);·exact absurd ((htb _ _ h).2.trans (htb _ _ h').2.symm) hne);·refine grow rfl (by omega) ?_ hxr hxz;exact run_firstCells_some w.drew i.size xs.length ⟨b,o,ai⟩ xs.length c vs (by rw[hvl,hz]) (λj u hj=>by rw[World.cell?_add];exact hxv j u hj)
section
variable {o:Oper} {next:Act->World->Prop} {Q:Exit->Act->World->Prop} {cf:CF} {io:Nat->List Bool}
def axJ(h:lf φ w0 L E st a w){s x:Operand}{s' x':bZ}{t u e e2:TypeId}{z bytes:Nat}(ho:o.op=.call ⟨.builtin .append,#[s,x],#[t,u]⟩)(hs:bV φ s s'=ar)(hx:bV φ x x'=ar) (ht:P.underlying t=ae (.slice e)) (hk:P.underlying u=ae (.slice e2)) {i:TypeInfo} (hi:P.info? e=ae i) (hz:i.size=z) (hby:i.bytes=bytes) {zv:Value} (hzv:i.zero=ae zv) (hzs:zv.cells.size=z) (hd:∀i,o.dst=ae i->i<a.tmps.size) (he:bt cf io o.dst st (.app z bytes s' x')=ae st') (hn:∀E' v w',lf φ w0 L E' st' (a.put o.dst v) w'->next (a.put o.dst v) w'):o.wp P a w next Q:=by
 have hsv:=dz h hs;have hxv:=dz h hx;simp only[bt]at he;split at he;·cases he
 ·rename_i d hdst;obtain⟨⟨z2,ys⟩,hel,he⟩:=ak.1 he;simp only at he;obtain⟨ad,cap,hu,hcap,hcase⟩:=aie h.roots hxv.1 hel;have fin:∀{st0:St} {xs:List A} {ob:Option Nat},cI φ w0 L E st0 (λi=>a.eval (.tmp i)) w->gD φ w E.ok (a.eval s) z xs ob->(∀b,ob=ae b->iK w0 L E st0 (λi=>a.eval (.tmp i)) w b)-> z2=z->xs.length+ys.length<lim->bytes<=128->ys.all Mv=ar->st'=st0.put (ae d) (.tok (8*d) z (xs++ys))->o.wp P a w next Q:=by intro st0 xs ob h0 hO hF hz2 hl hb hf hst;subst hz2;obtain⟨v',w',hrun,h1,h2,h3⟩:=ap4 (ty:=o.type) ⟨h0,h.yI⟩ hO hF ht hk hi hz hzv hzs (by rw[hby];exact hb) hl hu hcase hf (8*d);(have hex:(execOp a.eval o).run P w=.ok (.value v') w':=by simp[execOp,ho,resolve,invoke,builtin,hrun]);unfold zq;rw[hex,oi];refine hn E v' w' ?_;rw[hst,hdst];exact h1.put (hd d hdst) h2 h3
  split at he;·rename_i k z1 xs e1;split at he;(·rename_i hcond;obtain⟨hz1,hz2,hl,hb,hf⟩:=hcond;simp only[aq]at he;rw[e1]at hsv;subst hz1;have hkt:=h.tocI.cX k;obtain⟨hsv1,hsv2⟩:=hsv;generalize hev:a.eval s=sv at hsv1 hsv2;cases hsv1.PL with|data _ _ h=>cases h|DI ad0=>exact fin hkt (by rw[hev];exact .empty ad0 z1) (λb e=>by cases e) hz2 hl hb hf he.symm|tok b o0 c k z1 xs vs hcc h0 hzz hh hv' hrm=>obtain⟨i0,hi0⟩:=hsv2 k b (.one _ _ _ _ (.mk ⟨b,o0,ai⟩ _ _ _ _ _ h0));have hf0:=h.tz i0 k b hi0;refine fin hkt (by rw[hev];exact .mk b o0 c z1 xs vs hcc h0 hzz hh hv' hrm) (λb' e=> ?_) hz2 hl hb hf he.symm;cases e;refine⟨hf0.1,hf0.2,λi' k' b' a1=> ?_⟩;have h3:=Tk.cJ (Eb k) a1;exact h.td i' i0 k' k b' b h3.1 hi0 h3.2);·cases he
  ·rename_i z1 e1;split at he;(·rename_i hcond;obtain⟨hz1,hz2,hl,hb,hf⟩:=hcond;simp only[aq]at he;rw[e1]at hsv;exact fin h.tocI (xs:=[]) (by rw[hsv.1.JY];exact .empty ai z) (λb e=>by cases e) hz2 (by simpa using hl) hb hf he.symm);·cases he
  ·rename_i q off n e1;obtain⟨R,hR,he⟩:=ak.1 he;split at he
   ·rename_i hcond;obtain⟨hz1,hz2,hl,hb,hf⟩:=hcond;simp only[aq]at he;rw[e1]at hsv;subst hz1;have hkq:=(h.tocI.kill q).CD q;obtain⟨hsv1,hsv2⟩:=hsv;generalize hev:a.eval s=sv at hsv1 hsv2
    cases hsv1.zm with
    |data _ _ h=>cases h
    |lA _ _ _ _ h1=>rw[h1]at hR;cases hR
    |kP ad0 q off R' h1 hb' hn'=>
     rw[xf]at he;exact fin hkq (xs:=[]) (by rw[hev];exact .empty ad0 _) (λb e=>by cases e) hz2 (by simpa using hl) hb hf he.symm
    |view b o0 c q off n R' h1 hb' hn' hcc h0 hρ hrm=>
     rw[h1]at hR;cases hR;(have hlen:((R.xs.drop off).take n).length=n:=by simp;omega);have hf0:=h.rz q b o0 (by rw[h1];rfl) hρ;have hfr:iK w0 L E ((st.kill q).aD q ai) (λi=>a.eval (.tmp i)) w b:=by refine⟨hf0,λq' b' o' a1 a2=> ?_,λi k b' a1=> ?_⟩;(·simp only[St.aD]at a1;split at a1;(·cases a1);·rename_i hne;exact h.inj q' q b' o' b o0 a1 (by rw[h1];rfl) a2 hρ hne);·have h3:=Tk.cJ (wh q) a1;exactλe=>(h.tz i k b' h3.1).2 q b o0 (by rw[h1];rfl) hρ e.symm
     have hO:gD φ w E.ok (a.eval s) R.z ((R.xs.drop off).take n) (ae b):=by
      cases h.roots q R h1 with
      |empty z hh=>
       rw[hh]at hρ;cases hρ
      |box=>cases hb'
      |sl b1 o1 z xs vs hρ1 hzz hh hv' hrm'=>
       rw[hρ]at hρ1;cases hρ1
       have:=gD.mk (φ:=φ) (w:=w) (K:=E.ok) b (o0+off*z) c z ((xs.drop off).take n) ((vs.drop (off*z)).take (n*z)) (by simp only at hlen;rw[hlen];exact hcc) h0
        (λy hy=>hzz y (cA (fo hy))) (by
          rw[tP (λx hx=>hzz x (cA hx)),nh hzz]
          exact(hh.drop _).take _) ((hv'.drop _).take _) (by rw[Ga,<-gS]at hrm;exact hrm)
       simp only at hlen;rw[hlen]at this;rw[hev];exact this
     exact fin hkq hO (λb' e=>by cases e;exact hfr) hz2 (by rw[hlen];exact hl) hb hf he.symm
   ·cases he
  ·cases he
end
end
end Go.Ab
namespace Go.Ab
section
variable {P:Program} {φ:Nat->Nat} {w0:World} {L:kU} {E E':Env} {st st':St} {ev ev':Nat->Value} {w w':World} {r r':Nat->Option dF} {a:Act}
variable {o:Oper} {next:Act->World->Prop} {Q:Exit->Act->World->Prop} {cf:CF} {io:Nat->List Bool}
def ayG(h:lf φ w0 L E st a w){t:TypeId}{z:Nat}{x i:Operand}{x' i':bZ}(ho:o.op=.indexAddr t x i)(hx:bV φ x x'=ar)(hi:bV φ i i'=ar)(hc:ah7 P t z=ar) (hd:∀i,o.dst=ae i->i<a.tmps.size) (he:bt cf io o.dst st (.ia z x' i')=ae st') (hn:∀E' v w',lf φ w0 L E' st' (a.put o.dst v) w'->next (a.put o.dst v) w'):o.wp P a w next Q:=by
 have vx:=dz h hx;have vi:=(dz h hi).1;simp only[bt]at he;split at he
 ·rename_i kk n k z' xs e1 e2;obtain⟨⟨v0,st1⟩,hp,he⟩:=ak.1 he;simp only at he;split at he;·rename_i z0 xs0;split at he;(·rename_i hcond;obtain⟨h0,hz⟩:=hcond;obtain⟨y,hy,rfl⟩:=au.1 he;rw[e1]at vi;obtain⟨E1,h1,hρ,hst,hrep,_⟩:=h.tocI.QE vx.1 vx.2 hp;have hS:lf φ w0 L E1 st1 a w:=⟨h1,h.yI⟩;have hlt:n.toNat<xs0.length:=(iL.1 hy).1;generalize hev:a.eval x=sv at hrep;cases hrep with|No ad cap z=>simp at hy|sl b o1 cap z2 _ vs hb hzz hcap hrs hcs=>subst hz;(have hrun:(execOp a.eval o).run P w=.ok (.value (.pointer (ae ⟨b,o1+n.toNat*z0,ai⟩))) w:=by simp only[execOp,ho,hev,vi.lL,dp,run_indexAt_slice hc h0 (show n<(xs0.length:Int)by omega),bP,jb]);have hpt:=ahf (φ:=φ) (E:=E1) (st:=st1) (a:=a) (w:=w) (r:=st1.r) (b:=b) (o:=o1+n.toNat*z0) (c:=0) (v:=.pointer (ae ⟨b,o1+n.toNat*z0,ai⟩)) hb (hrs.elem hzz hy) ((hcs.drop _).take _) (by simp);unfold zq;rw[hrun,oi];exact hn E1 _ w (hS.aV hd hpt.1 (hpt.2.tok hS)));·cases he
  ·cases he
 ·cases he
def aor{z:Nat}:∀(l:List (Nat×Operand)) (m:List (Nat×bZ)) (cells:Array Value) (xs xs':List A) (E:Env) (st st':St),lf φ w0 L E st a w->ng φ l m=ar->(∀x∈xs,x.cells.length=z)-> cW φ w E.ok cells.toList (xs.flatMap A.cells)->bt.xR st z xs m=ae (xs',st')-> ∃cells' E',VF (λi=>ae (i*z,z)) cells (l.map λp=>(p.1,a.eval p.2))=ae cells'/\lf φ w0 L E' st' a w/\cW φ w E'.ok cells'.toList (xs'.flatMap A.cells)/\(∀x∈xs',x.cells.length=z)/\xs'.length=xs.length:=by
 intro l
 induction l with
 |nil=>
  intro m cells xs xs' E st st' h hc hz hv hf;cases m with|nil=>simp[bt.xR]at hf;obtain⟨rfl,rfl⟩:=hf;exact⟨cells,E,rfl,h,hv,hz,rfl⟩|cons=>simp[ng]at hc
 |cons p l ih=>
  intro m cells xs xs' E st st' h hc hz hv hf;obtain⟨i,x⟩:=p
  cases m with
  |nil=>simp[ng]at hc
  |cons q m=>
   obtain⟨j,y⟩:=q;simp only[ng,aj,b9]at hc;obtain⟨⟨rfl,hx⟩,hc⟩:=hc;simp only[bt.xR]at hf;obtain⟨⟨v,st1⟩,hd,hf⟩:=ak.1 hf;simp only at hf;split at hf
   ·rename_i hcond;obtain⟨hvz,hlt⟩:=hcond;have hop:=dz h hx;obtain⟨E1,h1,hρ,hst,hrep,_⟩:=h.tocI.QE hop.1 hop.2 hd;have hcells:=hrep.cells;(have hsz:(a.eval x).cells.size=z:=by have:=hcells.length;simp at this;omega);have hfl:=js hz;(have hcl:cells.size=xs.length*z:=by have:=hv.length;rw[hfl]at this;simpa using this);(have hle:i*z+z<=xs.length*z:=by have:(i+1)*z<=xs.length*z:=cu z hlt;rw[dW]at this;exact this);obtain⟨cells',hc1,hc2⟩:=II (place:=λi=>ae (i*z,z)) (cells:=cells) (i:=i) (v:=a.eval x) (rest:=l.map λp=>(p.1,a.eval p.2)) (by rw[hsz]) (by rw[hsz,hcl];exact hle);simp only[aP];rw[hc2];(have hz':∀y∈xs.set i v,y.cells.length=z:=by intro y hy;(rcases anq hy with h'|rfl);(·exact hz y h');·exact hvz);have hv':=hv.mono (w':=w) (ok':=E1.ok) (λ_ _=>rfl) hst.ok
    obtain⟨c2,E2,a1,a2,a3,a4,a5⟩:=ih m cells' (xs.set i v) xs' E1 st1 st' ⟨h1,h.yI⟩ hc hz' (by
     rw[hc1,hsz,aa0 hz hvz hlt]
     exact((hv'.take _).append hcells).append (hv'.drop _)) hf
    exact⟨c2,E2,a1,a2,a3,a4,by simpa using a5⟩
   ·cases hf
def axM(h:lf φ w0 L E st a w){t e:TypeId}{n z:Nat}{parts:Array (Nat×Operand)}{zero:A}{ps:List (Nat×bZ)}(ho:o.op=.buildSlice t n parts)(ht:P.underlying t=ae (.slice e))(hz:agn P e z zero=ar) (hc:ng φ parts.toList ps=ar) (hd:∀i,o.dst=ae i->i<a.tmps.size) (he:bt cf io o.dst st (.VL z zero n ps)=ae st') (hn:∀E' v w',lf φ w0 L E' st' (a.put o.dst v) w'->next (a.put o.dst v) w'):o.wp P a w next Q:=by
 simp only[bt]at he;split at he
 ·rename_i d hdst;split at he;·rename_i hcond;obtain⟨⟨xs,st1⟩,hf,rfl⟩:=au.1 he;obtain⟨i,v,hi,hsz,hzero,hcs,hvz⟩:=Pv hz;(have hmade:(madeCells v.cells (n*z)).toList=(aZ n v.cells.toList).flatten:=by rw[<-hvz];exact ox _ _);(have h0:cW φ w E.ok (madeCells v.cells (n*z)).toList ((aZ n zero).flatMap A.cells):=by rw[hmade];exact yP (wP hcs) n);obtain⟨cells',E1,h1,hS,h2,h3,h4⟩:=aor parts.toList ps _ _ xs E st st1 h hc (λx hx=>by rw[MV hx];exact hcond.2) h0 hf;(have hxl:xs.length=n:=by simpa using h4);(have hparts:(parts.map λp=>(p.1,a.eval p.2)).toList=parts.toList.map λp=>(p.1,a.eval p.2):=by simp);(have hlim:¬n*z>16777216:=by omega);(have hcl:cells'.size=n*z:=by have:=h2.length;rw[js h3,hxl]at this;simpa using this);(have hrun:(vH t n (parts.map λp=>(p.1,a.eval p.2))).run P w=.ok (.slice (ae ⟨w.heap.size,0,ai⟩) n n) {w with heap:=w.heap.push (.cells cells' e)}:=by(have e1:(sizeOf e).run P w=.ok z w:=by simp[sizeOf,typeInfo,hi,hsz]);(have hzv:(zeroValue e).run P w=.ok v w:=by simp[zeroValue,typeInfo,hi,hzero]);by_cases hn:n*z=0;(·(have hm0:madeCells v.cells (n*z)= #[]:=by rw[hn];simp[madeCells,Yu]);rw[hm0]at h1;(have hm1:((ani (n*z)).map ((#[]:Array Value)[· %(#[]:Array Value).size]!))= #[]:=by rw[hn];simp[Yu]);simp only[vH,dp,run_underlying ht,bP,e1,asq,hn,aC,jb,hparts,show¬(0>2^24)from by decide,aH];simp only[hn]at hm1;simp only[hm1,h1];simp[newRow]);·simp only[vH,dp,run_underlying ht,bP,e1,hlim,asq,aH,hn,hzv,jb,hparts];have hm1:((ani (n*z)).map (v.cells[· %v.cells.size]!))=madeCells v.cells (n*z):=rfl;simp only[hm1,h1];simp[newRow]);(have hex:(execOp a.eval o).run P w=.ok (.value (.slice (ae ⟨w.heap.size,0,ai⟩) n n)) {w with heap:=w.heap.push (.cells cells' e)}:=by simp only[execOp,ho,dp,hrun,bP,jb]);have hh:({w with heap:=w.heap.push (.cells cells' e)}:World).heap=w.heap.push (.cells cells' e):=rfl;have hnt:=agL (k:=8*d) (cap:=n) hS hh ⟨rfl,rfl⟩ h3 h2 (pG hh) (by omega) (by rw[hcl];exact bm _);rw[hxl]at hnt;unfold zq;rw[hex,oi];refine hn E1 _ _ ?_;rw[hdst];exact(hS.ext (Ea hh ⟨rfl,rfl⟩) (.refl E1 w _)).put (hd d hdst) hnt.1 hnt.2
  ·cases he
 ·cases he
end
end Go.Ab
namespace Go.Ab
section
variable {P:Program} {φ:Nat->Nat} {w0:World} {L:kU} {E E':Env} {st st':St} {ev ev':Nat->Value} {w w':World} {r r':Nat->Option dF} {a:Act}
structure Wm(w0:World)(L:kU)(E E':Env)(r r':Nat->Option dF)(w w':World)(B:Nat->Prop):Prop where
 same:∀b,b<w.heap.size->¬B b->w'.heap[b]? =w.heap[b]?
 size:w.heap.size<=w'.heap.size
 env:w'.os=w.os/\w'.output=w.output
 fr:∀b off,b<w.heap.size->w'.frozen? ⟨b,off,ai⟩=w.frozen? ⟨b,off,ai⟩
 room:∀{z:Nat} b n,fA z w b n->fA z w' b n
 ρ:E'.ρ=E.ρ
 ok:∀b,E.ok b->E'.ok b
 new:∀b,E'.ok b->E.ok b\/(B b/\b<w'.heap.size)\/(w.heap.size<=b/\b<w'.heap.size)
 nok:∀b,B b->¬E.ok b
 ao2:∀b,B b->Tv w0 L b
 sh:∀q R',r' q=ae R'->∃R,r q=ae R/\R'.b=R.b/\R'.z=R.z/\R'.xs.length=R.xs.length
section
variable {B:Nat->Prop} (W:Wm w0 L E E' r r' w w' B) (hz:∀b,E.ok b->b<w.heap.size)
include W
def Wm.rep(hz:∀b,E.ok b->b<w.heap.size){v:Value}{x:A}(h:iD φ w E.ok v x):iD φ w' E'.ok v x:=h.mono (λb hk=>W.same b (hz b hk) λe=>W.nok b e hk) W.ok
def Wm.W6(hz:∀b,E.ok b->b<w.heap.size){v:List Value}{x:List A}(h:cW φ w E.ok v x):cW φ w' E'.ok v x:=h.mono (λb hk=>W.same b (hz b hk) λe=>W.nok b e hk) W.ok
def Wm.Az{q:Nat}(hq:(r' q).isSome):(r q).isSome:=by obtain⟨R,hR⟩:=dq.1 hq;obtain⟨R1,h1,_⟩:=W.sh q R hR;rw[h1];rfl
def Wm.abI{q:Nat}(hq:r q=ai):r' q=ai:=by cases e:r' q with|none=>rfl|some R=>have:=W.Az (q:=q) (by rw[e];rfl);rw[hq]at this;cases this
def jr.back(hz:∀b,E.ok b->b<w.heap.size){v:Value}{x:A}(hnt:∀k b,Jh v x k b->¬B b)(h:jr φ E r w v x):jr φ E' r' w' v x:=by
 have hsome:∀q R,r q=ae R->r' q=ai\/∃R',r' q=ae R'/\R'.b=R.b/\R'.z=R.z/\R'.xs.length=R.xs.length:=λq R hq=>by cases e:r' q with|none=>exact .inl rfl|some R'=>obtain⟨R1,h1,h2⟩:=W.sh q R' e;rw[hq]at h1;cases h1;exact .inr ⟨R',rfl,h2⟩
 cases h with|any=>exact .any _|undef=>exact .undef|data _ _ h=>exact .data _ _ (W.rep hz h)|DI=>exact .DI _ _ _|tok b' o cap k z xs vs hc h0 hzz h hv hrm=>have hb:¬B b':=hnt k b' (.mk ⟨b',o,ai⟩ _ _ _ _ _ h0);exact .tok b' o cap k z xs vs hc h0 hzz (W.W6 hz h) (hv.of_block (W.same b' hrm.lt hb)) (W.room _ _ hrm)|lA _ q off n h=>exact .lA _ _ _ _ (W.abI h)|kP ad q off R h hb hn=>(rcases hsome q R h with h1|⟨R',h1,h2,h3,h4⟩);(·exact .lA _ _ _ _ h1);·exact .kP ad q off R' h1 (h2.trans hb) (h4▸hn)|view b' o cap q off n R h hb hn hc h0 hq hrm=>(rcases hsome q R h with h1|⟨R',h1,h2,h3,h4⟩);(·exact .lA _ _ _ _ h1);·rw[<-h3]at hrm⊢;exact .view b' o cap q off n R' h1 (h2.trans hb) (h4▸hn) hc h0 (W.ρ▸hq) (W.room _ _ hrm)|Lx _ q i c h=>exact .Lx _ _ _ _ (W.abI h)|loc b' o q i c R h hq=>(rcases hsome q R h with h1|⟨R',h1,h2,h3,h4⟩);(·exact .Lx _ _ _ _ h1);·rw[<-h3];exact .loc b' o q i c R' h1 (W.ρ▸hq)
def RV.back(hz:∀b,E.ok b->b<w.heap.size){v:Value}{x:A}(hnt:∀k b,Tk v x k b->¬B b)(h:RV φ E r w v x):RV φ E' r' w' v x:=by cases h with|one _ _ h=>exact .one _ _ (h.back W hz λk b ht=>hnt k b (.one _ _ _ _ ht))|sf vs xs h=>exact .sf vs xs ⟨h.1,λj v x hv hx=>(h.2 j v x hv hx).back W hz λk b ht=>hnt k b (.sf vs xs j k b v x hv hx ht)⟩|agg vs xs h=>exact .agg vs xs ⟨h.1,λj v x hv hx=>(h.2 j v x hv hx).back W hz λk b ht=>hnt k b (.agg vs xs j k b v x hv hx ht)⟩|fn f vs xs h hn=>refine .fn f vs xs ⟨h.1,λj v x hv hx=>(h.2 j v x hv hx).back W hz λk b ht=> ?_⟩ hn;have:=hn x (bw hx);cases ht;cases this
def fg.back(hz:∀b,E.ok b->b<w.heap.size){q c:Nat}{v:Value}{x:A}(h:fg φ E r w q c v x):fg φ E' r' w' q c v x:=by cases h with|data _ h ha=>exact .data _ _ (W.rep hz h) ha|any h=>exact .any _ h|view off n hc h hv=>exact .view _ _ _ hc (h.back W hz λk b ht=>by cases ht) hv
end
def cI.back(h:cI φ w0 L E st ev w){B:Nat->Prop}{r':Nat->Option dF}(W:Wm w0 L E E' st.r r' w w' B)(htk:∀i k b,Tk (ev i) (st.t i) k b->¬B b)(hnk:∀q b o,(r' q).isSome->E.ρ q=ae (b,o)->B b->¬E'.ok b) (hr:∀q R',r' q=ae R'->(st.r q=ae R'/\∀b o,E.ρ q=ae (b,o)->¬B b)\/l9 φ E' r' w' q R'):cI φ w0 L E' {st with r:=r'} ev w':=by
 have nok:∀b,¬E.ok b->b<w.heap.size->¬B b->¬E'.ok b:=λb h1 h2 hB h3=>by(rcases W.new b h3 with h4|h4|h4);(·exact h1 h4);(·exact hB h4.1);·omega
 exact{
  iZ:=λi=>(h.iZ i).back W h.UP (htk i)
  roots:=λq R' hq=>by
   rcases hr q R' hq with ⟨h1,h5⟩|h5
   ·cases h.roots q R' h1 with
    |empty z h=>exact .empty z (W.ρ▸h)
    |sl b' o z xs vs hρ hz hh hv hrm=>exact .sl b' o z xs vs (W.ρ▸hρ) hz (W.W6 h.UP hh) (hv.of_block (W.same _ hrm.lt (h5 _ _ hρ))) (W.room _ _ hrm)
    |box b' o z x vs hρ hz hlt hl hh hv hrm=>exact .box b' o z x vs (W.ρ▸hρ) hz hlt hl (λc v a h1 h2=>(hh c v a h1 h2).back W h.UP) (hv.of_block (W.same _ hrm.lt (h5 _ _ hρ))) (W.room _ _ hrm)
   ·exact h5
  inj:=λq q' b o b' o' a1 a2 a3 a4=>h.inj q q' b o b' o' (W.Az a1) (W.Az a2) (W.ρ▸a3) (W.ρ▸a4)
  rz:=λq b o a1 a2=>by
   have:=h.rz q b o (W.Az a1) (W.ρ▸a2)
   refine⟨λhk=> ?_,this.2.1,bU this.2.2 W.size⟩
   by_cases hB:B b
   ·exact hnk q b o a1 (W.ρ▸a2) hB hk
   ·exact nok b this.1 this.2.2 hB hk
  tz:=λi k b a1=>by
   have:=h.tz i k b a1
   exact⟨⟨nok b this.1.1 this.1.2.2 (htk i k b a1),this.1.2.1,bU this.1.2.2 W.size⟩,λq b' o a2 a3=>this.2 q b' o (W.Az a2) (W.ρ▸a3)⟩
  td:=h.td
  UP:=λb hk=>by
   rcases W.new b hk with h1|h1|h1
   ·exact bU (h.UP b h1) W.size
   ·exact h1.2
   ·exact h1.2
  grow:=dZ h.grow W.size
  frame:=λb h1 h2=>by
   have hb:¬B b:=λhb=>(W.ao2 b hb).elim (λh3=>by omega) h2
   exact(W.same b (bU h1 h.grow) hb).trans (h.frame b h1 h2)
  env:=⟨W.env.1.trans h.env.1,W.env.2.trans h.env.2⟩
  fr:=λb off hb=>(W.fr b off (bU hb h.grow)).trans (h.fr b off hb)
  room:=λb n hr=>W.room b n (h.room b n hr)
  Qr:=λi p a1 a2=>by rw[W.ρ];exact h.Qr i p a1 (W.Az a2)
  okU:=λb hb=>W.ok b (h.okU b hb)
  okL:=λb hk=>by
   rcases W.new b hk with h1|h1|h1
   ·exact h.okL b h1
   ·exact .inr (W.ao2 b h1.1)
   ·exact .inr (.inl (dZ h.grow h1.1))}
def gD.one{K:Nat->Prop}{v:Value}{z:Nat}{xs:List A}{b:Option Nat}(h:gD φ w K v z xs b):(∀cs,v≠ .agg cs)/\(∀vs,v≠ .tuple vs):=by cases h<;>exact⟨(λ_ h=>by cases h),(λ_ h=>by cases h)⟩
def AL.one{K:Nat->Prop}{v:Value}{x:A}{b:Option Nat}(h:AL φ w K v x b):(∀cs,v≠ .agg cs)/\(∀vs,v≠ .tuple vs):=by cases h with|data _ h ha=>exact h.LG ha|own z xs _ h=>exact h.one
def AL.agJ{K:Nat->Prop}{v:Value}{x:A}{b:Option Nat}(h:AL φ w K v x b)(l:List A):x≠ .agg l:=by cases h with|data _ h ha=>exact ha l|own=>exactλe=>by cases e
def dj.length{K:Nat->Prop}:∀{vs:List Value} {xs:List A} {bs:List Nat},dj φ w K vs xs bs->vs.length=xs.length
 |_,_,_,.nil=>rfl
 |_,_,_,.cons _ _ _ _ _ _ _ t=>congrArg (· +1) t.length
def dj.get{K:Nat->Prop}:∀{vs:List Value} {xs:List A} {bs:List Nat},dj φ w K vs xs bs->∀{j:Nat} {v:Value} {x:A},vs[j]? =ae v->xs[j]? =ae x->∃b,AL φ w K v x b
 |_,_,_,.nil,j,_,_,h,_=>by simp at h
 |_,_,_,.cons _ _ _ _ _ _ h t,0,v,x,hv,hx=>by simp at hv hx;subst hv;subst hx;exact⟨_,h⟩
 |_,_,_,.cons _ _ _ _ _ _ h t,j+1,v,x,hv,hx=>t.get (by simpa using hv) (by simpa using hx)
def cI.amY(h:cI φ w0 L E st ev w){v:Value}{z:Nat}{xs:List A}{ob:Option Nat}(hv:gD φ w E.ok v z xs ob)(hF:∀b,ob=ae b->iK w0 L E st ev w b){q:Nat}(hpl:L.pl q=ai\/∃b o n cap,v=.slice (ae ⟨b,o,ai⟩) n cap/\cap≠0/\L.pl q=ae (b,o)) (hc:∀p' R',st.r p'=ae R'->R'.b=ar->∀x∈R'.xs,∀y∈x.cells,iY q y=aw): ∃E',cI φ w0 L E' ((st.kill q).aD q (ae ⟨aw,z,xs⟩)) ev w/\Step (· =q) E st E' ((st.kill q).aD q (ae ⟨aw,z,xs⟩))/\E'.ok=E.ok/\ jr φ E' ((st.kill q).aD q (ae ⟨aw,z,xs⟩)).r w v (.view q 0 xs.length)/\∀b,ob≠ae b->iK w0 L E st ev w b->iK w0 L E' ((st.kill q).aD q (ae ⟨aw,z,xs⟩)) ev w b:=by
 have h1:=((h.kill q).CD q);rw[<-nZ];have hn:∀i,refs q (((st.kill q).aD q ai).t i)=aw:=λi=>xr q _;have hq0:(((st.kill q).aD q ai).r q)=ai:=by simp[St.aD]
 have hc':∀p' R',((st.kill q).aD q ai).r p'=ae R'->R'.b=ar->∀x∈R'.xs,∀y∈x.cells,iY q y=aw:=λp' R' hp hb=>by simp only[St.aD]at hp;split at hp;(·cases hp);·exact hc p' R' hp hb
 have step:∀p,Step (· =q) E st ⟨E.ok,λi=>if i=q then p else E.ρ i⟩ (((st.kill q).aD q ai).aD q (ae ⟨aw,z,xs⟩)):=λp=>by refine⟨λ_ h=>h,λp' hp=>aO hp,λp' hp=>.inl ?_,λp' R hp hR _=> ?_,λp' R hp hR=>.inl ?_⟩;(·simp[St.aD,St.kill,St.map,hp]);(·simpa[St.aD,St.kill,St.map,hp]using hR);·simp[St.aD,hp]at hR;rw[<-hR]
 have fresh:∀(p:Option (Nat×Nat)) b,(∀o,p≠ae (b,o))->iK w0 L E st ev w b->iK w0 L ⟨E.ok,λi=>if i=q then p else E.ρ i⟩ (((st.kill q).aD q ai).aD q (ae ⟨aw,z,xs⟩)) ev w b:=by intro p b hne hf;refine⟨hf.z,λq' b' o' a1 a2 e=> ?_,λi k b' a1=>hf.t i k b' (Tk.cJ (wh q) a1).1⟩;subst e;by_cases e:q'=q;(·simp[e]at a2;exact hne _ a2);·simp[e]at a2;exact hf.r q' b' o' (by simpa[St.aD,St.kill,St.map,e]using a1) a2 rfl
 cases hv with
 |empty ad z=>
  refine⟨_,h1.root (p:=ai) (R:=⟨aw,z,[]⟩) hq0 hn hc' (λb o e=>by cases e) (λp' e=>by
   rcases hpl with h1|⟨b,o,n,cap,h1,h2,h3⟩
   ·rw[h1]at e;cases e
   ·simp only[wN]at h1;exact absurd h1.2.2.symm h2) (.empty z (by simp)),step ai,rfl,?_,λb _ hf=>fresh ai b (λo e=>by cases e) hf⟩
  exact .kP ad q 0 ⟨aw,z,[]⟩ (by simp[St.aD]) rfl (iW _)
 |mk b o cap z xs vs hcc h0 hz hh hv' hrm=>
  have hf:=hF b rfl
  refine⟨_,h1.root (p:=ae (b,o)) (R:=⟨aw,z,xs⟩) hq0 hn hc' (λb' o' e=> ?_) (λp' e=>by
   rcases hpl with h1|⟨b2,o2,n2,cap2,h1,h2,h3⟩
   ·rw[h1]at e;cases e
   ·simp only[wN,aq,adA]at h1
    rw[h3]at e;rw[h1.1.1,h1.1.2.1];exact e) (.sl b o z xs vs (by simp) hz hh hv' (hrm.le ?_)),step _,rfl,?_,λb' hne hf'=>fresh _ b' (λo' e=>hne (by cases e;rfl)) hf'⟩
  ·cases e;refine⟨hf.z,λq' b' o' a1 a2=>hf.r q' b' o' ?_ a2,λi' k' b' a1=>hf.t i' k' b' (Tk.cJ (wh q) a1).1⟩;simp only[St.aD]at a1;split at a1;(·cases a1);·exact a1
  ·have:=cu z hcc;omega
  ·have:=jr.view (φ:=φ) (E:=⟨E.ok,λi=>if i=q then ae (b,o)else E.ρ i⟩) (r:=(((st.kill q).aD q ai).aD q (ae ⟨aw,z,xs⟩)).r) (w:=w) b o cap q 0 xs.length ⟨aw,z,xs⟩ (by simp[St.aD]) rfl (by simp) hcc h0 (by simp) (by simpa using hrm);simpa using this
def cI.zi{q:Nat}:∀{vs:List Value} {xs:List A} {bs:List Nat} {c:Nat} {E:Env} {st:St} {ys:List A} {st1:St} (h:cI φ w0 L E st ev w) (ha:Ab.zi q c st xs=ae (ys,st1)) (hv:dj φ w E.ok vs xs bs) (hnd:bs.Nodup) (hF:∀b∈bs,iK w0 L E st ev w b) (hlt:c+xs.length<=1000) (hc:∀c',c<=c'->c'<c+xs.length->∀p' R',st.r p'=ae R'->R'.b=ar->∀x∈R'.xs,∀y∈x.cells,iY (sub q c') y=aw), ∃E',cI φ w0 L E' st1 ev w/\Step (λp=>∃c',c<=c'/\c'<c+xs.length/\p=sub q c') E st E' st1/\E'.ok=E.ok/\ys.length=xs.length/\ (∀i v y,vs[i]? =ae v->ys[i]? =ae y->fg φ E' st1.r w q (c+i) v y)/\∀b,b∉bs->iK w0 L E st ev w b->iK w0 L E' st1 ev w b:=by intro vs xs;induction xs generalizing vs with|nil=>intro bs c E st ys st1 h ha hv _ _ _ _;simp[Ab.zi]at ha;obtain⟨rfl,rfl⟩:=ha;exact⟨E,h,.refl _,rfl,rfl,λi v y _ hy=>by simp at hy,λb _ hf=>hf⟩|cons x xs ih=>intro bs c E st ys st1 h ha hv hnd hF hlt hc;simp only[Ab.zi]at ha;obtain⟨⟨y,s⟩,hs,ha⟩:=ak.1 ha;obtain⟨⟨ys',s2⟩,hys,ha⟩:=au.1 ha;simp only[be]at ha;obtain⟨rfl,rfl⟩:=ha;simp only[bh]at hlt hc;cases hv with|cons v _ b vs _ bs hv0 ht=>obtain⟨hn1,hn2,hn3⟩:=cZ.1 hnd;(have first:∃E1,cI φ w0 L E1 s ev w/\Step (· =sub q c) E st E1 s/\E1.ok=E.ok/\fg φ E1 s.r w q c v y/\∀b',b≠ae b'->iK w0 L E st ev w b'->iK w0 L E1 s ev w b':=by cases hv0 with|data _ hr hna=>(have hp:MS q c st x=if Ab.cr x then ae (x,st)else ai:=by cases hr<;>rfl);rw[hp]at hs;split at hs;(·simp only[aq,be]at hs;obtain⟨rfl,rfl⟩:=hs;exact⟨E,h,.refl _,rfl,.data _ _ hr hna,λ_ _ hf=>hf⟩);·cases hs|own z xs' _ ho=>simp only[MS]at hs;split at hs;(·rename_i hc1;simp only[aq,be]at hs;obtain⟨rfl,rfl⟩:=hs;obtain⟨E1,a1,a2,a3,a4,a5⟩:=h.amY (q:=sub q c) ho (λb' e=>hF b' (bW _ (by simp[e]))) (.inl kU.sub) (hc c (bm _) (by omega));exact⟨E1,a1,a2,a3,.view _ _ _ hc1 a4 ho.one,a5⟩);·cases hs);obtain⟨E1,h1,hst,hok,hcell,hfr⟩:=first;(have hK:dj φ w E1.ok vs xs bs:=by rw[hok];exact ht);obtain⟨E2,h2,hst2,hok2,hl,hall,hfr2⟩:=ih h1 hys hK hn2 (λb' hb'=>hfr b' (λe=>hn3 b' (by simp[e]) b' hb' rfl) (hF b' (aS _ hb'))) (by omega) (λc' a1 a2 p' R' hp hb=>hc c' (by omega) (by omega) p' R' (hst.box hp hb) hb);(have hinj:∀c',c+1<=c'->sub q c≠sub q c':=λc' a1 e=>by simp only[sub]at e;omega);refine⟨E2,h2,?_,hok2.trans hok,by simp[hl],λi v' y' hv' hy'=> ?_,λb' hb' hf=>hfr2 b' (λhm=>hb' (aS _ hm)) (hfr b' (λe=>hb' (bW _ (by simp[e]))) hf)⟩;(·refine Step.trans (E1:=E1) (st1:=s) ⟨hst.ok,λp hp=>hst.ρ p λe=>hp ⟨c,by omega,by simp,e⟩,λp hp=>hst.r p λe=>hp ⟨c,by omega,by simp,e⟩,λp R hp=>hst.b p R λe=>hp ⟨c,by omega,by simp,e⟩,λp R _ hR=> ?_⟩ ⟨hst2.ok,λp hp=>hst2.ρ p ?_,λp hp=>hst2.r p ?_,λp R hp=>hst2.b p R ?_,λp R _ hR=> ?_⟩;(·by_cases e:p=sub q c;(·exact hst.s p R e hR);·(rcases hst.r p e with h3|h3);(·exact .inr (h3▸hR));·rw[h3]at hR;cases hR);(·rintro⟨c',a1,a2,e⟩;exact hp ⟨c',by omega,by simp;omega,e⟩);(·rintro⟨c',a1,a2,e⟩;exact hp ⟨c',by omega,by simp;omega,e⟩);(·rintro⟨c',a1,a2,e⟩;exact hp ⟨c',by omega,by simp;omega,e⟩);·by_cases e:∃c',c+1<=c'/\c'<c+1+xs.length/\p=sub q c';(·exact hst2.s p R e hR);·(rcases hst2.r p e with h3|h3);(·exact .inr (h3▸hR));·rw[h3]at hR;cases hR);·cases i with|zero=>simp at hv' hy';subst hv';subst hy';exact hcell.step hst2 (λ⟨c',a1,a2,e⟩=>hinj c' a1 e)|succ i=>have:=hall i v' y' (by simpa using hv') (by simpa using hy');rwa[show c+(i+1)=c+1+i from by omega]
def cI.kN(h:cI φ w0 L E st ev w){q z:Nat}{x:A}{v:Value}{bs:List Nat}{st1:St}(ha:Ab.kN st q z x=ae st1)(hv:jE φ w E.ok v z x bs)(hnd:bs.Nodup) (hF:∀b∈bs,iK w0 L E st ev w b) (hpl:∀p',L.pl q=ae p'->v=.pointer (ae ⟨p'.1,p'.2,ai⟩)): ∃E',cI φ w0 L E' st1 ev w/\E'.ok=E.ok/\jr φ E' st1.r w v (.loc q 0 0)/\(∀b,b∉bs->iK w0 L E st ev w b->iK w0 L E' st1 ev w b):=by
 unfold Ab.kN at ha;split at ha
 ·rename_i hq;obtain⟨hq,hlt⟩:=hq;obtain⟨⟨cs,s⟩,hs,ha⟩:=au.1 ha;simp only at ha;subst ha
  cases hv with
  |mk b o z x vs bs hcr hcl hrm hz=>
   have h1:=(h.kill q).CD q
   have hfr1:∀b,iK w0 L E st ev w b->iK w0 L E ((st.kill q).aD q ai) ev w b:=λb hf=>⟨hf.z,λq' b' o' a1 a2=>hf.r q' b' o' (by
    simp only[St.aD]at a1
    split at a1
    ·cases a1
    ·exact a1) a2,λi k b' a1=>hf.t i k b' (Tk.cJ (wh q) a1).1⟩
   obtain⟨hb1,hb2⟩:=pd.1 hnd
   obtain⟨E1,h2,hst,hok,hl,hall,hfr⟩:=h1.zi hs hcr hb2 (λb' hb'=>hfr1 b' (hF b' (aL _ hb'))) (by omega) (λc' a1 a2 p' R' hp hb x hx y hy=>by
    cases hr:iY (sub q c') y with
    |false=>rfl
    |true=>
     obtain⟨c2,hc2,e2,_⟩:=h1.Jl hp hb hx hy hr
     have e3:=(Me (by omega) hc2 e2).1
     simp[St.aD,<-e3]at hp)
   have hlv:=hcr.length;(have hna:∀y∈cs,∀l,y≠ .agg l:=λy hy=>by obtain⟨c,hc⟩:=ff.1 hy;(have hcl:c<vs.length:=by(rcases bH c cs.length with h|h);(·omega);·simp[bB h]at hc);exact(hall c vs[c] y (by simp) hc).agJ);have hrc:(eX x cs).cells=cs:=jW hl hna;have h3:=h2.box (d:=q) (z:=z) (o:=o) (b:=b) (x:=eX x cs) (vs:=vs) hq (λp' e=>by have:=hpl p' e;simp only[Value.pointer.injEq,aq,adA]at this;exact Prod.ext this.1.symm this.2.1.symm) (hfr b hb1 (hfr1 b (hF b (di ..)))) (by rw[hrc,hl,hz]) (by rw[hrc,hl,hlv]) (λc u y hu hy=>by have:=hall c u y hu (by rw[hrc]at hy;exact hy);rwa[c8]at this) hcl hrm;refine⟨_,h3,hok,?_,λb' hb' hf=> ?_⟩;(·have:=jr.loc (φ:=φ) (E:=⟨E1.ok,λi=>if i=q then ae (b,o)else E1.ρ i⟩) (r:=((s.kill q).aD q (ae ⟨ar,z,[eX x cs]⟩)).r) (w:=w) b o q 0 0 ⟨ar,z,[eX x cs]⟩ (by simp[St.aD]) (by simp);simpa using this);·have hf2:=hfr b' (λhm=>hb' (aL _ hm)) (hfr1 b' hf);refine⟨hf2.z,λq' b2 o' a1 a2 e=> ?_,λi k b2 a1=>hf2.t i k b2 (Tk.cJ (wh q) a1).1⟩;subst e;by_cases e:q'=q;(·simp[e]at a2;exact hb' (by rw[<-a2.1];exact di ..));·simp[e]at a2;exact hf2.r q' b2 o' (by simpa[St.aD,St.kill,St.map,e]using a1) a2 rfl
 ·cases ha
end
end Go.Ab
namespace Go.Ab
section
variable {P:Program} {φ:Nat->Nat} {w0:World} {L:kU} {E E':Env} {st st':St} {ev ev':Nat->Value} {w w':World} {r r':Nat->Option dF} {a:Act}
def NB(E:Env)(st:St)(bs ns:List Nat):Prop:=(∀b∈bs,∃p∈ns,(st.r p).isSome=ar/\∃o,E.ρ p=ae (b,o))/\(ns.Nodup->bs.Nodup)
def NB.nil:NB E st [] []:=⟨(λb h=>by cases h),(λ_=>iy)⟩
def NB.none(ns:List Nat):NB E st [] ns:=⟨(λb h=>by cases h),(λ_=>iy)⟩
def NB.one{b o p:Nat}(hl:(st.r p).isSome=ar)(hρ:E.ρ p=ae (b,o)):NB E st [b] [p]:=
 ⟨λc hc=>by rw[aX]at hc;subst hc;exact⟨p,aX.2 rfl,hl,o,hρ⟩,λ_=>by simp⟩
def NB.append(h:cI φ w0 L E st ev w){bs cs ns ms:List Nat}(h1:NB E st bs ns)(h2:NB E st cs ms):NB E st (bs++cs) (ns++ms):=by
 refine⟨λb hb=> ?_,λhn=> ?_⟩
 ·rcases aU.1 hb with hb|hb
  ·obtain⟨p,hp,hx⟩:=h1.1 b hb;exact⟨p,bW _ hp,hx⟩
  ·obtain⟨p,hp,hx⟩:=h2.1 b hb;exact⟨p,aS _ hp,hx⟩
 ·obtain⟨n1,n2,n3⟩:=cZ.1 hn;refine cZ.2 ⟨h1.2 n1,h2.2 n2,λb hb c hc e=> ?_⟩;subst e;obtain⟨p,hp,hl,o,hρ⟩:=h1.1 b hb;obtain⟨p',hp',hl',o',hρ'⟩:=h2.1 b hc;exact h.inj p p' b o b o' hl hl' hρ hρ' (n3 p hp p' hp') rfl
def Vs{q off n:Nat}{R:dF}(hro:l9 φ E r w q R)(hR:r q=ae R){v:Value}(hv:jr φ E r w v (.view q off n)): ∃ob,gD φ w E.ok v R.z ((R.xs.drop off).take n) ob/\(∀b,ob=ae b->∃o,E.ρ q=ae (b,o)):=by
 cases hv with
 |data _ _ h=>cases h
 |lA _ _ _ _ h1=>rw[h1]at hR;cases hR
 |kP ad q off R' h1 hb hn=>
  rw[xf];exact⟨ai,.empty _ _,λb e=>by cases e⟩
 |view b o cap q off n R' h1 hb hn hcc h0 hρ hrm=>
  rw[h1]at hR;cases hR;have hlen:((R.xs.drop off).take n).length=n:=by simp;omega
  cases hro with
  |empty z h=>rw[h]at hρ;cases hρ
  |box=>cases hb
  |sl b1 o1 z xs vs hρ1 hzz hh hv' hrm'=>
   rw[hρ]at hρ1;cases hρ1
   have:=gD.mk (φ:=φ) (w:=w) (K:=E.ok) b (o+off*z) cap z ((xs.drop off).take n) ((vs.drop (off*z)).take (n*z)) (by simp only at hlen;rw[hlen];exact hcc) h0
    (λy hy=>hzz y (cA (fo hy))) (by
      rw[tP (λx hx=>hzz x (cA hx)),nh hzz]
      exact(hh.drop _).take _) ((hv'.drop _).take _) (by rw[Ga,<-gS]at hrm;exact hrm)
   simp only at hlen;rw[hlen]at this;exact⟨ae b,this,λb' e=>by cases e;exact⟨o,hρ⟩⟩
def Lv(h:cI φ w0 L E st ev w){q:Nat}:∀{xs ys:List A} {vs:List Value} {c:Nat},vs.length=xs.length->(∀(j:Nat) (v:Value) (x:A),vs[j]? =ae v->xs[j]? =ae x->fg φ E st.r w q (c+j) v x)->JV st.r xs=ae ys->
 ∃bs,dj φ w E.ok vs ys bs/\NB E st bs (xs.flatMap ga)/\ys.length=xs.length
 | [],ys,vs,c,hl,_,hc=>by
   simp[JV]at hc;subst hc
   obtain rfl:vs=[]:=gy (by simpa using hl)
   exact⟨[],.nil,NB.nil,rfl⟩
 |x::xs,ys,[],c,hl,_,_=>by simp at hl
 |x::xs,ys,v::vs,c,hl,hcell,hc=>by
  simp only[JV]at hc
  obtain⟨y,hy,hc⟩:=ak.1 hc
  obtain⟨ys',hys,rfl⟩:=au.1 hc
  obtain⟨bs,h1,h2,h3⟩:=Lv h (c:=c+1) (by simpa using hl) (λj v' x' hv hx=>by
   have:=hcell (j+1) v' x' (by simpa using hv) (by simpa using hx)
   rwa[show c+(j+1)=c+1+j from by omega]at this) hys
  have h0:=hcell 0 v x rfl rfl
  have first:∃b:Option Nat,AL φ w E.ok v y b/\NB E st b.toList (ga x):=by cases h0 with|data _ hr hna=>(have hp:Uk st.r x=if Ab.cr x then ae x else ai:=by cases hr<;>rfl);rw[hp]at hy;split at hy;(·simp only[aq]at hy;subst hy;exact⟨ai,.data _ _ hr hna,NB.none _⟩);·cases hy|any=>simp[Uk,Ab.cr]at hy|view off n hc' hrv hone=>simp only[Uk]at hy;obtain⟨R,hR,rfl⟩:=au.1 hy;obtain⟨ob,ho,hρ⟩:=Vs (h.roots _ R hR) hR hrv;refine⟨ob,.own _ _ _ _ ho,?_⟩;cases ob with|none=>exact NB.none _|some b=>obtain⟨o,hρ'⟩:=hρ b rfl;exact NB.one (by rw[hR];rfl) hρ'
  obtain⟨b,h4,h5⟩:=first
  exact⟨b.toList++bs,.cons _ _ _ _ _ _ h4 h1,by rw[cg];exact h5.append h h2,by simp[h3]⟩
def gD.cap{K:Nat->Prop}{v:Value}{z:Nat}{xs:List A}{ob:Option Nat}(h:gD φ w K v z xs ob):ob=ai\/∃b o n cap,v=.slice (ae ⟨b,o,ai⟩) n cap/\cap≠0:=by cases h with|empty=>exact .inl rfl|mk b o cap z xs vs hc h0=>exact .inr ⟨b,o,_,cap,rfl,h0⟩
inductive LO(φ:Nat->Nat)(E:Env)(st:St)(w w':World)(K':Nat->Prop):List Nat->List A->List Nat->List Nat->List Nat->Prop
 |nil:LO φ E st w w' K' [] [] [] [] []
 |iB (q z b o:Nat) (e y:A) (bs qs os ns ob em:_) (hR:st.r q=ae ⟨ar,z,[e]⟩) (hρ:E.ρ q=ae (b,o)) (hB:jE φ w' K' (.pointer (ae ⟨b,o,ai⟩)) z y (b::bs))
   (t:LO φ E st w w' K' qs os ns ob em):LO φ E st w w' K' (q::qs) (.iB z [y]::os) (q::e.cells.flatMap ga++ns) (b::bs++ob) em
 |lB (q z:Nat) (v:Value) (xs ys:List A) (b:Option Nat) (qs os ns ob em:_) (hR:st.r q=ae ⟨aw,z,xs⟩) (hv:jr φ E st.r w v (.view q 0 xs.length)) (ho:gD φ w' K' v z ys b) (hl:ys.length=xs.length)
   (t:LO φ E st w w' K' qs os ns ob em):LO φ E st w w' K' (q::qs) (.lB z ys::os) (q::ns) (b.toList++ob) (if b.isNone then q::em else em)
 |gone (q z:Nat) (xs:List A) (qs os ns ob em:_) (hR:st.r q=ae ⟨aw,z,xs⟩) (t:LO φ E st w w' K' qs os ns ob em):LO φ E st w w' K' (q::qs) (.any::os) (q::ns) ob em
def agh(h:cI φ w0 L E st ev w){Ns:List Nat}:∀{xs:List A} {vs:List Value} {io:List Bool} {ls:List (Option A)} {qs ns:List Nat} {ab:List A},fE (RV φ E st.r w) vs xs->mX st io xs=ae (ls,qs,ns)->
 uQ {st with r:=less st.r Ns} ls xs=ae ab->
 ∃bs,fL φ w E.ok vs ab bs/\NB E st bs ns/\∀{w':World} {K':Nat->Prop} {outs:List A} {ob:List Nat},jc φ w' K' vs ab outs ob->∃em,LO φ E st w w' K' qs outs ns ob em/\
  (∀q∈em,q∈ns/\(st.r q).isSome=ar)/\(ns.Nodup->∀q∈em,∀b o,E.ρ q=ae (b,o)->b∉bs)
 | [],vs,io,ls,qs,ns,ab,hv,hl,ha=>by
   obtain rfl:vs=[]:=gy hv.1
   simp[mX]at hl
   obtain⟨rfl,rfl,rfl⟩:=hl
   simp[uQ]at ha;subst ha
   exact⟨[],.nil,NB.nil,λho=>by cases ho;exact⟨[],.nil,(λ_ h=>by cases h),(λ_ _ h=>by cases h)⟩⟩
 |x::xs,vs,io,ls,qs,ns,ab,hv,hl,ha=>by
  obtain⟨v,vs,rfl,hx,hvs⟩:=hv.Pg
  have plain:∀{ls' qs' ns'},mX st io.tail xs=ae (ls',qs',ns')->ls=ai::ls'->qs=qs'->ns=ns'->
   ∃bs,fL φ w E.ok (v::vs) ab bs/\NB E st bs ns/\∀{w':World} {K':Nat->Prop} {outs:List A} {ob:List Nat},jc φ w' K' (v::vs) ab outs ob->∃em,LO φ E st w w' K' qs outs ns ob em/\
    (∀q∈em,q∈ns/\(st.r q).isSome=ar)/\(ns.Nodup->∀q∈em,∀b o,E.ρ q=ae (b,o)->b∉bs):=by
   intro ls' qs' ns' hl' e1 e2 e3
   subst e1;subst e2;subst e3
   simp only[uQ]at ha
   split at ha
   ·cases ha
   ·rename_i how
    obtain⟨y,hy,ha⟩:=ak.1 ha
    obtain⟨ys,hys,rfl⟩:=au.1 ha
    obtain⟨bs,h1,h2,h3⟩:=agh h (Ns:=Ns) hvs hl' hys
    have hxw:RV φ E (less st.r Ns) w v x:=hx.imp λv x hx=>hx.k9 (λ_ h=>h) (λq R hq=>by
     simp only[less]at hq
     split at hq
     ·cases hq
     ·exact⟨hq,rfl⟩)
    have hrep:iD φ w E.ok v y:=hxw.free (by simpa using how) hy
    refine⟨bs,by have:=fL.cons _ _ _ _ _ _ (.data _ _ hrep) h1;simpa using this,h2,λho=> ?_⟩
    cases ho with
    |data _ _ _ _ _ _ _ t=>exact h3 t
    |iB=>cases hrep
    |lB=>cases hrep
    |gone=>cases hrep
  match io,hl with
  | [],hl=>
    simp only[mX]at hl
    obtain⟨⟨ls',qs',ns'⟩,hl',hl⟩:=au.1 hl
    simp only[be]at hl
    exact plain hl' hl.1.symm hl.2.1.symm hl.2.2.symm
  |false::io,hl=>
   simp only[mX]at hl
   obtain⟨⟨ls',qs',ns'⟩,hl',hl⟩:=au.1 hl
   simp only[be]at hl
   exact plain hl' hl.1.symm hl.2.1.symm hl.2.2.symm
  |true::io,hl=>
   simp only[mX]at hl
   obtain⟨⟨q,y⟩,hq,hl⟩:=ak.1 hl
   obtain⟨⟨ls',qs',ns'⟩,hl',hl⟩:=au.1 hl
   simp only[be]at hl
   obtain⟨rfl,rfl,rfl⟩:=hl
   simp only[uQ]at ha
   obtain⟨ys,hys,rfl⟩:=au.1 ha
   obtain⟨bs,h1,h2,h3⟩:=agh h (Ns:=Ns) hvs hl' hys
   have hdisj:∀{bs1 ns1:List Nat},NB E st bs1 ns1->(ns1++ns').Nodup->∀p∈ns',∀b o,(st.r p).isSome=ar->E.ρ p=ae (b,o)->b∉bs1:=by intro bs1 ns1 hnb hn p hp b o hlv hρ hb;obtain⟨p',hp',hlv',o',hρ'⟩:=hnb.1 b hb;exact h.inj p' p b o' b o hlv' hlv hρ' hρ ((cZ.1 hn).2.2 p' hp' p hp) rfl
   unfold E4 at hq
   split at hq
   ·
    rename_i q0 _ _
    obtain⟨R,hR,hq⟩:=ak.1 hq
    split at hq
    ·rename_i e hb hxs
     obtain⟨cs,hcs,hq⟩:=au.1 hq
     simp only[be]at hq
     obtain⟨rfl,rfl⟩:=hq
     obtain⟨Rb,Rz,Rxs⟩:=R
     simp only at hb hxs
     subst hb;subst hxs
     obtain⟨b,o,hρ,hve⟩:=hx.Dl.R9 hR
     subst hve
     cases h.roots _ _ hR with
     |box b1 o1 z _ us hρ1 hz hlt hlen hcells hcl hrm=>
      rw[hρ]at hρ1;cases hρ1
      obtain⟨bs1,h4,h5,h6⟩:=Lv h (c:=0) hlen (λj v x hv hx=>by have:=hcells j v x hv hx;rwa[c8]) hcs
      have hna:∀y∈cs,∀l,y≠ .agg l:=λy hy=>by obtain⟨c,hc⟩:=ff.1 hy;(have hcl:c<us.length:=by(rcases bH c cs.length with h|h);(·omega);·simp[bB h]at hc);obtain⟨b',hb'⟩:=h4.get (j:=c) (v:=us[c]) (by simp) hc;exact hb'.agJ
      have hrc:(eX e cs).cells=cs:=jW h6 hna
      have hbox:jE φ w E.ok (.pointer (ae ⟨b,o,ai⟩)) Rz (eX e cs) (b::bs1):=.mk b o Rz _ us bs1 (by rw[hrc];exact h4) hcl hrm (by rw[hrc,h6,hz])
      have hnm:names st.r (.loc q0 0 0)=q0::e.cells.flatMap ga:=by simp[names,yG,hR]
      rw[hnm]
      have hnb:NB E st (b::bs1) (q0::e.cells.flatMap ga):=(NB.one (by rw[hR];rfl) hρ).append h h5
      refine⟨(b::bs1)++bs,.cons _ _ _ _ _ _ (by simpa using H0.iB _ _ _ _ hbox) h1,hnb.append h h2,λho=> ?_⟩
      cases ho with
      |data _ _ _ _ _ _ hna t=>exact absurd rfl (hna.1 _ _)
      |iB _ _ _ y1 ob1 _ _ os ob hB t=>
       obtain⟨em,a1,a2,a3⟩:=h3 t
       have hB0:∃bs2,ob1=b::bs2:=by simp only[Nat.zero_mul,anr]at hB;cases hB;exact⟨_,rfl⟩
       obtain⟨bs2,rfl⟩:=hB0
       refine⟨em,.iB q0 Rz b o e y1 bs2 _ _ _ _ em hR hρ (by simpa using hB) a1,λq hq=>⟨aS _ (a2 q hq).1,(a2 q hq).2⟩,λhn q hq b' o' hρ'=> ?_⟩
       intro hm
       rcases aU.1 hm with hm|hm
       ·exact hdisj hnb hn q (a2 q hq).1 b' o' (a2 q hq).2 hρ' hm
       ·exact a3 (cZ.1 hn).2.1 q hq b' o' hρ' hm
    ·cases hq
   ·
    rename_i q0 n _ _
    obtain⟨R,hR,hq⟩:=ak.1 hq
    split at hq
    ·rename_i hcond
     simp only[aq,be]at hq
     obtain⟨rfl,rfl⟩:=hq
     obtain⟨hn0,hb⟩:=hcond
     subst hn0
     obtain⟨Rb,Rz,Rxs⟩:=R
     simp only at hb
     subst hb
     obtain⟨ob0,ho0,hρ0⟩:=Vs (h.roots _ _ hR) hR hx.zm
     simp only[dV,aA]at ho0
     have hnm:names st.r (.view q0 0 Rxs.length)=[q0]:=rfl
     rw[hnm]
     have hnb:NB E st ob0.toList [q0]:=by cases ob0 with|none=>exact NB.none _|some b=>obtain⟨o,hρ'⟩:=hρ0 b rfl;exact NB.one (by rw[hR];rfl) hρ'
     refine⟨ob0.toList++bs,.cons _ _ _ _ _ _ (.lB _ _ _ _ ho0) h1,hnb.append h h2,λho=> ?_⟩
     cases ho with
     |data _ _ _ _ _ _ hna t=>exact absurd rfl (hna.2 _ _)
     |lB _ _ _ ys1 b1 _ _ os ob hO hl t=>
      obtain⟨em,a1,a2,a3⟩:=h3 t
      refine⟨if b1.isNone then q0::em else em,.lB q0 Rz v Rxs ys1 b1 _ _ _ _ em hR hx.zm hO hl a1,λq hq=> ?_,λhn q hq b' o' hρ' hm=> ?_⟩
      ·split at hq
       ·rcases bl.1 hq with rfl|hq
        ·exact⟨by simp,by rw[hR];rfl⟩
        ·exact⟨aS _ (a2 q hq).1,(a2 q hq).2⟩
       ·exact⟨aS _ (a2 q hq).1,(a2 q hq).2⟩
      ·have old:q∈em->False:=λhq=>by
        rcases aU.1 hm with hm|hm
        ·exact hdisj hnb hn q (a2 q hq).1 b' o' (a2 q hq).2 hρ' hm
        ·exact a3 (cZ.1 hn).2.1 q hq b' o' hρ' hm
       split at hq
       ·rename_i hnone
        rcases bl.1 hq with rfl|hq
        ·
         have hob0:ob0=ai:=by cases hO with|mk=>simp at hnone|empty ad z=>(rcases ho0.cap with h0|⟨b,o,n,cap,e,h0⟩);(·exact h0);·simp only[wN]at e;exact absurd e.2.2.symm h0
         subst hob0
         simp only[Option.toList_none,dU]at hm
         obtain⟨p',hp',hlv',o2,hρ2⟩:=h2.1 b' hm
         exact h.inj q p' b' o' b' o2 (by rw[hR];rfl) hlv' hρ' hρ2 ((cZ.1 hn).2.2 q (by simp) p' hp') rfl
        ·exact old hq
       ·exact old hq
     |gone _ _ _ _ _ os ob t=>
      obtain⟨em,a1,a2,a3⟩:=h3 t
      refine⟨em,.gone q0 Rz Rxs _ _ _ _ em hR a1,λq hq=>⟨aS _ (a2 q hq).1,(a2 q hq).2⟩,λhn q hq b' o' hρ' hm=> ?_⟩
      rcases aU.1 hm with hm|hm
      ·exact hdisj hnb hn q (a2 q hq).1 b' o' (a2 q hq).2 hρ' hm
      ·exact a3 (cZ.1 hn).2.1 q hq b' o' hρ' hm
    ·cases hq
   ·cases hq
end
end Go.Ab
namespace Go.Ab
section
variable {P:Program} {φ:Nat->Nat} {w0:World} {L:kU} {E E':Env} {st st':St} {ev ev':Nat->Value} {w w':World} {r r':Nat->Option dF} {a:Act}
inductive LT(φ:Nat->Nat)(ρ:Nat->Option (Nat×Nat))(w':World)(K':Nat->Prop)(r:Nat->Option dF):List Nat->List A->List Nat->List Nat->Prop
 |nil:LT φ ρ w' K' r [] [] [] []
 |iB (q z b o:Nat) (y:A) (bs qs os mb fb:_) (hR:r q=ae ⟨ar,z,[eX y (y.cells.map λ_=>.any)]⟩) (hρ:ρ q=ae (b,o)) (hB:jE φ w' K' (.pointer (ae ⟨b,o,ai⟩)) z y (b::bs)) (hq:q∉qs)
   (t:LT φ ρ w' K' r qs os mb fb):LT φ ρ w' K' r (q::qs) (.iB z [y]::os) (b::mb) (bs++fb)
 |lB (q z:Nat) (ys:List A) (ob:Option Nat) (qs os mb fb:_) (t:LT φ ρ w' K' r qs os mb fb):LT φ ρ w' K' r (q::qs) (.lB z ys::os) (ob.toList++mb) fb
 |gone (q:Nat) (qs os mb fb:_) (t:LT φ ρ w' K' r qs os mb fb):LT φ ρ w' K' r (q::qs) (.any::os) mb fb
def atY{q off n:Nat}{R:dF}{v:Value}(hv:jr φ E r w v (.view q off n))(hR:r q=ae R):(∃ad,v=.slice ad 0 0)\/∃b o cap,v=.slice (ae ⟨b,o+off*R.z,ai⟩) n cap/\E.ρ q=ae (b,o):=by cases hv with|data _ _ h=>cases h|lA _ _ _ _ h1=>rw[h1]at hR;cases hR|kP ad=>exact .inl ⟨ad,rfl⟩|view b o cap q off n R2 h1 h2 h3 h4 h5 h6 h7=>rw[h1]at hR;cases hR;exact .inr ⟨b,o,cap,rfl,h6⟩
def xL{y:A}:(eX y (y.cells.map λ_=>.any)).cells=y.cells.map λ_=>.any:=
 jW (by simp) λx hx l e=>by obtain⟨_,_,rfl⟩:=dK.1 hx;cases e
def anE(h:cI φ w0 L E st ev w){K':Nat->Prop}(room:∀{z:Nat} b n,fA z w b n->fA z w' b n):∀{qs:List Nat} {os:List A} {ns ob em:List Nat},LO φ E st w w' K' qs os ns ob em->∀{sti stB:St}, ns.Nodup->(∀p∈ns,sti.r p=st.r p)->mc sti qs os=ae stB-> stB.t=sti.t/\(∀p,p∉ns->stB.r p=sti.r p)/\ (∀p R',p∈ns->stB.r p=ae R'->(∃R,st.r p=ae R/\R'.b=R.b/\R'.z=R.z/\R'.xs.length=R.xs.length)/\(∀r'',l9 φ ⟨K',E.ρ⟩ r'' w' p R'))/\(∀q∈qs,q∈ns)/\ ∃mb fb,LT φ E.ρ w' K' stB.r qs os mb fb/\(∀p R',p∈ns->stB.r p=ae R'->p∈em\/∀b o,E.ρ p=ae (b,o)->b∈mb)/\ (∀b∈mb,b∈ob)/\(∀b∈fb,b∈ob)/\(ob.Nodup->fb.Nodup/\∀b∈mb,b∉fb):=by
 intro qs os ns ob em hlo
 induction hlo with
 |nil=>
  intro sti stB hn hs hb;simp[mc]at hb;subst hb;exact⟨rfl,λ_ _=>rfl,(λp R' hp=>by cases hp),(λq hq=>by cases hq),[],[],.nil,(λp R' hp=>by cases hp),(λb h=>by cases h),(λb h=>by cases h),λ_=>⟨iy,λb h=>by cases h⟩⟩
 |iB q z b o e y bs qs os ns ob em hR hρ hB t ih=>
  intro sti stB hn hs hb;obtain⟨hn1,hn2,hn3⟩:=cZ.1 hn;obtain⟨hn4,hn5⟩:=pd.1 hn1;simp only[mc]at hb;rw[hs q (by simp),hR]at hb;simp only[af]at hb;have hqns:q∉ns:=λhq=>hn3 q (by simp) q hq rfl
  obtain⟨g1,g2,g3,g4,mb,fb,g5,g6,g7,g8,g9⟩:=ih hn2 (λp hp=>by
   have h1:p≠q:=λe=>hqns (e▸hp)
   have h2:p∉e.cells.flatMap ga:=λhm=>hn3 p (aL _ hm) p hp rfl
   simp only[h1,aH]
   rw[aO (by simpa using h2)]
   exact hs p (aS _ hp)) hb
  have hq2:stB.r q=ae ⟨ar,z,[eX y (y.cells.map λ_=>.any)]⟩:=by rw[g2 q hqns];simp
  have hq1000:q<1000:=by cases h.roots q _ hR;assumption
  have hroot:∀r'',l9 φ ⟨K',E.ρ⟩ r'' w' q ⟨ar,z,[eX y (y.cells.map λ_=>.any)]⟩:=λr''=>by cases hB with|mk _ _ _ _ vs _ hcr hcl hrm hz=>refine .box b o z _ vs hρ (by rw[xL];simpa using hz) hq1000 (by rw[xL];simpa using hcr.length) (λc v x hv hx=> ?_) hcl hrm;rw[xL]at hx;simp only[bX,au]at hx;obtain⟨x0,hx0,rfl⟩:=hx;obtain⟨b',hb'⟩:=hcr.get hv hx0;exact .any _ hb'.one
  refine⟨g1,λp hp=> ?_,λp R' hp hR'=> ?_,λq' hq'=> ?_,b::mb,bs++fb,.iB q z b o y bs _ _ _ _ hq2 hρ hB (λhq=>hqns (g4 q hq)) g5,λp R' hp hR'=> ?_,λb' hb'=> ?_,λb' hb'=> ?_,λhnd=> ?_⟩;·simp only[aU,bl,not_or]at hp;rw[g2 p hp.2];simp only[hp.1.1,aH];rw[aO (by simpa using hp.1.2)]
  ·by_cases e1:p=q;(·subst e1;rw[hq2]at hR';cases hR';exact⟨⟨_,hR,rfl,rfl,rfl⟩,hroot⟩);·(rcases aU.1 hp with hp|hp);(·(rcases bl.1 hp with hp|hp);(·exact absurd hp e1);·have hpn:p∉ns:=λhm=>hn3 p (aL _ hp) p hm rfl;rw[g2 p hpn]at hR';simp only[e1,aH]at hR';rw[aJ (by simpa using hp)]at hR';cases hR');·exact g3 p R' hp hR'
  ·(rcases bl.1 hq' with rfl|hq');(·simp);·exact aS _ (g4 q' hq')
  ·by_cases e1:p=q;(·subst e1;exact .inr λb' o' hρ'=>by rw[hρ]at hρ';cases hρ';simp);·(rcases aU.1 hp with hp|hp);(·(rcases bl.1 hp with hp|hp);(·exact absurd hp e1);·have hpn:p∉ns:=λhm=>hn3 p (aL _ hp) p hm rfl;rw[g2 p hpn]at hR';simp only[e1,aH]at hR';rw[aJ (by simpa using hp)]at hR';cases hR');·exact(g6 p R' hp hR').imp id λh1 b' o' hρ'=>aL _ (h1 b' o' hρ')
  ·(rcases bl.1 hb' with rfl|hb');(·simp);·exact aS _ (g7 b' hb')
  ·(rcases aU.1 hb' with hb'|hb');(·exact bW _ (aL _ hb'));·exact aS _ (g8 b' hb')
  ·obtain⟨m1,m2,m3⟩:=cZ.1 hnd;obtain⟨m4,m5⟩:=pd.1 m1;obtain⟨m6,m7⟩:=g9 m2;refine⟨cZ.2 ⟨m5,m6,λx hx y hy=>m3 x (aL _ hx) y (g8 y hy)⟩,λb' hb' hm=> ?_⟩;(rcases bl.1 hb' with rfl|hb');(·(rcases aU.1 hm with hm|hm);(·exact m4 hm);·exact m3 _ (by simp) _ (g8 _ hm) rfl);·(rcases aU.1 hm with hm|hm);(·exact m3 _ (aL _ hm) _ (g7 _ hb') rfl);·exact m7 b' hb' hm
 |lB q z v xs ys ob1 qs os ns ob em hR hv ho hl t ih=>
  intro sti stB hn hs hb;obtain⟨hqns,hn2⟩:=pd.1 hn;simp only[mc]at hb
  obtain⟨g1,g2,g3,g4,mb,fb,g5,g6,g7,g8,g9⟩:=ih hn2 (λp hp=>by
   have h1:p≠q:=λe=>hqns (e▸hp)
   simp only[St.aD,h1,aH]
   exact hs p (aL _ hp)) hb
  have hq2:stB.r q=ae ⟨aw,z,ys⟩:=by rw[g2 q hqns];simp[St.aD]
  have hplace2:∀b o n cap,v=.slice (ae ⟨b,o,ai⟩) n cap->cap≠0->E.ρ q=ae (b,o):=by intro b o n cap hve h0;(rcases atY hv hR with ⟨ad,h1⟩|⟨b2,o2,cap2,h1,h2⟩);(·rw[h1]at hve;simp only[wN]at hve;exact absurd hve.2.2.symm h0);·rw[h1]at hve;simp only[wN,aq,adA]at hve;rw[h2,hve.1.1,<-hve.1.2.1];simp
  have hplace:∀b,ob1=ae b->∃o,E.ρ q=ae (b,o):=by intro b e;cases ho with|empty=>cases e|mk b1 o cap z ys vs hc h0 hz hh hcl hrm=>cases e;exact⟨o,hplace2 _ _ _ _ rfl h0⟩
  have hroot:∀r'',l9 φ ⟨K',E.ρ⟩ r'' w' q ⟨aw,z,ys⟩:=λr''=>by cases ho with|empty ad z=>(cases hρ:E.ρ q with|none=>exact .empty z hρ|some p=>obtain⟨b,o⟩:=p;refine .sl b o z [] [] hρ (λx hx=>by cases hx) .nil cH.nil ?_;cases h.roots q _ hR with|empty z h2=>rw[hρ]at h2;cases h2|sl b' o' z xs vs hρ' hz hh hcl hrm=>rw[hρ]at hρ';cases hρ';exact room _ _ (hrm.le (by simp)))|mk b1 o cap z ys vs hc h0 hz hh hcl hrm=>exact .sl b1 o z ys vs (hplace2 _ _ _ _ rfl h0) hz hh hcl (hrm.le (by have:=cu z hc;omega))
  refine⟨g1,λp hp=> ?_,λp R' hp hR'=> ?_,λq' hq'=> ?_,ob1.toList++mb,fb,.lB q z ys ob1 _ _ _ _ g5,λp R' hp hR'=> ?_,λb' hb'=> ?_,λb' hb'=>aS _ (g8 b' hb'),λhnd=> ?_⟩;·simp only[bl,not_or]at hp;rw[g2 p hp.2];simp[St.aD,hp.1]
  ·(rcases bl.1 hp with rfl|hp);(·rw[hq2]at hR';cases hR';exact⟨⟨_,hR,rfl,rfl,hl⟩,hroot⟩);·exact g3 p R' hp hR'
  ·(rcases bl.1 hq' with rfl|hq');(·simp);·exact aL _ (g4 q' hq')
  ·(rcases bl.1 hp with rfl|hp);(·cases ob1 with|none=>exact .inl (by simp)|some b=>refine .inr λb' o' hρ'=> ?_;obtain⟨o2,h2⟩:=hplace b rfl;rw[h2]at hρ';cases hρ';simp);·(rcases g6 p R' hp hR' with h1|h1);(·refine .inl ?_;split;(·exact aL _ h1);·exact h1);·exact .inr λb' o' hρ'=>aS _ (h1 b' o' hρ')
  ·(rcases aU.1 hb' with hb'|hb');(·exact bW _ hb');·exact aS _ (g7 b' hb')
  ·obtain⟨m1,m2,m3⟩:=cZ.1 hnd;obtain⟨m6,m7⟩:=g9 m2;refine⟨m6,λb' hb' hm=> ?_⟩;(rcases aU.1 hb' with hb'|hb');(·exact m3 _ hb' _ (g8 _ hm) rfl);·exact m7 b' hb' hm
 |gone q z xs qs os ns ob em hR t ih=>
  intro sti stB hn hs hb;obtain⟨hqns,hn2⟩:=pd.1 hn;simp only[mc]at hb
  obtain⟨g1,g2,g3,g4,mb,fb,g5,g6,g7,g8,g9⟩:=ih hn2 (λp hp=>by
   have h1:p≠q:=λe=>hqns (e▸hp)
   simp only[St.aD,h1,aH]
   exact hs p (aL _ hp)) hb
  have hq2:stB.r q=ai:=by rw[g2 q hqns];simp[St.aD]
  refine⟨g1,λp hp=> ?_,λp R' hp hR'=> ?_,λq' hq'=> ?_,mb,fb,.gone q _ _ _ _ g5,λp R' hp hR'=> ?_,g7,g8,g9⟩;·simp only[bl,not_or]at hp;rw[g2 p hp.2];simp[St.aD,hp.1]
  ·(rcases bl.1 hp with rfl|hp);(·rw[hq2]at hR';cases hR');·exact g3 p R' hp hR'
  ·(rcases bl.1 hq' with rfl|hq');(·simp);·exact aL _ (g4 q' hq')
  ·(rcases bl.1 hp with rfl|hp);(·rw[hq2]at hR';cases hR');·exact g6 p R' hp hR'
def LT.imp{ρ ρ':Nat->Option (Nat×Nat)}{K':Nat->Prop}:∀{qs:List Nat} {os:List A} {mb fb:List Nat},LT φ ρ w' K' r qs os mb fb->(∀q∈qs,∀z x,r q=ae ⟨ar,z,[x]⟩->r' q=ae ⟨ar,z,[x]⟩/\ρ' q=ρ q)-> LT φ ρ' w' K' r' qs os mb fb:=by intro qs os mb fb h;induction h with|nil=>intro _;exact .nil|iB q z b o y bs qs os mb fb hR hρ hB hq t ih=>intro hs;have h1:=hs q (by simp) _ _ hR;exact .iB q z b o y bs qs os mb fb h1.1 (h1.2.trans hρ) hB hq (ih λq' hq'=>hs q' (aL _ hq'))|lB q z ys ob qs os mb fb t ih=>intro hs;exact .lB q z ys ob qs os mb fb (ih λq' hq'=>hs q' (aL _ hq'))|gone q qs os mb fb t ih=>intro hs;exact .gone q qs os mb fb (ih λq' hq'=>hs q' (aL _ hq'))
def fg.aD{q c:Nat}{R:Option dF}{v:Value}{x:A}(h:fg φ E st.r w q c v x):fg φ E (st.aD q R).r w q c v x:=by cases h with|data _ h ha=>exact .data _ _ h ha|any h=>exact .any _ h|view off n hc h hv=>(have hne:sub q c≠q:=by intro e;simp only[sub]at e;omega);exact .view _ _ _ hc (h.VA λR' hR=>⟨by simpa[St.aD,hne]using hR,rfl⟩) hv
def HW{K':Nat->Prop}:∀{os:List A} {qs mb fb:List Nat} {E:Env} {st1 st2:St},cI φ w0 L E st1 ev w'->E.ok=K'->LT φ E.ρ w' K' st1.r qs os mb fb->fb.Nodup->(∀b∈fb,iK w0 L E st1 ev w' b)->iT st1 qs os=ae st2->
 ∃E2,cI φ w0 L E2 st2 ev w'/\E2.ok=K'/\∀b,b∉fb->iK w0 L E st1 ev w' b->iK w0 L E2 st2 ev w' b
 | [],qs,mb,fb,E,st1,st2,h,hK,hl,hn,hF,ht=>by
   cases hl
   simp[iT]at ht;subst ht
   exact⟨E,h,hK,λ_ _ hf=>hf⟩
 |x::os,qs,mb,fb,E,st1,st2,h,hK,hl,hn,hF,ht=>by
  cases hl with
  |lB q z ys ob qs _ mb _ t=>
   simp only[iT]at ht
   exact HW h hK t hn hF ht
  |gone q qs _ mb fb t=>
   simp only[iT]at ht
   exact HW h hK t hn hF ht
  |iB q z b o y bs qs _ mb fb hR hρ hB hq t=>
   simp only[iT]at ht
   split at ht
   ·rename_i hlen
    obtain⟨⟨cs,s⟩,hs,ht⟩:=ak.1 ht
    obtain⟨n1,n2,n3⟩:=cZ.1 hn
    cases hB with
    |mk _ _ _ _ vs _ hcr hcl hrm hz=>
     have hq1000:q<1000:=by cases h.roots q _ hR;assumption
     subst hK
     obtain⟨E1,h1,hst,hok,hle,hall,hfr⟩:=h.zi hs hcr n1 (λb' hb'=>hF b' (bW _ hb')) (by omega) (λc' a1 a2 p' R' hp hb x hx y' hy=>by
      cases hr:iY (sub q c') y' with
      |false=>rfl
      |true=>
       obtain⟨c2,hc2,e2,hx2⟩:=h.Jl hp hb hx hy hr
       obtain⟨e3,e4⟩:=Me (by omega) hc2 e2
       subst e3;subst e4
       rw[hR]at hp;cases hp
       rw[aX]at hx;subst hx
       rw[xL,bX,au]at hx2
       obtain⟨_,_,rfl⟩:=hx2
       cases hr)
     have hnS:∀p,p<1000->¬∃c',0<=c'/\c'<0+y.cells.length/\p=sub q c':=λp hp ⟨c',_,_,e⟩=>by have:=Pe q c';omega
     have hR1:=hst.b q _ (hnS q hq1000) hR rfl
     have hρ1:=(hst.ρ q (hnS q hq1000)).trans hρ
     have hlv:=hcr.length
     have hna:∀y∈cs,∀l,y≠ .agg l:=λy' hy'=>by obtain⟨c,hc⟩:=ff.1 hy';(have hcl':c<vs.length:=by(rcases bH c cs.length with h|h);(·omega);·simp[bB h]at hc);exact(hall c vs[c] y' (by simp) hc).agJ
     have hrc:(eX y cs).cells=cs:=jW hle hna
     have h2:=h1.aq5 (R':=⟨ar,z,[eX y cs]⟩) hR1 hρ1 ⟨rfl,rfl,rfl⟩ (.box b o z _ vs hρ1 (by rw[hrc,hle,hz]) hq1000 (by rw[hrc,hle,hlv]) (λc u y' hu hy'=>by
      have:=hall c u y' hu (by rw[hrc]at hy';exact hy')
      rw[c8]at this
      exact this.aD) hcl hrm)
     have hfr2:∀b',iK w0 L E1 s ev w' b'->iK w0 L E1 (s.aD q (ae ⟨ar,z,[eX y cs]⟩)) ev w' b':=λb' hf=>⟨hf.z,λq' b2 o' a1 a2=>hf.r q' b2 o' (by
      by_cases e:q'=q
      ·subst e;rw[hR1];rfl
      ·simpa[St.aD,e]using a1) a2,hf.t⟩
     obtain⟨E2,h3,hok2,hfr3⟩:=HW h2 hok (t.imp λq' hq' z' x' hr'=>by
      have hne:q'≠q:=λe=>hq (e▸hq')
      have hq'1000:q'<1000:=by cases h.roots q' _ hr';assumption
      refine⟨?_,hst.ρ q' (hnS q' hq'1000)⟩
      simp only[St.aD,hne,aH]
      exact hst.b q' _ (hnS q' hq'1000) hr' rfl) n2 (λb' hb'=>hfr2 b' (hfr b' (λhm=>n3 b' hm b' hb' rfl) (hF b' (aS _ hb')))) ht
     exact⟨E2,h3,hok2,λb' hb' hf=>hfr3 b' (λhm=>hb' (aS _ hm)) (hfr2 b' (hfr b' (λhm=>hb' (bW _ hm)) hf))⟩
   ·cases ht
end
end Go.Ab
namespace Go.Ab
section
variable {P:Program} {φ:Nat->Nat} {w0:World} {L:kU} {E E':Env} {st st':St} {ev ev':Nat->Value} {w w':World} {r r':Nat->Option dF} {a:Act}
def evL(ev:Nat->Value)(vs:List Value):Nat->Value:=λi=>if gs<=i then(vs[i-gs]?).getD undef else ev i
def cI.lay(h:cI φ w0 L E st ev w){vs:List Value}{xs:List A}(hv:fE (λv x=>RV φ E st.r w v x/\∀k b,Tk v x k b->∃i,Tk (ev i) (st.t i) k b) vs xs):cI φ w0 L E (st.lay xs) (evL ev vs) w:=
 h.k9 (λ_ _ h=>h) (λj=>by
  simp only[St.lay,evL]
  split
  ·cases hx:xs[j-gs]? with
   |none=>exact .one _ _ (.any _)
   |some x=>
    obtain⟨v,hv',h1⟩:=hv.get hx
    rw[hv']
    exact h1.1
  ·exact h.iZ j) (λj k b ht=>by
  simp only[St.lay,evL]at ht
  split at ht
  ·cases hx:xs[j-gs]? with
   |none=>rw[hx]at ht;exact(yH _ _ ht).elim
   |some x=>
    obtain⟨v,hv',h1⟩:=hv.get hx
    rw[hx,hv']at ht
    exact h1.2 k b ht
  ·exact⟨j,ht⟩)
def cI.axE{vs:List Value}(h:cI φ w0 L E st (evL ev vs) w):cI φ w0 L E (st.lay []) ev w:=
 h.k9 (λ_ _ h=>h) (λj=>by
  simp only[St.lay]
  split
  ·exact .one _ _ (.any _)
  ·rename_i hj
   have:=h.iZ j
   simpa[evL,hj]using this) (λj k b ht=>by
  simp only[St.lay]at ht
  split at ht
  ·exact(yH _ _ ht).elim
  ·rename_i hj
   exact⟨j,by simpa[evL,hj]using ht⟩)
def cI.auJ(h:cI φ w0 L E st ev w){i:Nat}{x:A}(hv:RV φ E st.r w (ev i) x)(hn:∀k b,¬Tk (ev i) x k b):cI φ w0 L E (st.aV i x) ev w:=
 h.k9 (λ_ _ h=>h) (λj=>by
  simp only[St.aV]
  split
  ·rename_i e;rw[e];exact hv
  ·exact h.iZ j) (λj k b ht=>by
  simp only[St.aV]at ht
  split at ht
  ·rename_i e;rw[e]at ht;exact(hn k b ht).elim
  ·exact⟨j,ht⟩)
def cI.agM(h:cI φ w0 L E st ev w)(d:Nat):∀p' R',st.r p'=ae R'->R'.b=ar->∀x∈R'.xs,∀y∈x.cells,iY (lN d) y=aw:=λp' R' hp hb x hx y hy=>by cases hr:iY (lN d) y with|false=>rfl|true=>obtain⟨c,hc,e,_⟩:=h.Jl hp hb hx hy hr;(have hp':p'<1000:=by cases h.roots p' R' hp with|empty=>cases hb|sl=>cases hb|box b o z e vs hρ hz hlt=>exact hlt);simp only[lN,sub]at e;omega
def kU.lN{L:kU}{d:Nat}:L.pl (Ab.lN d)=ai:=by cases h:L.pl (Ab.lN d)with|none=>rfl|some p=>have:=L.lt _ _ h;simp only[Ab.lN]at this;omega
def cI.Dn(h:cI φ w0 L E st ev w)(j:Nat):∃E',cI φ w0 L E' (st.Dn j) ev w:=by
 unfold St.Dn;have hs:=h.iZ (gs+j);split;·rename_i k z xs e;rw[e]at hs;obtain⟨E1,h1,_,h2⟩:=h.ahb (q:=Ab.lN j) hs.PL (λb ht=>⟨gs+j,by rw[e];exact .one _ _ _ _ ht⟩) kU.lN (h.agM j);exact⟨E1,h1.auJ (.one _ _ h2) Ar⟩
 ·rename_i z e;rw[e]at hs;have e2:=hs.JY;have h1:=(h.kill (Ab.lN j)).CD (Ab.lN j);have h2:=h1.root (p:=ai) (R:=⟨aw,z,[]⟩) (by simp[St.aD]) (λi=>xr _ _) (h1.agM j) (λ_ _ e=>by cases e) (λp' e=>by rw[kU.lN]at e;cases e) (.empty z (by simp));rw[nZ]at h2;exact⟨_,h2.auJ (by rw[e2];exact .one _ _ (.kP ai _ 0 ⟨aw,z,[]⟩ (by simp[St.aD]) rfl (iW _))) Ar⟩
 ·exact⟨E,h⟩
def cI.fm:∀{n:Nat} {bs:List Bool} {j:Nat} {E:Env} {st st1:St},cI φ w0 L E st ev w->st.fm bs j n=ae st1->∃E',cI φ w0 L E' st1 ev w
 |0,bs,j,E,st,st1,h,hp=>by
  have:st1=st:=by cases bs with|nil=>simp[St.fm]at hp;exact hp.symm|cons b bs=>cases b<;>(simp[St.fm]at hp;exact hp.symm)
  subst this;exact⟨E,h⟩
 |n+1,[],j,E,st,st1,h,hp=>by
  simp only[St.fm]at hp
  obtain⟨s,hs,hp⟩:=ak.1 hp
  obtain⟨E1,h1,_⟩:=h.oh hs
  exact h1.fm hp
 |n+1,ar::bs,j,E,st,st1,h,hp=>by
  simp only[St.fm]at hp
  obtain⟨E1,h1⟩:=h.Dn j
  exact h1.fm hp
 |n+1,aw::bs,j,E,st,st1,h,hp=>by
  simp only[St.fm]at hp
  obtain⟨s,hs,hp⟩:=ak.1 hp
  obtain⟨E1,h1,_⟩:=h.oh hs
  exact h1.fm hp
section
variable {o:Oper} {next:Act->World->Prop} {Q:Exit->Act->World->Prop} {cf:CF} {io:Nat->List Bool}
def ara{v:Value}{x:A}(h:jr φ E r w v x)(hn:pF x=aw)(k b:Nat):¬Tk v x k b:=by intro ht;cases ht with|one _ _ _ _ ht=>cases ht;cases hn|sf=>(cases h with|data _ _ h=>cases h)|agg us zs j k b v' a' hv1 ha1 hk=>generalize hu:qj us.toArray=u at h;cases h with|data _ _ h1=>subst hu;exact absurd (.agg us zs j k b v' a' hv1 ha1 hk) (Tk.nW h1)
def aiz{d:Option Nat}{rs:List A}(he:CZ st d rs=ae st'): (∃z x i st3,rs=[.iB z [x]]/\d=ae i/\kN st i z x=ae st3/\st'=st3.put (ae i) (.loc i 0 0))\/(rs.any Q0=aw/\st'=st.put d (zS (d.getD 0) rs)):=by
 unfold CZ at he;split at he;·obtain⟨st3,ht3,rfl⟩:=au.1 he;exact .inl ⟨_,_,_,st3,rfl,rfl,ht3,rfl⟩
 ·split at he;·cases he
  ·rename_i hio;simp only[aq]at he;exact .inr ⟨by simpa using hio,he.symm⟩
def awd(h:lf φ w0 L E st a w)(hcf:CfG P φ w0 L cf){f:Operand}{args:Array Operand}{tys:Array TypeId}{f':bZ}{args':List bZ}(ho:o.op=.call ⟨.value f,args,tys⟩)(hf:bV φ f f'=ar) (ha:iU φ args.toList args'=ar) (hd:∀i,o.dst=ae i->i<a.tmps.size) (hdl:∀i,o.dst=ae i->L.pl i=ai) (he:bt cf io o.dst st (.call f' args')=ae st') (hn:∀E' v w',lf φ w0 L E' st' (a.put o.dst v) w'->next (a.put o.dst v) w'):o.wp P a w next Q:=by
 have hfv:=dz h hf;simp only[bt]at he;split at he
 ·rename_i g caps e1;rw[e1]at hfv;obtain⟨cv,hev,hcaps,hcn⟩:=hfv.1.ags;obtain⟨st1,hp,he⟩:=ak.1 he;obtain⟨⟨ls,qs,ns⟩,hl,he⟩:=ak.1 he;simp only at he;split at he
  ·rename_i hnd;(have hnd:ns.Nodup:=by simpa using hnd);obtain⟨ab,has,he⟩:=ak.1 he;obtain⟨⟨res,outs⟩,hres,he⟩:=ak.1 he;simp only at he;obtain⟨st2,hgb,he⟩:=ak.1 he;obtain⟨stB,hbl,hto⟩:=ak.1 hgb;have hall:fE (λv x=>RV φ E st.r w v x/\∀k b,Tk v x k b->∃i,Tk (a.eval (.tmp i)) (st.t i) k b) (args.toList.map a.eval++cv) (args'.map (bZ.v st)++caps):= (WX h ha).append ⟨hcaps.1,λj v x hv hx=>⟨.one _ _ (hcaps.2 j v x hv hx),λk b ht=>(ara (hcaps.2 j v x hv hx) (hcn x (bw hx)) k b ht).elim⟩⟩;generalize hvals:args.toList.map a.eval++cv=vals at hall;(have hN:args'.length+caps.length=vals.length:=by have:=hall.1;simp at this;omega);rw[hN]at hp hl has;obtain⟨E1,h1⟩:=(h.tocI.lay hall).fm hp;(have hxs:fE (RV φ E1 st1.r w) vals ((dL vals.length).map λj=>st1.t (gs+j)):=by refine⟨by simp,λj v x hv hx=> ?_⟩;simp only[bX,au]at hx;obtain⟨j',hj',rfl⟩:=hx;(have hjl:j<vals.length:=by(rcases bH j vals.length with h'|h');(·exact h');·simp[bB h']at hv);rw[List.getElem?_range hjl]at hj';simp only[aq]at hj';subst hj';have:=h1.iZ (gs+j);simp only[evL]at this;rw[aJ (by omega),show gs+j-gs=j from by omega,hv]at this;exact this);obtain⟨bs,hargs,hnb,hlo⟩:=agh h1 hxs hl has;obtain⟨hent,hok⟩:=hcf.1 g ab res outs hres;unfold zq;rw[ajq ho rfl hev hent,Oper.upon_enter];(have hvs:(args.map a.eval++cv.toArray)=vals.toArray:=by rw[<-hvals];apply Ri;simp);rw[hvs];(have hbs:∀b∈bs,¬E1.ok b/\Tv w0 L b/\b<w.heap.size:=λb hb=>by obtain⟨p,_,hlv,o',hρ⟩:=hnb.1 b hb;exact h1.rz p b o' hlv hρ);refine(hok w E1.ok vals bs hargs (hnb.2 hnd) (λb hb=>(hbs b hb).1) h1.UP (hcf.2.at h1 λ_ hb=>hb)).mono λe w' ⟨v,hev',hback⟩=> ?_;subst hev';obtain⟨rvs,K',rb,ob,rfl,hKK,hK',hrr,hout,hndb,hblk⟩:=hback.rest;obtain⟨em,hlo1,hem1,hem2⟩:=hlo hout;have hU:=h1.axE;obtain⟨g1,g2,g3,_,mb,fb,g5,g6,g7,g8,g9⟩:=anE h1 hback.room hlo1 (sti:=st1.lay []) hnd (λ_ _=>rfl) hbl;have hBt:stB={st1.lay []with r:=stB.r}:=by cases stB;simp only at g1;subst g1;rfl
   have W:Wm w0 L E1 ⟨K',E1.ρ⟩ (st1.lay []).r stB.r w w' (· ∈bs):={
    same:=λb hb hn=>hback.frame b hb hn
    size:=hback.grow,env:=hback.env,fr:=hback.fr,room:=hback.room,ρ:=rfl,ok:=hKK
    new:=λb hb=>by
     rcases hK' b hb with h1|h1|h1
     ·exact .inl h1
     ·exact .inr (.inl ⟨h1,bU (hbs b h1).2.2 hback.grow⟩)
     ·exact .inr (.inr h1)
    nok:=λb hb=>(hbs b hb).1
    ao2:=λb hb=>(hbs b hb).2.1
    sh:=λq R' hq=>by
     by_cases hm:q∈ns
     ·exact(g3 q R' hm hq).1
     ·rw[g2 q hm]at hq;exact⟨R',hq,rfl,rfl,rfl⟩}
   (have htkb:∀i k b,Tk (a.eval (.tmp i)) ((st1.lay []).t i) k b->b∉bs:=λi k b ht hb=>by obtain⟨p,_,hlv,o',hρ⟩:=hnb.1 b hb;exact(hU.tz i k b ht).2 p b o' hlv hρ rfl);(have hB:cI φ w0 L ⟨K',E1.ρ⟩ stB (λi=>a.eval (.tmp i)) w':=by rw[hBt];refine hU.back W htkb (λq b o' hlv hρ hb hk=> ?_) λq R' hq=> ?_;(·obtain⟨R',hR'⟩:=dq.1 hlv;by_cases hm:q∈ns;(·(rcases g6 q R' hm hR' with h5|h5);(·exact hem2 hnd q h5 b o' hρ hb);·exact(hblk b (aS _ (g7 b (h5 b o' hρ)))).1 hk);·rw[g2 q hm]at hR';obtain⟨p,hp',hlv2,o2,hρ2⟩:=hnb.1 b hb;exact h1.inj q p b o' b o2 (by rw[show st1.r q=ae R' from hR'];rfl) hlv2 hρ hρ2 (λe=>hm (e▸hp')) rfl);by_cases hm:q∈ns;(·exact .inr ((g3 q R' hm hq).2 _));·rw[g2 q hm]at hq;refine .inl ⟨hq,λb o' hρ hb=> ?_⟩;obtain⟨p,hp',hlv,o2,hρ2⟩:=hnb.1 b hb;exact h1.inj q p b o' b o2 (by rw[show st1.r q=ae R' from hq];rfl) hlv hρ hρ2 (λe=>hm (e▸hp')) rfl);obtain⟨n1,n2,n3⟩:=cZ.1 hndb;obtain⟨n4,n5⟩:=g9 n2;have hfresh:∀b,b∈rb++ob->(b∈rb\/b∈fb)->iK w0 L ⟨K',E1.ρ⟩ stB (λi=>a.eval (.tmp i)) w' b:=by intro b hb hb2;obtain⟨k1,k2,k3⟩:=hblk b hb;refine⟨⟨k1,?_,k2⟩,λq b' o' hlv hρ e=> ?_,λi k b' ht e=> ?_⟩;(·(rcases k3 with k3|k3);(·exact(hbs b k3).2.1);·exact .inl (dZ h.grow k3));(·subst e;obtain⟨R',hR'⟩:=dq.1 hlv;by_cases hm:q∈ns;(·obtain⟨R,hR,_⟩:=(g3 q R' hm hR').1;(have hql:(st1.r q).isSome=ar:=by rw[hR];rfl);(rcases g6 q R' hm hR' with h5|h5);(·have:=hem2 hnd q h5 b' o' hρ;(rcases k3 with k3|k3);(·exact this k3);·have:=(h1.rz q b' o' hql hρ).2.2;omega);·have hmb:=h5 b' o' hρ;(rcases hb2 with hb2|hb2);(·exact n3 _ hb2 _ (g7 _ hmb) rfl);·exact n5 _ hmb hb2);·(have hq1:st1.r q=ae R':=by have:=g2 q hm;rw[hR']at this;exact this.symm);(have hql:(st1.r q).isSome=ar:=by rw[hq1];rfl);(rcases k3 with k3|k3);(·obtain⟨p,hp',hlv',o2,hρ2⟩:=hnb.1 b' k3;exact h1.inj q p b' o' b' o2 hql hlv' hρ hρ2 (λe=>hm (e▸hp')) rfl);·have:=(h1.rz q b' o' hql hρ).2.2;omega);·subst e;(have ht2:Tk (a.eval (.tmp i)) ((st1.lay []).t i) k b':=by rw[<-g1];exact ht);(rcases k3 with k3|k3);(·exact htkb i k b' ht2 k3);·have:=(hU.tz i k b' ht2).1.2.2;omega
   obtain⟨E2,h2,hok2,hfr2⟩:=HW (K':=K') hB rfl g5 n4 (λb hb=>hfresh b (aS _ (g8 b hb)) (.inr hb)) hto;have hfrb:∀b∈rb,iK w0 L E2 st2 (λi=>a.eval (.tmp i)) w' b:=λb hb=>hfr2 b (λhm=>n3 b hb b (g8 b hm) rfl) (hfresh b (bW _ hb) (.inl hb));have hS2:lf φ w0 L E2 st2 a w':=⟨h2,h.yI⟩;rw[<-hok2]at hrr;(rcases aiz he with ⟨z,x,d,st3,hr1,hd1,ht3,hst⟩|⟨hio,hst⟩);(·subst hr1;subst hst;cases hrr with|cons v0 _ b0 vs0 _ bs0 hr0 ht0=>cases ht0;cases hr0 with|data _ hh=>cases hh|iB _ _ _ hbox=>obtain⟨E3,h3,_,hrv,_⟩:=h2.kN ht3 hbox (by simpa using n1) (λb hb=>hfrb b (by simpa using hb)) (λp' e=>by rw[hdl d hd1]at e;cases e);rw[hd1]at hn⊢;have hS3:lf φ w0 L E3 st3 a w':=⟨h3,h.yI⟩;exact hn E3 _ w' (hS3.put (hd d hd1) (.one _ _ hrv) ((DX.scalar Un).tok hS3)));·subst hst;have hlr:=amD (w0:=w0) (L:=L) (st:=st2) (a:=a) (E':=E2) hrr n1 (λb hb=>⟨(hfrb b hb).z,(hfrb b hb).r⟩) (λb hb=>(hfrb b hb).t) hio (λ_ _ _ hh=>hh) (λ_ _ _ _ _ hh=>hh) (λ_ _ _ _ hh=>hh) (o.dst.getD 0);exact hn E2 _ w' (hS2.aV hd hlr.1 hlr.2)
  ·cases he
 ·cases he
def ajD(hcf:CfG P φ w0 L cf)(h:lf φ w0 L E st a w){x:O}(hc:aqc P φ o.op x=ar)(hd:∀i,o.dst=ae i->i<a.tmps.size)(hdl:∀i,o.dst=ae i->L.pl i=ai)(he:bt cf io o.dst st x=ae st') (hn:∀E' v w',lf φ w0 L E' st' (a.put o.dst v) w'->next (a.put o.dst v) w'):o.wp P a w next Q:=by
 generalize hop:o.op=op at hc;unfold aqc at hc
 split at hc<;>(try(cases hc;done))<;>(try simp only[aj]at hc)<;>first
  |exact axK h hop hc hd hdl he hn
  |exact at3 h hop hc hd hdl he hn
  |exact axL h hop hc hd hdl he hn
  |exact axN h hop hc.1.1 hc.1.2 hc.2 hd he hn
  |exact ayG h hop hc.1.1 hc.1.2 hc.2 hd he hn
  |exact awd h hcf hop hc.1 hc.2 hd hdl he hn
  |(simp only[bt]at he;cases he;done)
  |skip
 ·obtain⟨⟨hnm,hz⟩,hp⟩:=hc;simp only[b9]at hnm;subst hnm;split at hz;·rename_i e ht;exact axM h hop ht hz hp hd he hn
  ·cases hz
 ·rename_i b args tys x';unfold Rq at hc
  split at hc<;>(try(cases hc;done))<;>(try simp only[aj]at hc)<;>first
   |(simp only[bt]at he;cases he;done)
   |skip
  rename_i hargs htys;obtain⟨⟨h1,h2⟩,h3⟩:=hc;split at h3;·rename_i e e2 ht hu;split at h3;(·rename_i i hi;simp only[aj,b9]at h3;obtain⟨⟨h4,h5⟩,h6⟩:=h3;split at h6;(·rename_i zv hzv;simp only[b9]at h6;rw[auB hargs,auB htys]at hop;exact axJ h hop h1 h2 ht hu hi h4 h5 hzv h6 hd he hn);·cases h6);·cases h3
  ·cases h3
end
end
end Go.Ab
namespace Go.Ab
def CH(q:Option Nat)(v:A):Prop:=(pure v=ar\/v=.any)\/∃p i c,q=ae p/\(v=.loc p i c\/v=.view p i c)
structure Var(q:Option Nat)(d:Option Nat)(st:St):Prop where
 lt:∀p,q=ae p->p<1000
 ne:∀p,q=ae p->d≠ae p
 b:∀p,q=ae p->∃R,st.r p=ae R/\R.b=ar
def UZ{a:A}(h:cr a=ar)(r:Nat):iY r a=aw:=by cases a<;>first|rfl|simp[cr]at h
def aja{a:A}(h:cr a=ar)(k:Nat):abu k a=aw:=by cases a<;>first|rfl|simp[cr]at h
def agI{f:A->A}{cs:List A}(h:∀c∈cs,f c=c):cs.map f=cs:=by induction cs with|nil=>rfl|cons c cs ih=>rw[aP,h c (by simp),ih λx hx=>h x (by simp[hx])]
def KH{f:A->A}(hf:∀a,cr a=ar->f a=a){v:A}(h:pure v=ar):cJ f v=v:=by
 cases v<;>first
  |(simp only[pure]at h;exact hf _ h)
  |(simp[pure,cr]at h;done)
  |skip
 ·rename_i cs;simp only[pure,aG]at h;simp only[cJ,agI λc hc=>hf c (h c hc)]
 ·rename_i g caps;simp only[pure,cr,qk]at h;subst h;rfl
def akO(r:Nat)(a:A)(h:cr a=ar):ju r a=a:=by simp[ju,UZ h]
def adT(k:Nat)(a:A)(h:cr a=ar):iS k a=a:=by simp[iS,aja h]
def ajQ(k:Nat)(a:A)(h:cr a=ar):zl k a=a:=by cases a<;>first|rfl|simp[cr]at h
def aht(r:Nat)(R:dF)(a:A)(h:cr a=ar):uN r R a=a:=by cases a<;>first|rfl|simp[cr]at h
section
variable {q d:Option Nat} {st:St} {v:A} {s:Nat}
def CH.kill(h:CH q v){r:Nat}(hr:∀p,q=ae p->r≠p):cJ (ju r) v=v:=by
 rcases h with (h|rfl)|⟨p,i,c,hq,rfl|rfl⟩
 ·exact KH (akO r) h
 ·rfl
 ·have:=hr p hq;have e:iY r (.loc p i c)=aw:=by simp only[iY,fj];exactλe=>this e.symm
  simp[cJ,ju,e]
 ·have:=hr p hq;have e:iY r (.view p i c)=aw:=by simp only[iY,fj];exactλe=>this e.symm
  simp[cJ,ju,e]
def CH.cX(h:CH q v)(k:Nat):cJ (iS k) v=v:=by
 rcases h with (h|rfl)|⟨p,i,c,hq,rfl|rfl⟩
 ·exact KH (adT k) h
 ·rfl
 ·rfl
 ·rfl
def CH.FR(h:CH q v)(k:Nat):Ab.FR k v=v:=by
 rcases h with (h|rfl)|⟨p,i,c,hq,rfl|rfl⟩
 ·exact KH (ajQ k) h
 ·rfl
 ·rfl
 ·rfl
def CH.zk(h:CH q v){r:Nat}(R:dF)(hr:∀p,q=ae p->r≠p):Ab.zk r R v=v:=by
 rcases h with (h|rfl)|⟨p,i,c,hq,rfl|rfl⟩
 ·exact KH (aht r R) h
 ·rfl
 ·have:=hr p hq;simp only[Ab.zk,cJ,uN];rw[aO (λe=>this e.symm)]
 ·have:=hr p hq;simp only[Ab.zk,cJ,uN];rw[aO (λe=>this e.symm)]
def mR{f:A->A}(h:f v=v):(st.aV s v).map f=(st.map f).aV s v:=by simp only[St.map,St.aV];congr 1;funext i;split<;>simp_all
def fq(r:Nat)(R:Option dF):(st.aV s v).aD r R=(st.aD r R).aV s v:=rfl
def vm:(st.aV s v).r=st.r:=rfl
def cR{i:Nat}(h:i≠s):(st.aV s v).t i=st.t i:=by simp[St.aV,h]
def l7{i:Nat}(u:A)(h:i≠s):(st.aV s v).aV i u=(st.aV i u).aV s v:=by
 simp only[St.aV];congr 1;funext j;by_cases h1:j=i
 ·by_cases h2:j=s;·omega
  ·subst h1;simp[h2]
 ·by_cases h2:j=s;·subst h2;simp[h1]
  ·simp[h1,h2]
def mz{d:Option Nat}(u:A)(h:d≠ae s):(st.aV s v).put d u=(st.put d u).aV s v:=by cases d with|none=>rfl|some i=>exact l7 u λe=>h (by rw[e])
def W3(st:St)(s:Nat):st.aV s (st.t s)=st:=by cases st;simp only[St.aV,St.mk.injEq,pe];funext i;split<;>simp_all
structure Rj(q:Option Nat)(s:Nat)(v:A)(st:St)(F:St->Option St):Prop where
 put:F (st.aV s v)=(F st).map (·.aV s v)
 fk:∀st',F st=ae st'->∀p,q=ae p->st'.r p=st.r p
def Var.Dm{st':St}(h:Var q d st)(hk:∀p,q=ae p->st'.r p=st.r p):Var q d st':=
 ⟨h.lt,h.ne,λp hp=>by rw[hk p hp];exact h.b p hp⟩
def ai2(hv:CH q v)(hV:Var q d st){i:Nat}(hi:i≠s)(j:Nat):Rj q s v st (·.pz i j):=by
 constructor
 ·show(st.aV s v).pz i j=(st.pz i j).map (·.aV s v);simp only[St.pz,cR hi,vm];split;·simp only[az];rw[mR (hv.FR _)]
  ·rename_i r off n hc
   cases hr:st.r r with
   |none=>rfl
   |some R=>
    simp only[af];cases hb:R.b
    ·simp only[ao,aH,az]
     rw[mR (hv.zk R λp hp e=>by
      obtain⟨R',h1,h2⟩:=hV.b p hp
      rw[<-e,hr]at h1;cases h1;rw[hb]at h2;cases h2),fq]
    ·rfl
  ·rfl
 ·intro st' h p hp;simp only[St.pz]at h;split at h;·cases h;rfl
  ·rename_i r off n hc;obtain⟨R,hr,h⟩:=ak.1 h;split at h;(·cases h);·rename_i hb;cases h;(have:p≠r:=λe=>by obtain⟨R',h1,h2⟩:=hV.b p hp;rw[e,hr]at h1;cases h1;exact hb h2);simp[St.aD,St.map,this]
  ·cases h;rfl
def A9{F G:St->Option St}(hF:Rj q s v st F)(hG:∀st',F st=ae st'->Rj q s v st' G):Rj q s v st (λx=>(F x).bind G):=by
 constructor;·show(F (st.aV s v)).bind G=((F st).bind G).map (·.aV s v);rw[hF.put];cases h:F st with|none=>rfl|some st'=>simp only[az,af];exact(hG st' h).put
 ·intro st' h p hp;obtain⟨s1,h1,h2⟩:=ak.1 h;rw[(hG s1 h1).fk _ h2 p hp,hF.fk _ h1 p hp]
def OQ(hv:CH q v)(hV:Var q d st){i:Nat}(hi:i≠s):∀n:Nat,Rj q s v st (·.oh i n)
 |0=>⟨rfl,λst' h p hp=>by cases h;rfl⟩
 |n+1=>A9 (OQ hv hV hi n) λst' h=>ai2 hv (hV.Dm ((OQ hv hV hi n).fk st' h)) hi n
def aiW(hv:CH q v)(hV:∀p,q=ae p->p<1002000)(hs:s<gs)(j:Nat):(st.aV s v).Dn j=(st.Dn j).aV s v/\∀p,q=ae p->(st.Dn j).r p=st.r p:=by
 have hne:gs+j≠s:=by omega
 have hk:∀p,q=ae p->lN j≠p:=λp hp e=>by have:=hV p hp;simp only[lN]at e;omega
 unfold St.Dn;rw[cR hne];split
 ·refine⟨?_,λp hp=> ?_⟩;·rw[St.cX,St.cX,mR (hv.cX _),St.kill,St.kill,mR (hv.kill hk),fq,l7 _ hne]
  ·have:=tN (hk p hp);simp[St.aV,St.aD,St.kill,St.cX,St.map,this]
 ·refine⟨?_,λp hp=> ?_⟩;·rw[St.kill,St.kill,mR (hv.kill hk),fq,l7 _ hne]
  ·have:=tN (hk p hp);simp[St.aV,St.aD,St.kill,St.map,this]
 ·exact⟨rfl,λ_ _=>rfl⟩
def Sv(hv:CH q v)(hs:s<gs):∀(n:Nat) (bs:List Bool) (j:Nat) {st:St},Var q d st->Rj q s v st (λx=>St.fm x bs j n)
 |0,bs,j,st,hV=>by
  have e:∀x:St,St.fm x bs j 0=ae x:=λx=>by cases bs with
   |nil=>rfl
   |cons b bs=>cases b<;>rfl
  exact⟨by simp only[e];rfl,λst' h p hp=>by rw[e]at h;cases h;rfl⟩
 |n+1,bs,j,st,hV=>by
  have hne:gs+j≠s:=by omega
  have key:Rj q s v st (λx=>(x.oh (gs+j) (x.t (gs+j)).cells.length).bind λst1=>St.fm st1 bs.tail (j+1) n):=by
   have h0:Rj q s v st (λx=>x.oh (gs+j) (x.t (gs+j)).cells.length):=
    ⟨by
      show(st.aV s v).oh (gs+j) ((st.aV s v).t (gs+j)).cells.length=_
      rw[cR hne];exact(OQ hv hV hne _).put,λst' h=>(OQ hv hV hne _).fk st' h⟩
   exact A9 h0 λst' h=>Sv hv hs n bs.tail (j+1) (hV.Dm (h0.fk st' h))
  cases bs with
  |nil=>exact key
  |cons b bs=>
   cases b with
   |false=>exact key
   |true=>
    obtain⟨h1,h2⟩:=aiW hv (λp hp=>by have:=hV.lt p hp;omega) hs j
    have h3:=Sv hv hs n bs (j+1) (hV.Dm h2)
    constructor
    ·show St.fm ((st.aV s v).Dn j) bs (j+1) n=_
     rw[h1];exact h3.put
    ·intro st' h p hp
     exact(h3.fk st' h p hp).trans (h2 p hp)
end
section
variable {q d:Option Nat} {st:St} {v:A} {s:Nat}
structure Shr(st st':St):Prop where
 r:∀i,st'.r i=st.r i\/st'.r i=ai\/(1002000<=i/\∃z xs,st'.r i=ae ⟨aw,z,xs⟩)
 loc:∀i p j c,st'.t i=.loc p j c->st.t i=.loc p j c
 view:∀i p o n,st'.t i=.view p o n->st.t i=.view p o n\/1002000<=p
def Shr.refl(st:St):Shr st st:=⟨λ_=>.inl rfl,λ_ _ _ _ h=>h,λ_ _ _ _ h=>.inl h⟩
def Shr.trans{a b c:St}(h:Shr a b)(h':Shr b c):Shr a c:=
 ⟨λi=>by
   rcases h'.r i with e|e|e
   ·rcases h.r i with e2|e2|⟨e2,z,xs,e3⟩
    ·exact .inl (e.trans e2)
    ·exact .inr (.inl (e.trans e2))
    ·exact .inr (.inr ⟨e2,z,xs,e.trans e3⟩)
   ·exact .inr (.inl e)
   ·exact .inr (.inr e),λi p j k e=>h.loc i p j k (h'.loc i p j k e),λi p j k e=>by
   rcases h'.view i p j k e with e|e
   ·exact h.view i p j k e
   ·exact .inr e⟩
def aiy{k:Nat}{a:A}{p j c:Nat}(h:cJ (ju k) a=.loc p j c):a=.loc p j c:=by cases a<;>simp only[cJ,ju]at h<;>first|exact h|(split at h<;>first|exact h|cases h)|cases h
def afc{k:Nat}{a:A}{p j c:Nat}(h:cJ (ju k) a=.view p j c):a=.view p j c:=by cases a<;>simp only[cJ,ju]at h<;>first|exact h|(split at h<;>first|exact h|cases h)|cases h
def aix{k:Nat}{a:A}{p j c:Nat}(h:cJ (iS k) a=.loc p j c):a=.loc p j c:=by cases a<;>simp only[cJ,iS]at h<;>first|exact h|(split at h<;>first|exact h|cases h)|cases h
def agC{k:Nat}{a:A}{p j c:Nat}(h:cJ (iS k) a=.view p j c):a=.view p j c:=by cases a<;>simp only[cJ,iS]at h<;>first|exact h|(split at h<;>first|exact h|cases h)|cases h
def aqS(st:St)(j:Nat):Shr st (st.Dn j):=by
 unfold St.Dn;split
 ·refine⟨λi=> ?_,λi p k c h=> ?_,λi p o n h=> ?_⟩;·simp only[St.aV,St.aD,St.kill,St.cX,St.map];split;(·rename_i e;exact .inr (.inr ⟨by rw[e];simp only[lN];omega,_,_,rfl⟩));·exact .inl rfl
  ·simp only[St.aV,St.aD,St.kill,St.cX,St.map]at h;split at h;(·cases h);·exact aix (aiy h)
  ·simp only[St.aV,St.aD,St.kill,St.cX,St.map]at h;split at h;(·cases h;exact .inr (by simp only[lN];omega));·exact .inl (agC (afc h))
 ·refine⟨λi=> ?_,λi p k c h=> ?_,λi p o n h=> ?_⟩;·simp only[St.aV,St.aD,St.kill,St.map];split;(·rename_i e;exact .inr (.inr ⟨by rw[e];simp only[lN];omega,_,_,rfl⟩));·exact .inl rfl
  ·simp only[St.aV,St.aD,St.kill,St.map]at h;split at h;(·cases h);·exact aiy h
  ·simp only[St.aV,St.aD,St.kill,St.map]at h;split at h;(·cases h;exact .inr (by simp only[lN];omega));·exact .inl (afc h)
 ·exact .refl _
def aoN{k:Nat}{a:A}{p j c:Nat}(h:FR k a=.loc p j c):a=.loc p j c:=by cases a<;>simp only[FR,cJ,zl]at h<;>first|exact h|(split at h<;>cases h)|cases h
def alN{k:Nat}{a:A}{p j c:Nat}(h:FR k a=.view p j c):a=.view p j c:=by cases a<;>simp only[FR,cJ,zl]at h<;>first|exact h|(split at h<;>cases h)|cases h
def alM{k:Nat}{R:dF}{a:A}{p j c:Nat}(h:zk k R a=.loc p j c):a=.loc p j c:=by cases a<;>simp only[zk,cJ,uN]at h<;>first|exact h|(split at h<;>first|exact h|cases h)|cases h
def ajP{k:Nat}{R:dF}{a:A}{p j c:Nat}(h:zk k R a=.view p j c):a=.view p j c:=by cases a<;>simp only[zk,cJ,uN]at h<;>first|exact h|(split at h<;>first|exact h|cases h)|cases h
def aqV{i j:Nat}{st':St}(h:st.pz i j=ae st'):Shr st st':=by
 simp only[St.pz]at h;split at h;·cases h;exact⟨λ_=>.inl rfl,λ_ _ _ _ h=>aoN h,λ_ _ _ _ h=>.inl (alN h)⟩
 ·obtain⟨R,hr,h⟩:=ak.1 h;split at h;·cases h
  ·cases h;refine⟨λi=> ?_,λ_ _ _ _ h=>alM h,λ_ _ _ _ h=>.inl (ajP h)⟩;simp only[St.aD,St.map];split;(·exact .inr (.inl rfl));·exact .inl rfl
 ·cases h;exact .refl _
def ai3{i:Nat}:∀{n:Nat} {st':St},st.oh i n=ae st'->Shr st st'
 |0,st',h=>by cases h;exact .refl _
 |n+1,st',h=>by
  obtain⟨s1,h1,h2⟩:=ak.1 h
  exact(ai3 h1).trans (aqV h2)
def LI:∀{n:Nat} {bs:List Bool} {j:Nat} {st st':St},St.fm st bs j n=ae st'->Shr st st'
 |0,bs,j,st,st',h=>by
  cases bs with
  |nil=>cases h;exact .refl _
  |cons b bs=>cases b<;>(cases h;exact .refl _)
 |n+1,bs,j,st,st',h=>by
  have key:∀l:List Bool,((st.oh (gs+j) (st.t (gs+j)).cells.length).bind λst1=>St.fm st1 l (j+1) n)=ae st'->Shr st st':=λl h=>by obtain⟨s1,h1,h2⟩:=ak.1 h;exact(ai3 h1).trans (LI h2)
  cases bs with
  |nil=>exact key _ h
  |cons b bs=>
   cases b with
   |false=>exact key _ h
   |true=>exact(aqS st j).trans (LI (n:=n) (bs:=bs) h)
def H5(q:Option Nat)(i:Nat):Prop:=∀p,q=ae p->i≠p/\∀c,c<1000->sub i c≠p
def H5.lt{q:Option Nat}{i:Nat}(h:∀p,q=ae p->p<1000)(h':∀p,q=ae p->i≠p):H5 q i:=λp hp=>⟨h' p hp,λc _ e=>by have:=h p hp;unfold sub at e;omega⟩
def H5.big{q:Option Nat}{i:Nat}(h:∀p,q=ae p->p<1002000)(h':1002000<=i):H5 q i:=λp hp=>⟨λe=>by have:=h p hp;omega,λc _ e=>by have:=h p hp;unfold sub at e;omega⟩
def aoG(hv:CH q v){qq c:Nat}(hq:H5 q qq)(a:A):(MS qq c (st.aV s v) a)=(MS qq c st a).map (λx=>(x.1,x.2.aV s v))/\∀x st',MS qq c st a=ae (x,st')->∀p,q=ae p->st'.r p=st.r p:=by
 unfold MS;split
 ·split;·rename_i hc;have hsub:∀p,q=ae p->sub qq c≠p:=λp hp=>(hq p hp).2 c hc;refine⟨?_,λx st' h p hp=> ?_⟩;(·simp only[az,St.kill];rw[mR (hv.kill hsub),fq]);·cases h;have:=hsub p hp;simp[St.aD,St.kill,St.map,tN this]
  ·exact⟨rfl,λx st' h=>by cases h⟩
 ·split;·exact⟨rfl,λx st' h p hp=>by cases h;rfl⟩
  ·exact⟨rfl,λx st' h=>by cases h⟩
def Kt(hv:CH q v){qq:Nat}(hq:H5 q qq):∀(l:List A) (c:Nat) (st:St),(zi qq c (st.aV s v) l)=(zi qq c st l).map (λx=>(x.1,x.2.aV s v))/\∀x st',zi qq c st l=ae (x,st')->∀p,q=ae p->st'.r p=st.r p
 | [],c,st=>⟨rfl,λx st' h p hp=>by cases h;rfl⟩
 |a::l,c,st=>by
  have h1:=aoG (st:=st) (s:=s) hv (qq:=qq) (c:=c) hq a
  refine⟨?_,λx st' h p hp=> ?_⟩
  ·simp only[zi,h1.1]
   cases h:MS qq c st a with
   |none=>rfl
   |some y=>
    obtain⟨y,s1⟩:=y
    have h2:=Kt hv (qq:=qq) hq l (c+1) s1
    simp only[az,af,h2.1]
    cases zi qq (c+1) s1 l<;>rfl
  ·simp only[zi]at h
   obtain⟨⟨y,s1⟩,e1,h⟩:=ak.1 h
   obtain⟨⟨ys,s2⟩,e2,h⟩:=au.1 h
   cases h
   rw[(Kt hv (qq:=qq) hq l (c+1) s1).2 _ _ e2 p hp,h1.2 _ _ e1 p hp]
def ajL(hv:CH q v){z:Nat}{x:A}{qq:Nat}(hq:H5 q qq):Rj q s v st (λst=>kN st qq z x):=by
 have hk:∀p,q=ae p->qq≠p:=λp hp=>(hq p hp).1;constructor
 ·show kN (st.aV s v) qq z x=(kN st qq z x).map _;unfold kN;split;·have h2:=Kt (s:=s) hv (qq:=qq) hq x.cells 0 ((st.kill qq).aD qq ai);simp only[St.kill]at h2⊢;rw[mR (hv.kill hk),fq,h2.1];cases zi qq 0 ((st.map (cJ (ju qq))).aD qq ai) x.cells with|none=>rfl|some y=>simp only[az];rw[mR (hv.kill hk),fq]
  ·rfl
 ·intro st' h p hp;simp only[kN]at h;split at h;·obtain⟨⟨y,s1⟩,e1,h⟩:=au.1 h;cases h;have:=(Kt (s:=s) hv (qq:=qq) hq x.cells 0 ((st.kill qq).aD qq ai)).2 _ _ e1 p hp;have hne:=tN (hk p hp);simp only[St.aD,St.kill,St.map,aO hne]at this⊢;exact this
  ·cases h
def Off(q:Option Nat)(r:Nat->Option dF)(qs:List Nat):Prop:=∀p,q=ae p->∀i∈qs,i≠p/\∀R x,r i=ae R->R.b=ar->R.xs=[x]->p∉x.cells.flatMap ga
def KG:∀(qs:List Nat) (l:List A) (st:St) (r0:Nat->Option dF),qs.Nodup->Off q r0 qs->(∀i∈qs,st.r i=r0 i\/st.r i=ai)->Rj q s v st (λst=>mc st qs l)
 | [],[],st,r0,hn,ho,hr=>⟨rfl,λst' h p hp=>by cases h;rfl⟩
 | [],_::_,st,r0,hn,ho,hr=>⟨rfl,λst' h p hp=>by cases h⟩
 |i::qs,[],st,r0,hn,ho,hr=>⟨rfl,λst' h p hp=>by cases h⟩
 |i::qs,a::l,st,r0,hn,ho,hr=>by
  have hn2:=pd.1 hn
  have hother:∀j∈qs,j≠i:=λj hj e=>hn2.1 (e▸hj)
  have hoff:Off q r0 qs:=λp hp j hj=>ho p hp j (aL _ hj)
  have bad:(∀z x,a≠ .iB z [x])->(∀z xs,a≠ .lB z xs)->a≠ .any->∀st:St,mc st (i::qs) (a::l)=ai:=λh1 h2 h3 st=>by unfold mc;split;(·rename_i heq1 heq2;cases heq1);(·rename_i heq1 heq2;cases heq2;exact absurd rfl (h1 _ _));(·rename_i heq1 heq2;cases heq2;exact absurd rfl (h2 _ _));(·rename_i heq1 heq2;cases heq2;exact absurd rfl h3);·rfl
  by_cases h1:∃z x,a=.iB z [x]
  ·obtain⟨z,x,rfl⟩:=h1
   have ih:∀(x0:A),(st.r i=ae ⟨ar,((st.r i).getD default).z,[x0]⟩)->Rj q s v {st with r:=λk=>if k=i then ae ⟨ar,z,[eX x (x.cells.map λ_=>.any)]⟩else if(x0.cells.flatMap ga).contains k then ai else st.r k} (λst=>mc st qs l):=λx0 _=>
    KG qs l _ r0 hn2.2 hoff λj hj=>by have hne:=hother j hj;simp only[aO hne];split;(·exact .inr rfl);·exact hr j (aL _ hj)
   constructor
   ·show mc (st.aV s v) (i::qs) (.iB z [x]::l)=(mc st (i::qs) (.iB z [x]::l)).map _
    simp only[mc,vm]
    cases hi:st.r i with
    |none=>rfl
    |some R=>
     obtain⟨b,zz,xs⟩:=R
     simp only[af]
     cases b with
     |false=>rfl
     |true=>
      cases xs with
      |nil=>rfl
      |cons x0 xs=>
       cases xs with
       |nil=>exact(ih x0 (by rw[hi];rfl)).put
       |cons _ _=>rfl
   ·intro st' h p hp
    simp only[mc]at h
    obtain⟨⟨b,zz,xs⟩,hi,h⟩:=ak.1 h
    cases b with
    |false=>cases h
    |true=>
     cases xs with
     |nil=>cases h
     |cons x0 xs=>
      cases xs with
      |cons _ _=>cases h
      |nil=>
       have h3:=(ih x0 (by rw[hi];rfl)).fk _ h p hp
       obtain⟨h4,h5⟩:=ho p hp i (by simp)
       rcases hr i (by simp)with e|e
       ·have h6:=h5 _ x0 (e▸hi) rfl rfl
        rw[h3]
        have h7:¬p=i:=λe=>h4 e.symm
        simp only[aO h7]
        rw[aO (by simpa using h6)]
       ·rw[e]at hi;cases hi
  ·by_cases h2:∃z xs,a=.lB z xs
   ·obtain⟨z,xs,rfl⟩:=h2
    have ih:Rj q s v (st.aD i (ae ⟨aw,z,xs⟩)) (λst=>mc st qs l):=KG qs l _ r0 hn2.2 hoff λj hj=>by have hne:=hother j hj;simp only[St.aD,aO hne];exact hr j (aL _ hj)
    constructor
    ·exact ih.put
    ·intro st' h p hp
     have h3:=ih.fk _ h p hp
     rw[h3]
     have h4:¬p=i:=λe=>(ho p hp i (by simp)).1 e.symm
     simp[St.aD,h4]
   ·by_cases h3:a=.any
    ·subst h3
     have ih:Rj q s v (st.aD i ai) (λst=>mc st qs l):=KG qs l _ r0 hn2.2 hoff λj hj=>by have hne:=hother j hj;simp only[St.aD,aO hne];exact hr j (aL _ hj)
     constructor
     ·exact ih.put
     ·intro st' h p hp
      have h3:=ih.fk _ h p hp
      rw[h3]
      have h4:¬p=i:=λe=>(ho p hp i (by simp)).1 e.symm
      simp[St.aD,h4]
    have e:=bad (λz x e=>h1 ⟨z,x,e⟩) (λz xs e=>h2 ⟨z,xs,e⟩) h3
    exact⟨by rw[e,e];rfl,λst' h p hp=>by rw[e]at h;cases h⟩
def zh(hv:CH q v):∀(qs:List Nat) (l:List A) (st:St),(∀i∈qs,H5 q i)->(∀p,q=ae p->p∉qs)->Rj q s v st (λst=>iT st qs l)
 | [],[],st,hq,ho=>⟨rfl,λst' h p hp=>by cases h;rfl⟩
 | [],_::_,st,hq,ho=>⟨rfl,λst' h p hp=>by cases h⟩
 |i::qs,[],st,hq,ho=>⟨rfl,λst' h p hp=>by cases h⟩
 |i::qs,a::l,st,hq,ho=>by
  have hq2:∀j∈qs,H5 q j:=λj hj=>hq j (aL _ hj)
  have hqi:H5 q i:=hq i (by simp)
  have ho2:∀p,q=ae p->p∉qs:=λp hp hm=>ho p hp (aL _ hm)
  by_cases h1:∃z x,a=.iB z [x]
  ·obtain⟨z,x,rfl⟩:=h1
   have ht:=Kt (s:=s) hv (qq:=i) hqi x.cells 0 st
   constructor
   ·show iT (st.aV s v) (i::qs) (.iB z [x]::l)=(iT st (i::qs) (.iB z [x]::l)).map _
    simp only[iT]
    split
    ·rw[ht.1]
     cases zi i 0 st x.cells with
     |none=>rfl
     |some y=>exact(zh hv qs l (y.2.aD i (ae ⟨ar,z,[eX x y.1]⟩)) hq2 ho2).put
    ·rfl
   ·intro st' h p hp
    simp only[iT]at h
    split at h
    ·obtain⟨⟨cs,s1⟩,e1,h⟩:=ak.1 h
     have h3:=(zh hv qs l _ hq2 ho2).fk _ h p hp
     have h4:¬p=i:=λe=>ho p hp (by simp[e])
     rw[h3]
     simp only[St.aD,aO h4]
     exact ht.2 _ _ e1 p hp
    ·cases h
  ·by_cases h2:∃z xs,a=.lB z xs
   ·obtain⟨z,xs,rfl⟩:=h2
    exact zh hv qs l st hq2 ho2
   ·by_cases h3:a=.any
    ·subst h3
     exact zh hv qs l st hq2 ho2
    have e:∀st:St,iT st (i::qs) (a::l)=ai:=λst=>by unfold iT;split;(·rename_i heq1 heq2;cases heq1);(·rename_i heq1 heq2;cases heq2;exact absurd ⟨_,_,rfl⟩ h1);(·rename_i heq1 heq2;cases heq2;exact absurd ⟨_,_,rfl⟩ h2);(·rename_i heq1 heq2;cases heq2;exact absurd rfl h3);·rfl
    exact⟨by rw[e,e];rfl,λst' h p hp=>by rw[e]at h;cases h⟩
end
section
variable {q d:Option Nat} {st:St} {v:A} {s:Nat}
def aad(hs:s<gs)(vs:List A):(st.aV s v).lay vs=(st.lay vs).aV s v:=by
 simp only[St.lay,St.aV];congr 1;funext i;by_cases h1:gs<=i
 ·have:i≠s:=by omega
  simp[h1,this]
 ·simp[h1]
def Pu:∀(xs:List (Option A)) (l:List A),uQ (st.aV s v) xs l=uQ st xs l
 | [],[]=>rfl
 | [],_::_=>rfl
 |some x::xs,[]=>rfl
 |none::xs,[]=>rfl
 |some x::xs,_::l=>by simp only[uQ,Pu xs l]
 |none::xs,a::l=>by simp only[uQ,Pu xs l,vm]
def akT(a:A):E4 (st.aV s v) a=E4 st a:=by unfold E4;rfl
def JW:∀(bs:List Bool) (l:List A),mX (st.aV s v) bs l=mX st bs l
 |bs,[]=>by cases bs with
  |nil=>rfl
  |cons b bs=>cases b<;>rfl
 |true::bs,a::l=>by simp only[mX,JW bs l,akT,vm]
 |false::bs,a::l=>by simp only[mX,auq,JW bs l]
 | [],a::l=>by simp only[mX,avf,JW [] l]
def an5{a:A}{i:Nat}{x:A}(h:E4 st a=ae (i,x)):∃R,st.r i=ae R/\((a=.loc i 0 0/\R.b=ar)\/∃n,a=.view i 0 n/\R.b=aw):=by
 unfold E4 at h;split at h
 ·obtain⟨R,hr,h⟩:=ak.1 h;split at h;·rename_i hb hx;obtain⟨cs,_,h⟩:=au.1 h;cases h;exact⟨R,hr,.inl ⟨rfl,hb⟩⟩
  ·cases h
 ·obtain⟨R,hr,h⟩:=ak.1 h;split at h;·rename_i hc;cases h;exact⟨R,hr,.inr ⟨_,rfl,hc.2⟩⟩
  ·cases h
 ·cases h
def Ow:∀(bs:List Bool) (l:List A) {ls:List (Option A)} {qs ns:List Nat},mX st bs l=ae (ls,qs,ns)->ns.Nodup->qs.Nodup/\(∀i∈qs,i∈ns)/\∀i∈qs,∃a∈l,∃R,st.r i=ae R/\((a=.loc i 0 0/\R.b=ar)\/∃n,a=.view i 0 n/\R.b=aw)
 |bs,[],ls,qs,ns,h,hn=>by
  have:qs=[]:=by cases bs with|nil=>cases h;rfl|cons b bs=>cases b<;>(cases h;rfl)
  subst this;exact⟨by simp,by simp,by simp⟩
 |true::bs,a::l,ls,qs,ns,h,hn=>by
  simp only[mX]at h
  obtain⟨⟨i,x⟩,e1,h⟩:=ak.1 h
  obtain⟨⟨xs,qs',ns'⟩,e2,h⟩:=au.1 h
  cases h
  obtain⟨R,hR,hk⟩:=an5 e1
  have hmem:i∈names st.r a:=by rcases hk with ⟨rfl,_⟩|⟨n,rfl,_⟩<;>simp[names,yG]
  have hn':=cZ.1 hn
  obtain⟨g1,g2,g3⟩:=Ow bs l e2 hn'.2.1
  refine⟨pd.2 ⟨λhm=>hn'.2.2 i hmem i (g2 i hm) rfl,g1⟩,λj hj=> ?_,λj hj=> ?_⟩
  ·rcases bl.1 hj with rfl|hj
   ·exact bW _ hmem
   ·exact aS _ (g2 j hj)
  ·rcases bl.1 hj with rfl|hj
   ·exact⟨a,by simp,R,hR,hk⟩
   ·obtain⟨b,hb,k⟩:=g3 j hj
    exact⟨b,aL _ hb,k⟩
 |false::bs,a::l,ls,qs,ns,h,hn=>by
  simp only[mX,auq]at h
  obtain⟨⟨xs,qs',ns'⟩,e2,h⟩:=au.1 h
  cases h
  obtain⟨g1,g2,g3⟩:=Ow bs l e2 hn
  exact⟨g1,g2,λj hj=>by obtain⟨b,hb,k⟩:=g3 j hj;exact⟨b,aL _ hb,k⟩⟩
 | [],a::l,ls,qs,ns,h,hn=>by
   simp only[mX,avf]at h
   obtain⟨⟨xs,qs',ns'⟩,e2,h⟩:=au.1 h
   cases h
   obtain⟨g1,g2,g3⟩:=Ow [] l e2 hn
   exact⟨g1,g2,λj hj=>by obtain⟨b,hb,k⟩:=g3 j hj;exact⟨b,aL _ hb,k⟩⟩
def afd(hv:CH q v)(hF:∀i,d=ae i->H5 q i)(hd:d≠ae s)(rs:List A):Rj q s v st (λst=>CZ st d rs):=by
 have other:(∀z x i,¬(rs=[.iB z [x]]/\d=ae i))->∀st:St,CZ st d rs=if rs.any Q0 then ai else ae (st.put d (zS (d.getD 0) rs)):=λh st=>by unfold CZ;split;(·exact absurd ⟨rfl,rfl⟩ (h _ _ _));·rfl
 by_cases h1:∃z x i,rs=[.iB z [x]]/\d=ae i
 ·obtain⟨z,x,i,rfl,rfl⟩:=h1;have ht:=ajL (s:=s) (st:=st) (z:=z) (x:=x) hv (hF i rfl);have hne:i≠s:=λe=>hd (by rw[e]);constructor;·show((kN (st.aV s v) i z x).map λst1=>st1.put (ae i) (.loc i 0 0))=((kN st i z x).map λst1=>st1.put (ae i) (.loc i 0 0)).map _;have hp:=ht.put;rw[show kN (st.aV s v) i z x=_ from hp];cases kN st i z x with|none=>rfl|some y=>simp only[az];rw[mz _ hd]
  ·intro st' h p hp;obtain⟨y,e1,h⟩:=au.1 (show((kN st i z x).map λst1=>st1.put (ae i) (.loc i 0 0))=ae st' from h);cases h;exact ht.fk y e1 p hp
 ·have e:=other λz x i h=>h1 ⟨z,x,i,h⟩;constructor;·show CZ (st.aV s v) d rs=(CZ st d rs).map _;rw[e,e];split;(·rfl);·simp only[az];rw[mz _ hd]
  ·intro st' h p hp;simp only[e]at h;split at h;(·cases h);·cases h;cases d<;>rfl
def TI(hv:CH q v){qs:List Nat}(hq:∀i∈qs,H5 q i)(hn:qs.Nodup)(ho:Off q st.r qs)(os:List A):Rj q s v st (λst=>Ec st qs os):=
 A9 (KG qs os st st.r hn ho λi _=>.inl rfl) λst' _=>zh hv qs os st' hq λp hp hm=>(ho p hp p hm).1 rfl
def akP{vs:List A}{j:Nat}{a:A}(h:(st.lay vs).t (gs+j)=a)(ha:a≠ .any):a∈vs:=by simp only[St.lay]at h;rw[aJ (by omega),show gs+j-gs=j by omega]at h;cases hj:vs[j]? with|none=>rw[hj]at h;exact absurd h.symm ha|some b=>rw[hj]at h;simp at h;subst h;exact bw hj
def ap9{cf:CF}{io:Nat->List Bool}(hv:CH q v)(hs:s<gs)(hV:Var q d st){f:bZ}{args:List bZ}(hf:f.v (st.aV s v)=f.v st)(ha:args.map (bZ.v (st.aV s v))=args.map (bZ.v st))(hd:d≠ae s) (ht:∀p,q=ae p->p∉iw st (.call f args)):Rj q s v st (λst=>bt cf io d st (.call f args)):=by
 let G:Nat->Nat->St->Option St:=λg n st1=>
  let vs:=(dL n).map λj=>st1.t (gs+j)
  (mX st1 (io g) vs).bind λ(ls,qs,ns)=>
    if decide ns.Nodup then
     (uQ {st1 with r:=less st1.r ns} ls vs).bind λab=>(cf g ab).bind λ(res,outs)=>
       (Ec (st1.lay []) qs outs).bind λst2=>CZ st2 d res
    else ai
 cases hfv:f.v st with
 |fn g caps=>
  have e:∀x:St,f.v x=.fn g caps->bt cf io d x (.call f args)=((x.lay (args.map (bZ.v x)++caps)).fm (io g) 0 (args.length+caps.length)).bind (G g (args.length+caps.length)):=λx hx=>by simp only[bt,hx];rfl
  have hVl:Var q d (st.lay (args.map (bZ.v st)++caps)):=⟨hV.lt,hV.ne,hV.b⟩;have h1:=Sv hv hs (args.length+caps.length) (io g) 0 hVl
  have hG:∀st1,(st.lay (args.map (bZ.v st)++caps)).fm (io g) 0 (args.length+caps.length)=ae st1->Rj q s v st1 (G g (args.length+caps.length)):=λst1 hp=>by
   have hV1:Var q d st1:=hVl.Dm (h1.fk st1 hp);have hshr:=LI hp;have hvs:((dL (args.length+caps.length)).map λj=>(st1.aV s v).t (gs+j))=(dL (args.length+caps.length)).map λj=>st1.t (gs+j):= nw λj _=>cR (by omega)
   have hB:∀(ls:List (Option A)) (qs ns:List Nat),mX st1 (io g) ((dL (args.length+caps.length)).map λj=>st1.t (gs+j))=ae (ls,qs,ns)->ns.Nodup->∀res outs:List A,
    Rj q s v (st1.lay []) (λx=>(Ec x qs outs).bind λst2=>CZ st2 d res):=λls qs ns hl hn res outs=>by
    obtain⟨g1,g2,g3⟩:=Ow _ _ hl hn
    have ho:Off q (st1.lay []).r qs:=λp hp i hi=>by
     obtain⟨a,ham,R,hR,hk⟩:=g3 i hi
     obtain⟨j,_,rfl⟩:=dK.1 ham
     have hRr:st.r i=ae R\/(1002000<=i/\R.b=aw):=by
      rcases hshr.r i with e|e|⟨e,z,xs,e2⟩
      ·exact .inl (e.symm.trans hR)
      ·rw[e]at hR;cases hR
      ·exact .inr ⟨e,by rw[e2]at hR;cases hR;rfl⟩
     have hin:∀a0:A,a0≠ .any->(st.lay (args.map (bZ.v st)++caps)).t (gs+j)=a0->∀m∈names st.r a0,m∈iw st (.call f args):=λa0 hne e m hm=>by
      have:=akP e hne
      simp only[iw,hfv]
      rcases aU.1 this with h'|h'
      ·exact bW _ (jq.2 ⟨a0,h',hm⟩)
      ·exact aS _ (jq.2 ⟨a0,h',hm⟩)
     rcases hk with ⟨e,hb⟩|⟨n,e,hb⟩
     ·have e0:=hin _ (by intro e;cases e) (hshr.loc _ _ _ _ e)
      refine⟨λe'=>ht p hp (e0 p (by simp[names,yG,e'])),λR' x h2 _ h3 hm=>ht p hp (e0 p ?_)⟩
      have h2:st1.r i=ae R':=h2
      rw[hR]at h2;cases h2
      have hRr:st.r i=ae R:=by
       rcases hRr with h|⟨_,h⟩
       ·exact h
       ·rw[hb]at h;cases h
      simp only[names,yG,hRr,h3,cg,List.flatMap_nil,bS]
      exact aL _ hm
     ·refine⟨λe'=> ?_,λR' x h2 h4 h3 hm=> ?_⟩
      ·rcases hshr.view _ _ _ _ e with e1|e1
       ·have e0:=hin _ (by intro e;cases e) e1
        exact ht p hp (e0 p (by simp[names,yG,e']))
       ·have:=hV.lt p hp;omega
      have h2:st1.r i=ae R':=h2
      rw[hR]at h2;cases h2
      rw[hb]at h4;cases h4
    have hg:=TI (s:=s) hv (λi hi=>H5.lt hV1.lt λp hp=>(ho p hp i hi).1) g1 ho outs
    exact A9 hg λst' h'=>afd hv (λi hi=>H5.lt hV1.lt λp hp e=>hV1.ne p hp (by rw[hi,e])) hd res
   constructor;(·show G g (args.length+caps.length) (st1.aV s v)=(G g (args.length+caps.length) st1).map _;simp only[G,hvs,JW];cases hl:mX st1 (io g) ((dL (args.length+caps.length)).map λj=>st1.t (gs+j))with|none=>rfl|some y=>obtain⟨ls,qs,ns⟩:=y;simp only[af];by_cases hn:ns.Nodup;(·simp only[hn,aB,aC];have ea:uQ {(st1.aV s v)with r:=less (st1.aV s v).r ns} ls ((dL (args.length+caps.length)).map λj=>st1.t (gs+j))=uQ {st1 with r:=less st1.r ns} ls ((dL (args.length+caps.length)).map λj=>st1.t (gs+j)):= Pu (st:={st1 with r:=less st1.r ns}) _ _;rw[ea];cases uQ {st1 with r:=less st1.r ns} ls ((dL (args.length+caps.length)).map λj=>st1.t (gs+j))with|none=>rfl|some ab=>simp only[af];cases cf g ab with|none=>rfl|some y=>simp only[af,aad hs];exact(hB ls qs ns hl hn y.1 y.2).put);·simp only[hn,aW,ao,aH];rfl);·intro st' h p hp;simp only[G]at h;obtain⟨⟨ls,qs,ns⟩,hl,h⟩:=ak.1 h;simp only at h;split at h;(·rename_i hn;obtain⟨ab,_,h⟩:=ak.1 h;obtain⟨⟨res,outs⟩,_,h⟩:=ak.1 h;exact(hB ls qs ns hl (by simpa using hn) res outs).fk st' h p hp);·cases h
  have h2:=A9 h1 hG;constructor;·show bt cf io d (st.aV s v) (.call f args)=(bt cf io d st (.call f args)).map _;rw[e st hfv,e (st.aV s v) (hf.trans hfv),ha,aad hs];exact h2.put
  ·intro st' h p hp;have h:bt cf io d st (.call f args)=ae st':=h;rw[e st hfv]at h;exact h2.fk st' h p hp
 |_=>
  have e:∀x:St,f.v x=f.v st->bt cf io d x (.call f args)=ai:=λx hx=>by simp only[bt,hx,hfv]
  exact⟨by rw[e _ hf,e _ rfl];rfl,λst' h=>by rw[e _ rfl]at h;cases h⟩
def anC{cf:CF}{io:Nat->List Bool}{i:Nat}(hv:cJ (ju i) v=v){z:Nat}{zero:A}(hd:(ae i:Option Nat)≠ae s):bt cf io (ae i) (st.aV s v) (.alloc z zero)=(bt cf io (ae i) st (.alloc z zero)).map (·.aV s v):=by
 simp only[bt];split;·simp only[az,St.kill];rw[mR hv,fq,mz _ hd]
 ·rfl
def anB{cf:CF}{io:Nat->List Bool}(hv:CH q v)(hne:∀p,q=ae p->d≠ae p){z:Nat}{zero:A}(hd:d≠ae s):Rj q s v st (λst=>bt cf io d st (.alloc z zero)):=by cases d with|none=>exact⟨rfl,λst' h=>by cases h⟩|some i=>have hk:∀p,q=ae p->i≠p:=λp hp e=>hne p hp (by rw[e]);constructor;(·show bt cf io (ae i) (st.aV s v) (.alloc z zero)=(bt cf io (ae i) st (.alloc z zero)).map _;simp only[bt];split;(·simp only[az,St.kill];rw[mR (hv.kill hk),fq,mz _ hd]);·rfl);·intro st' h p hp;simp only[bt]at h;split at h;(·cases h;have:=tN (hk p hp);simp[St.put,St.aD,St.kill,St.map,this]);·cases h
end
section
variable {q d:Option Nat} {st:St} {v:A} {s:Nat}
def ahV(hv:CH q v)(hs:s<gs)(hV:Var q d st){qq c j:Nat}:(St.kx (st.aV s v) qq c j)=(St.kx st qq c j).map (λx=>(x.1,x.2.aV s v))/\∀x st',St.kx st qq c j=ae (x,st')->∀p,q=ae p->st'.r p=st.r p:=by
 have hne:gs≠s:=by omega
 have hsub:∀p,q=ae p->∀c,sub qq c≠p:=λp hp c e=>by have:=hV.lt p hp;unfold sub at e;omega
 have hp1:=ai2 hv hV hne j;unfold St.kx;rw[cR hne];split
 ·split;·refine⟨?_,λx st' h p hp=> ?_⟩;(·simp only[az,St.kill,St.cX];rw[mR (hv.cX _),mR (hv.kill λp hp=>hsub p hp _),fq]);·cases h;have:=hsub p hp (c+j);simp[St.aD,St.kill,St.cX,St.map,tN this]
  ·exact⟨rfl,λx st' h=>by cases h⟩
 ·rename_i r off n hc;by_cases hcd:r=sub qq (c+j)/\c+j<1000/\(st.r r).isSome=ar;·have hcd':r=sub qq (c+j)/\c+j<1000/\((st.aV s v).r r).isSome=ar:=hcd;rw[aJ hcd',aJ hcd];exact⟨rfl,λx st' h p hp=>by cases h;rfl⟩
  ·have hcd':¬(r=sub qq (c+j)/\c+j<1000/\((st.aV s v).r r).isSome=ar):=hcd;rw[aO hcd',aO hcd];refine⟨?_,λx st' h p hp=> ?_⟩;(·rw[show(st.aV s v).pz gs j=(st.pz gs j).map (·.aV s v)from hp1.put];cases st.pz gs j with|none=>rfl|some s1=>simp only[az,af,cR hne];split<;>rfl);·obtain⟨s1,e1,h⟩:=ak.1 h;split at h;(·cases h;exact hp1.fk _ e1 p hp);·cases h
 ·exact⟨rfl,λx st' h p hp=>by cases h;rfl⟩
 ·split;·exact⟨rfl,λx st' h p hp=>by cases h;rfl⟩
  ·exact⟨rfl,λx st' h=>by cases h⟩
def A8(hv:CH q v)(hs:s<gs){qq c:Nat}:∀(n j:Nat) {st:St},Var q d st->(St.fh (st.aV s v) qq c j n)=(St.fh st qq c j n).map (λx=>(x.1,x.2.aV s v))/\∀x st',St.fh st qq c j n=ae (x,st')->∀p,q=ae p->st'.r p=st.r p
 |0,j,st,hV=>⟨rfl,λx st' h p hp=>by cases h;rfl⟩
 |n+1,j,st,hV=>by
  have h1:=ahV hv hs hV (qq:=qq) (c:=c) (j:=j)
  refine⟨?_,λx st' h p hp=> ?_⟩
  ·simp only[St.fh,h1.1]
   cases h:St.kx st qq c j with
   |none=>rfl
   |some y=>
    obtain⟨y,s1⟩:=y
    have h2:=A8 hv hs (qq:=qq) (c:=c) n (j+1) (hV.Dm (h1.2 _ _ h))
    simp only[az,af,h2.1]
    cases St.fh s1 qq c (j+1) n<;>rfl
  ·simp only[St.fh]at h
   obtain⟨⟨y,s1⟩,e1,h⟩:=ak.1 h
   obtain⟨⟨ys,s2⟩,e2,h⟩:=au.1 h
   cases h
   rw[(A8 hv hs (qq:=qq) (c:=c) n (j+1) (hV.Dm (h1.2 _ _ e1))).2 _ _ e2 p hp,h1.2 _ _ e1 p hp]
def ag0(hv:CH q v)(hs:s<gs)(hV:Var q d st)(x:A):St.QE (st.aV s v) x=(St.QE st x).map (λy=>(y.1,y.2.aV s v))/\∀y st',St.QE st x=ae (y,st')->∀p,q=ae p->st'.r p=st.r p:=by
 have hne:gs≠s:=by omega
 have hVg:Var q d (st.aV gs x):=⟨hV.lt,hV.ne,hV.b⟩;have h1:=OQ hv hVg hne x.cells.length;unfold St.QE;refine⟨?_,λy st' h p hp=> ?_⟩;·rw[l7 x hne,show((st.aV gs x).aV s v).oh gs x.cells.length=_ from h1.put];cases(st.aV gs x).oh gs x.cells.length with|none=>rfl|some s1=>simp only[az,af,cR hne];cases dat (s1.t gs)with|none=>rfl|some u=>simp only[az,l7 A.any hne]
 ·obtain⟨s1,e1,h⟩:=ak.1 h;obtain⟨u,_,h⟩:=au.1 h;cases h;exact h1.fk _ e1 p hp
def aam{cf:CF}{io:Nat->List Bool}(hv:CH q v)(hs:s<gs)(hV:Var q d st){n:Nat}{a x:bZ}(ha:a.v (st.aV s v)=a.v st)(hx:x.v (st.aV s v)=x.v st)(hd:d≠ae s) (ht:∀p,q=ae p->p∉iw st (.rq n a x)):Rj q s v st (λst=>bt cf io d st (.rq n a x)):=by
 have hne:gs≠s:=by omega
 have key:∀r i c,a.v st=.loc r i c->∀p,q=ae p->r≠p:=λr i c e p hp e'=>ht p hp (by simp[iw,e,e']);have hVb:∀(r:Nat) (R:dF),(∀p,q=ae p->r≠p)->Var q d ((st.aV gs (x.v st)).aD r (ae R)):=λr R hr=> hV.Dm λp hp=>by simp[St.aD,St.aV,tN (hr p hp)]
 constructor
 ·show bt cf io d (st.aV s v) (.rq n a x)=(bt cf io d st (.rq n a x)).map _;simp only[bt,ha,hx];split;·split;(·rename_i r i c hav;have hr:=key r i c hav;cases hR:st.r r with|none=>rw[show(st.aV s v).r r=ai from hR];rfl|some R=>obtain⟨b,z,xs⟩:=R;rw[show(st.aV s v).r r=ae ⟨b,z,xs⟩from hR];simp only[af];split;(·rename_i e;by_cases hcd:r<1000/\c+n<=e.cells.length/\c+n<=1000/\(x.v st).cells.all (gj st.r)=ar;(·have hcd':r<1000/\c+n<=e.cells.length/\c+n<=1000/\(x.v st).cells.all (gj (st.aV s v).r)=ar:=hcd;rw[aJ hcd',aJ hcd,l7 _ hne,fq,(A8 hv hs n 0 (hVb r _ hr)).1];cases((st.aV gs (x.v st)).aD r (ae ⟨ar,z,[blank e c n]⟩)).fh r c 0 n with|none=>rfl|some y=>simp only[az];rw[l7 _ hne,fq,mz _ hd]);·have hcd':¬(r<1000/\c+n<=e.cells.length/\c+n<=1000/\(x.v st).cells.all (gj (st.aV s v).r)=ar):=hcd;rw[aO hcd',aO hcd];rfl);(·rw[(ag0 hv hs hV (x.v st)).1];cases st.QE (x.v st)with|none=>rfl|some y=>simp only[az,af,vm];by_cases hcd:y.1.cells.length=n;(·simp only[aJ hcd];cases y.2.r r with|none=>rfl|some R=>simp only[af];cases R.xs[i]? with|none=>rfl|some e=>simp only[af];cases setCells e.cells c y.1.cells with|none=>rfl|some cs=>simp only[az];rw[fq,mz _ hd]);·simp only[aO hcd];rfl);·rfl);·rfl
  ·rfl
 ·intro st' h p hp;have h:bt cf io d st (.rq n a x)=ae st':=h;simp only[bt]at h;split at h;·split at h;(·rename_i r i c hav;have hr:=key r i c hav;have hrp:¬p=r:=λe=>hr p hp e.symm;obtain⟨⟨b,z,xs⟩,hR,h⟩:=ak.1 h;simp only at h;split at h;(·rename_i e _;split at h;(·obtain⟨⟨cs,s1⟩,e1,h⟩:=au.1 h;cases h;have h2:=(A8 hv hs (s:=s) n 0 (hVb r _ hr)).2 _ _ e1 p hp;simp only[St.aD,St.aV,aO hrp]at h2;(have:(((s1.aV gs .any).aD r (ae ⟨ar,z,[eX e (e.cells.take c++cs++e.cells.drop (c+n))]⟩)).put d .any).r p=s1.r p:=by cases d<;>simp[St.put,St.aD,St.aV,hrp]);rw[this,h2]);·cases h);(·obtain⟨⟨u,s1⟩,e1,h⟩:=ak.1 h;simp only at h;split at h;(·obtain⟨R,_,h⟩:=ak.1 h;obtain⟨e,_,h⟩:=ak.1 h;obtain⟨cs,_,h⟩:=au.1 h;cases h;have h2:=(ag0 hv hs (s:=s) hV (x.v st)).2 _ _ e1 p hp;(have:∀X,((s1.aD r X).put d .any).r p=s1.r p:=λX=>by cases d<;>simp[St.put,St.aD,hrp]);rw[this,h2]);·cases h);·cases h);·cases h
  ·cases h
end
section
variable {q d:Option Nat} {st:St} {v:A} {s:Nat}
def asF{cf:CF}{io:Nat->List Bool}(hv:CH q v)(hV:Var q d st){x:bZ}(hx:x.v (st.aV s v)=x.v st)(hd:d≠ae s):Rj q s v st (λst=>bt cf io d st (.asg x)):=by
 have hk:∀i,d=ae i->∀p,q=ae p->i≠p:=λi hi p hp e=>hV.ne p hp (by rw[hi,e]);cases d with|none=>have e:∀y:St,bt cf io ai y (.asg x)=ae (y.put ai (x.v y)):=λy=>rfl;exact⟨by rw[e,e];rfl,λst' h p hp=>by rw[e]at h;cases h;rfl⟩|some i=>
 have hk:=hk i rfl;constructor
 ·show bt cf io (ae i) (st.aV s v) (.asg x)=(bt cf io (ae i) st (.asg x)).map _
  cases hxv:x.v st<;>simp only[bt,hx,hxv]<;>first
   |(simp only[az];rw[mz _ hd];done)
   |(split
     ·simp only[az,St.kill]
      rw[mR (hv.kill hk),fq,mz _ hd]
     ·rfl)
   |(split
     ·simp only[az,St.kill,St.cX]
      rw[mR (hv.cX _),mR (hv.kill hk),fq,mz _ hd]
     ·rfl)
 ·intro st' h p hp;have h:bt cf io (ae i) st (.asg x)=ae st':=h;have hn:=tN (hk p hp)
  cases hxv:x.v st<;>simp only[bt,hxv]at h<;>first
   |(cases h;rfl)
   |(split at h
     ·cases h;simp[St.put,St.aD,St.kill,St.cX,St.map,hn]
     ·cases h)
def HD{x:bZ}(h:s∉hY x):x.v (st.aV s v)=x.v st:=by cases x with|c a=>rfl|t i=>exact cR λe=>h (by simp[hY,e])
def VO(hv:CH q v)(hs:s<gs){z:Nat}:∀(l:List (Nat×bZ)) (xs:List A) {st:St},Var q d st->(∀p∈l,s∉hY p.2)->
 bt.xR (st.aV s v) z xs l=(bt.xR st z xs l).map (λy=>(y.1,y.2.aV s v))/\∀y st',bt.xR st z xs l=ae (y,st')->∀p,q=ae p->st'.r p=st.r p
 | [],xs,st,hV,hl=>⟨rfl,λy st' h p hp=>by cases h;rfl⟩
 |(i,x)::l,xs,st,hV,hl=>by
  have hx:x.v (st.aV s v)=x.v st:=HD (hl (i,x) (by simp))
  obtain⟨p1,p2⟩:=ag0 hv hs hV (x.v st)
  have hl':∀p∈l,s∉hY p.2:=λp hp=>hl p (aL _ hp)
  refine⟨?_,λy st' h p hp=> ?_⟩
  ·simp only[bt.xR,hx,p1]
   cases h:St.QE st (x.v st)with
   |none=>rfl
   |some r=>
    obtain⟨u,s1⟩:=r
    simp only[az,af]
    split
    ·exact(VO hv hs l _ (hV.Dm (p2 _ _ h)) hl').1
    ·rfl
  ·simp only[bt.xR]at h
   obtain⟨⟨u,s1⟩,h1,h⟩:=ak.1 h
   simp only at h
   split at h
   ·rw[(VO hv hs l _ (hV.Dm (p2 _ _ h1)) hl').2 _ _ h p hp,p2 _ _ h1 p hp]
   ·cases h
def asG{cf:CF}{io:Nat->List Bool}(hv:CH q v)(hs:s<gs)(hV:Var q d st){z n:Nat}{zero:A}{ps:List (Nat×bZ)}(hps:∀p∈ps,s∉hY p.2)(hd:d≠ae s):Rj q s v st (λst=>bt cf io d st (.VL z zero n ps)):=by
 have h:=VO hv hs (z:=z) ps (aZ n zero) hV hps;constructor;·show bt cf io d (st.aV s v) (.VL z zero n ps)=(bt cf io d st (.VL z zero n ps)).map _;cases d with|none=>rfl|some d=>simp only[bt,h.1];split;(·cases bt.xR st z (aZ n zero) ps with|none=>rfl|some r=>simp only[az];rw[mz _ hd]);·rfl
 ·intro st' he p hp;have he:bt cf io d st (.VL z zero n ps)=ae st':=he;cases d with|none=>cases he|some d=>simp only[bt]at he;split at he;(·obtain⟨⟨xs,s1⟩,h1,he⟩:=au.1 he;cases he;exact h.2 _ _ h1 p hp);·cases he
def agN{a:A}(h:noView a=ar)(k:Nat):noView (Ab.FR k a)=ar:=by
 have one:∀c:A,(match c with|.view .. =>aw|_=>ar)=ar->(match zl k c with|.view .. =>aw|_=>ar)=ar:=λc hc=>by
  cases c<;>first
   |rfl
   |exact hc
   |(rename_i j z xs
     by_cases e:j=k<;>simp[zl,e])
 cases a<;>first
  |(simp only[noView,Ab.FR,cJ,A.cells,de,fK,aeG]at h⊢;exact one _ h)
  |(simp only[noView,Ab.FR,cJ,A.cells,uW,aG]at h⊢
    exactλc hc=>one c (h c hc))
  |(simp[noView,A.cells]at h;done)
  |(rename_i j z xs
    by_cases e:j=k<;>simp[Ab.FR,cJ,zl,e,noView,A.cells]
    done)
  |rfl
structure aw3(s:Nat)(v:A)(st:St)(F:St->Option St):Prop where
 put:F (st.aV s v)=(F st).map (·.aV s v)
 fk:∀st',F st=ae st'->st'.r=st.r/\∀i,noView (st.t i)=ar->noView (st'.t i)=ar
def afr(hv:CH q v){i:Nat}(hi:i≠s)(hn:noView (st.t i)=ar)(j:Nat):aw3 s v st (·.pz i j):=by
 have hc:∀r off n,comp (st.t i) j≠ .view r off n:=λr off n e=>by simp only[comp]at e;cases h:(st.t i).cells[j]? with|none=>rw[h]at e;cases e|some c=>rw[h]at e;have e:c=.view r off n:=e;have:=aG.1 hn c (bw h);rw[e]at this;cases this
 constructor
 ·show(st.aV s v).pz i j=(st.pz i j).map (·.aV s v);simp only[St.pz,cR hi,vm];split;·simp only[az];rw[mR (hv.FR _)]
  ·rename_i r off n e;exact absurd e (hc r off n)
  ·rfl
 ·intro st' h;simp only[St.pz]at h;split at h;·cases h;exact⟨rfl,λi hi=>agN hi _⟩
  ·rename_i r off n e;exact absurd e (hc r off n)
  ·cases h;exact⟨rfl,λ_ h=>h⟩
def W0(hv:CH q v){i:Nat}(hi:i≠s)(hn:noView (st.t i)=ar):∀n:Nat,aw3 s v st (·.oh i n)
 |0=>⟨rfl,λst' h=>by cases h;exact⟨rfl,λ_ h=>h⟩⟩
 |n+1=>by
  have h0:=W0 hv hi hn n
  constructor
  ·show((st.aV s v).oh i n).bind (λs1=>s1.pz i n)=((st.oh i n).bind λs1=>s1.pz i n).map (·.aV s v)
   rw[show(st.aV s v).oh i n=_ from h0.put]
   cases h:st.oh i n with
   |none=>rfl
   |some s1=>
    simp only[az,af]
    exact(afr hv hi ((h0.fk s1 h).2 i hn) n).put
  ·intro st' h
   have h:(st.oh i n).bind (λs1=>s1.pz i n)=ae st':=h
   obtain⟨s1,h1,h2⟩:=ak.1 h
   obtain⟨a1,a2⟩:=h0.fk s1 h1
   obtain⟨b1,b2⟩:=(afr hv hi (a2 i hn) n).fk st' h2
   exact⟨b1.trans a1,λk hk=>b2 k (a2 k hk)⟩
def aqX(hv:CH q v)(hs:s<gs){x:A}(hn:noView x=ar):St.QE (st.aV s v) x=(St.QE st x).map (λy=>(y.1,y.2.aV s v))/\∀y st',St.QE st x=ae (y,st')->st'.r=st.r/\∀i,noView (st.t i)=ar->noView (st'.t i)=ar:=by
 have hne:gs≠s:=by omega
 have hng:noView ((st.aV gs x).t gs)=ar:=by simpa[St.aV]using hn
 have h1:=W0 (st:=st.aV gs x) hv hne hng x.cells.length;unfold St.QE;refine⟨?_,λy st' h=> ?_⟩;·rw[l7 x hne,show((st.aV gs x).aV s v).oh gs x.cells.length=_ from h1.put];cases(st.aV gs x).oh gs x.cells.length with|none=>rfl|some s1=>simp only[az,af,cR hne];cases dat (s1.t gs)with|none=>rfl|some u=>simp only[az,l7 A.any hne]
 ·obtain⟨s1,e1,h⟩:=ak.1 h;obtain⟨u,_,h⟩:=au.1 h;cases h;obtain⟨a1,a2⟩:=h1.fk _ e1;refine⟨a1,λi hi=> ?_⟩;by_cases hg:i=gs;·subst hg;simp[St.aV,noView,A.cells]
  ·have:=a2 i (by simpa[St.aV,hg]using hi);simpa[St.aV,hg]using this
def acb{st st':St}{x:bZ}(h:noView (x.v st)=ar)(hk:∀i,noView (st.t i)=ar->noView (st'.t i)=ar):noView (x.v st')=ar:=by cases x with|c a=>exact h|t i=>exact hk i h
def Rr(hv:CH q v)(hs:s<gs){z:Nat}:∀(l:List (Nat×bZ)) (xs:List A) {st:St},(∀p∈l,noView (p.2.v st)=ar)->(∀p∈l,s∉hY p.2)->
 bt.xR (st.aV s v) z xs l=(bt.xR st z xs l).map (λy=>(y.1,y.2.aV s v))/\∀y st',bt.xR st z xs l=ae (y,st')->st'.r=st.r
 | [],xs,st,hn,hl=>⟨rfl,λy st' h=>by cases h;rfl⟩
 |(i,x)::l,xs,st,hn,hl=>by
  have hx:x.v (st.aV s v)=x.v st:=HD (hl (i,x) (by simp))
  obtain⟨p1,p2⟩:=aqX (st:=st) hv hs (hn (i,x) (by simp))
  have hl':∀p∈l,s∉hY p.2:=λp hp=>hl p (aL _ hp)
  refine⟨?_,λy st' h=> ?_⟩
  ·simp only[bt.xR,hx]
   rw[show St.QE (st.aV s v) (x.v st)=_ from p1]
   cases h:St.QE st (x.v st)with
   |none=>rfl
   |some r=>
    obtain⟨u,s1⟩:=r
    simp only[az,af]
    split
    ·exact(Rr hv hs l _ (λp hp=>acb (hn p (aL _ hp)) (p2 _ _ h).2) hl').1
    ·rfl
  ·simp only[bt.xR]at h
   obtain⟨⟨u,s1⟩,h1,h⟩:=ak.1 h
   simp only at h
   split at h
   ·rw[(Rr hv hs l _ (λp hp=>acb (hn p (aL _ hp)) (p2 _ _ h1).2) hl').2 _ _ h,(p2 _ _ h1).1]
   ·cases h
def ap7{cf:CF}{io:Nat->List Bool}(hv:CH q v)(hs:s<gs){z n:Nat}{zero:A}{ps:List (Nat×bZ)}(hps:∀p∈ps,s∉hY p.2)(hn:∀p∈ps,noView (p.2.v st)=ar)(hd:d≠ae s)(hq:∀p,q=ae p->d≠ae p): Rj q s v st (λst=>bt cf io d st (.VL z zero n ps)):=by
 have h:=Rr hv hs (z:=z) ps (aZ n zero) hn hps;constructor;·show bt cf io d (st.aV s v) (.VL z zero n ps)=(bt cf io d st (.VL z zero n ps)).map _;cases d with|none=>rfl|some d=>simp only[bt,h.1];split;(·cases bt.xR st z (aZ n zero) ps with|none=>rfl|some r=>simp only[az];rw[mz _ hd]);·rfl
 ·intro st' he p hp;have he:bt cf io d st (.VL z zero n ps)=ae st':=he;cases d with|none=>cases he|some d=>simp only[bt]at he;split at he;(·obtain⟨⟨xs,s1⟩,h1,he⟩:=au.1 he;cases he;show s1.r p=st.r p;rw[h.2 _ _ h1]);·cases he
end
section
variable {q d:Option Nat} {st:St} {v:A} {s:Nat}
def Yf{a:A}(h:noView a=ar)(k:Nat):noView (cJ (ju k) a)=ar:=by
 have one:∀c:A,(match c with|.view .. =>aw|_=>ar)=ar->(match ju k c with|.view .. =>aw|_=>ar)=ar:=λc hc=>by by_cases e:iY k c=ar;(·rw[ju,aJ e]);·rw[ju,aO e];exact hc
 cases a<;>first
  |(simp only[noView,cJ,A.cells,uW,aG]at h⊢
    exactλc hc=>one c (h c hc))
  |(simp only[cJ,ju];split<;>first|rfl|exact h)
  |rfl
def abH{a:A}(h:noView a=ar)(k:Nat):noView (cJ (iS k) a)=ar:=by
 have one:∀c:A,(match c with|.view .. =>aw|_=>ar)=ar->(match iS k c with|.view .. =>aw|_=>ar)=ar:=λc hc=>by by_cases e:abu k c=ar;(·rw[iS,aJ e]);·rw[iS,aO e];exact hc
 cases a<;>first
  |(simp only[noView,cJ,A.cells,uW,aG]at h⊢
    exactλc hc=>one c (h c hc))
  |(simp only[cJ,iS];split<;>first|rfl|exact h)
  |rfl
def aqR(j:Nat){i:Nat}(hi:i≠gs+j)(h:noView (st.t i)=ar):noView ((st.Dn j).t i)=ar:=by
 unfold St.Dn;split;·simp only[St.aV,aO hi,St.aD,St.kill,St.cX,St.map];exact Yf (abH h _) _
 ·simp only[St.aV,aO hi,St.aD,St.kill,St.map];exact Yf h _
 ·exact h
def OP(hv:CH q v)(hs:s<gs)(hp3:∀p,q=ae p->p<1002000):∀(n:Nat) (bs:List Bool) (j:Nat) {st:St},(∀i,j<=i->noView (st.t (gs+i))=ar)->Rj q s v st (λx=>St.fm x bs j n)
 |0,bs,j,st,hn=>by
  have e:∀x:St,St.fm x bs j 0=ae x:=λx=>by cases bs with
   |nil=>rfl
   |cons b bs=>cases b<;>rfl
  exact⟨by simp only[e];rfl,λst' h p hp=>by rw[e]at h;cases h;rfl⟩
 |n+1,bs,j,st,hn=>by
  have hne:gs+j≠s:=by omega
  have key:Rj q s v st (λx=>(x.oh (gs+j) (x.t (gs+j)).cells.length).bind λst1=>St.fm st1 bs.tail (j+1) n):=by
   have ht:=W0 (st:=st) (s:=s) hv hne (hn j (bm _)) (st.t (gs+j)).cells.length
   have h0:Rj q s v st (λx=>x.oh (gs+j) (x.t (gs+j)).cells.length):=
    ⟨by
      show(st.aV s v).oh (gs+j) ((st.aV s v).t (gs+j)).cells.length=_
      rw[cR hne];exact ht.put,λst' h p hp=>by rw[(ht.fk st' h).1]⟩
   exact A9 h0 λst' h=>OP hv hs hp3 n bs.tail (j+1) λi hi=>(ht.fk st' h).2 _ (hn i (by omega))
  cases bs with
  |nil=>exact key
  |cons b bs=>
   cases b with
   |false=>exact key
   |true=>
    obtain⟨h1,h2⟩:=aiW (st:=st) hv hp3 hs j
    have h3:=OP hv hs hp3 n bs (j+1) (st:=st.Dn j) λi hi=>aqR j (by omega) (hn i (by omega))
    constructor
    ·show St.fm ((st.aV s v).Dn j) bs (j+1) n=_
     rw[h1];exact h3.put
    ·intro st' h p hp
     exact(h3.fk st' h p hp).trans (h2 p hp)
def anF{cf:CF}{io:Nat->List Bool}(hv:CH q v)(hs:s<gs)(hp3:∀p,q=ae p->p<1002000){f:bZ}{args:List bZ}(hf:f.v (st.aV s v)=f.v st)(ha:args.map (bZ.v (st.aV s v))=args.map (bZ.v st))(hd:d≠ae s) (hn:∀a∈args.map (bZ.v st),noView a=ar) (hnc:∀g caps,f.v st=.fn g caps->∀a∈caps,noView a=ar) (ht:∀p,q=ae p->p∉iw st (.call f args)) (hF:∀i∈iw st (.call f args),H5 q i) (hFd:∀i,d=ae i->H5 q i): Rj q s v st (λst=>bt cf io d st (.call f args)):=by
 let G:Nat->Nat->St->Option St:=λg n st1=>
  let vs:=(dL n).map λj=>st1.t (gs+j)
  (mX st1 (io g) vs).bind λ(ls,qs,ns)=>
    if decide ns.Nodup then
     (uQ {st1 with r:=less st1.r ns} ls vs).bind λab=>(cf g ab).bind λ(res,outs)=>
       (Ec (st1.lay []) qs outs).bind λst2=>CZ st2 d res
    else ai
 cases hfv:f.v st with
 |fn g caps=>
  have e:∀x:St,f.v x=.fn g caps->bt cf io d x (.call f args)=((x.lay (args.map (bZ.v x)++caps)).fm (io g) 0 (args.length+caps.length)).bind (G g (args.length+caps.length)):=λx hx=>by simp only[bt,hx];rfl
  have hnv:∀a∈args.map (bZ.v st)++caps,noView a=ar:=λa h=>(aU.1 h).elim (hn a) (hnc g caps hfv a);have hlay:∀i,0<=i->noView ((st.lay (args.map (bZ.v st)++caps)).t (gs+i))=ar:=λi _=>by by_cases h0:(st.lay (args.map (bZ.v st)++caps)).t (gs+i)=.any;(·rw[h0];rfl);·exact hnv _ (akP rfl h0)
  have h1:=OP hv hs hp3 (args.length+caps.length) (io g) 0 hlay
  have hG:∀st1,(st.lay (args.map (bZ.v st)++caps)).fm (io g) 0 (args.length+caps.length)=ae st1->Rj q s v st1 (G g (args.length+caps.length)):=λst1 hp=>by
   have hshr:=LI hp;have hvs:((dL (args.length+caps.length)).map λj=>(st1.aV s v).t (gs+j))=(dL (args.length+caps.length)).map λj=>st1.t (gs+j):= nw λj _=>cR (by omega)
   have hB:∀(ls:List (Option A)) (qs ns:List Nat),mX st1 (io g) ((dL (args.length+caps.length)).map λj=>st1.t (gs+j))=ae (ls,qs,ns)->ns.Nodup->∀res outs:List A,
    Rj q s v (st1.lay []) (λx=>(Ec x qs outs).bind λst2=>CZ st2 d res):=λls qs ns hl hn res outs=>by
    obtain⟨g1,g2,g3⟩:=Ow _ _ hl hn
    have hin:∀(j:Nat) (a0:A),a0≠ .any->(st.lay (args.map (bZ.v st)++caps)).t (gs+j)=a0->∀m∈names st.r a0,m∈iw st (.call f args):=λj a0 hne e m hm=>by
     have:=akP e hne
     simp only[iw,hfv]
     rcases aU.1 this with h'|h'
     ·exact bW _ (jq.2 ⟨a0,h',hm⟩)
     ·exact aS _ (jq.2 ⟨a0,h',hm⟩)
    have hfree:∀i∈qs,H5 q i:=λi hi=>by
     obtain⟨a,ham,R,hR,hk⟩:=g3 i hi
     obtain⟨j,_,rfl⟩:=dK.1 ham
     rcases hk with ⟨e,hb⟩|⟨n,e,hb⟩
     ·exact hF i (hin j _ (by intro e;cases e) (hshr.loc _ _ _ _ e) i (by simp[names,yG]))
     ·rcases hshr.view _ _ _ _ e with e1|e1
      ·have:=hlay j (iW _);rw[e1]at this;simp[noView,A.cells]at this
      ·exact H5.big hp3 e1
    have ho:Off q (st1.lay []).r qs:=λp hp i hi=>by
     obtain⟨a,ham,R,hR,hk⟩:=g3 i hi
     obtain⟨j,_,rfl⟩:=dK.1 ham
     have hRr:st.r i=ae R\/(1002000<=i/\R.b=aw):=by
      rcases hshr.r i with e|e|⟨e,z,xs,e2⟩
      ·exact .inl (e.symm.trans hR)
      ·rw[e]at hR;cases hR
      ·exact .inr ⟨e,by rw[e2]at hR;cases hR;rfl⟩
     refine⟨(hfree i hi p hp).1,λR' x h2 h4 h3 hm=> ?_⟩
     have h2:st1.r i=ae R':=h2
     rw[hR]at h2;cases h2
     rcases hk with ⟨e,hb⟩|⟨n,e,hb⟩
     ·have e0:=hin j _ (by intro e;cases e) (hshr.loc _ _ _ _ e)
      refine ht p hp (e0 p ?_)
      have hRr:st.r i=ae R:=by
       rcases hRr with h|⟨_,h⟩
       ·exact h
       ·rw[hb]at h;cases h
      simp only[names,yG,hRr,h3,cg,List.flatMap_nil,bS]
      exact aL _ hm
     ·rw[hb]at h4;cases h4
    have hg:=TI (s:=s) hv hfree g1 ho outs
    exact A9 hg λst' h'=>afd hv hFd hd res
   constructor;(·show G g (args.length+caps.length) (st1.aV s v)=(G g (args.length+caps.length) st1).map _;simp only[G,hvs,JW];cases hl:mX st1 (io g) ((dL (args.length+caps.length)).map λj=>st1.t (gs+j))with|none=>rfl|some y=>obtain⟨ls,qs,ns⟩:=y;simp only[af];by_cases hn:ns.Nodup;(·simp only[hn,aB,aC];have ea:uQ {(st1.aV s v)with r:=less (st1.aV s v).r ns} ls ((dL (args.length+caps.length)).map λj=>st1.t (gs+j))=uQ {st1 with r:=less st1.r ns} ls ((dL (args.length+caps.length)).map λj=>st1.t (gs+j)):= Pu (st:={st1 with r:=less st1.r ns}) _ _;rw[ea];cases uQ {st1 with r:=less st1.r ns} ls ((dL (args.length+caps.length)).map λj=>st1.t (gs+j))with|none=>rfl|some ab=>simp only[af];cases cf g ab with|none=>rfl|some y=>simp only[af,aad hs];exact(hB ls qs ns hl hn y.1 y.2).put);·simp only[hn,aW,ao,aH];rfl);·intro st' h p hp;simp only[G]at h;obtain⟨⟨ls,qs,ns⟩,hl,h⟩:=ak.1 h;simp only at h;split at h;(·rename_i hn;obtain⟨ab,_,h⟩:=ak.1 h;obtain⟨⟨res,outs⟩,_,h⟩:=ak.1 h;exact(hB ls qs ns hl (by simpa using hn) res outs).fk st' h p hp);·cases h
  have h2:=A9 h1 hG;constructor;·show bt cf io d (st.aV s v) (.call f args)=(bt cf io d st (.call f args)).map _;rw[e st hfv,e (st.aV s v) (hf.trans hfv),ha,aad hs];exact h2.put
  ·intro st' h p hp;have h:bt cf io d st (.call f args)=ae st':=h;rw[e st hfv]at h;exact h2.fk st' h p hp
 |_=>
  have e:∀x:St,f.v x=f.v st->bt cf io d x (.call f args)=ai:=λx hx=>by simp only[bt,hx,hfv]
  exact⟨by rw[e _ hf,e _ rfl];rfl,λst' h=>by rw[e _ rfl]at h;cases h⟩
end
end Go.Ab
namespace Go.Ab
section
variable {st st':St} {cf:CF} {io:Nat->List Bool}
def fw{x:bZ}(h:∀i∈hY x,st.t i=st'.t i):x.v st=x.v st':=by cases x with|t i=>exact h i (by simp[hY])|c a=>rfl
def agW{x:Option bZ}(h:∀i∈avM x,st.t i=st'.t i):x.map (bZ.v st)=x.map (bZ.v st'):=by cases x with|none=>rfl|some x=>simp[fw (x:=x) h]
def Dk:∀{xs:List bZ},(∀i∈xs.flatMap hY,st.t i=st'.t i)->xs.map (bZ.v st)=xs.map (bZ.v st')
 | [],_=>rfl
 |x::xs,h=>by
  rw[aP,aP,fw (x:=x) λi hi=>h i (by simp[hi]),Dk (xs:=xs) λi hi=>h i (by rw[cg];exact aS _ hi)]
def amv(hr:st.r=st'.r):∀{ps:List (Nat×Nat×bZ)} {cs:List A},(∀i∈ps.flatMap (λp=>hY p.2.2),st.t i=st'.t i)->zC st cs ps=zC st' cs ps
 | [],_,_=>rfl
 |(off,z,x)::ps,cs,h=>by
  have hx:=fw (x:=x) λi hi=>h i (by simp[hi])
  simp only[zC,hx,hr]
  have ih:∀cs',zC st cs' ps=zC st' cs' ps:=λcs'=>amv hr λi hi=>h i (by rw[cg];exact aS _ hi)
  simp only[ih]
def amw(hr:st.r=st'.r){z:Nat}:∀{ps:List (Nat×bZ)} {cs:List A},(∀i∈ps.flatMap (λp=>hY p.2),st.t i=st'.t i)->Jr st z cs ps=Jr st' z cs ps
 | [],_,_=>rfl
 |(j,x)::ps,cs,h=>by
  have hx:=fw (x:=x) λi hi=>h i (by simp[hi])
  have ih:∀cs',Jr st z cs' ps=Jr st' z cs' ps:=λcs'=>amw hr λi hi=>h i (by rw[cg];exact aS _ hi)
  simp only[Jr,hx,ih]
def ame(hr:st.r=st'.r):∀{xs:List bZ},(∀i∈xs.flatMap hY,st.t i=st'.t i)->D4 st xs=D4 st' xs
 | [],_=>rfl
 |x::xs,h=>by
  have hx:=fw (x:=x) λi hi=>h i (by simp[hi])
  have ih:=ame hr (xs:=xs) λi hi=>h i (by rw[cg];exact aS _ hi)
  simp only[D4,hx,hr,ih]
def aij(hr:st.r=st'.r){d:Option Nat}{o:O}(h:∀i∈bT o,st.t i=st'.t i):bJ cf io d st o=bJ cf io d st' o:=by
 cases o with
 |mv x|asg x|Oz x|un _ x|conv _ x|fa _ x|fld _ _ x|len x|lens x|ext x _|ld _ x=>
  have hx:=fw (x:=x) (st:=st) (st':=st') h;simp only[bJ,hx,hr]
 |box|alloc|rq|app=>rfl
 |pick c a b=>
  have h1:=fw (x:=c) (st:=st) (st':=st') λi hi=>h i (by simp[bT,hi]);have h2:=fw (x:=a) (st:=st) (st':=st') λi hi=>h i (by simp[bT,hi]);have h3:=fw (x:=b) (st:=st) (st':=st') λi hi=>h i (by simp[bT,hi]);simp only[bJ,h1,h2,h3]
 |build z ps=>simp only[bJ,amv hr (ps:=ps) h]
 |VL z zero n ps=>simp only[bJ,amw hr (ps:=ps) h]
 |bin _ x y|eqs _ _ x y|eqb _ x y|ia _ x y|iaa _ _ x y|ix x y|ixa _ _ _ x y|mks _ _ _ x y=>
  have h1:=fw (x:=x) (st:=st) (st':=st') λi hi=>h i (by simp[bT,hi]);have h2:=fw (x:=y) (st:=st) (st':=st') λi hi=>h i (by simp[bT,hi]);simp only[bJ,h1,h2,hr]
 |slc _ x lo hi|als x lo hi=>
  have h1:=fw (x:=x) (st:=st) (st':=st') λi hi=>h i (by simp[bT,hi]);have h2:=agW (x:=lo) (st:=st) (st':=st') λi hi=>h i (by simp[bT,hi]);have h3:=agW (x:=hi) (st:=st) (st':=st') λi hi=>h i (by simp[bT,hi]);simp only[bJ,h1,h2,h3,hr]
 |max xs|min xs|mkf _ xs=>
  have h1:=Dk (xs:=xs) (st:=st) (st':=st') h;simp only[bJ,h1,hr]
 |call f args=>
  have h1:=fw (x:=f) (st:=st) (st':=st') λi hi=>h i (by simp[bT,hi]);have h2:=Dk (xs:=args) (st:=st) (st':=st') λi hi=>h i (by simp only[bT];exact aS _ hi);have h3:=ame hr (xs:=args) λi hi=>h i (by simp only[bT];exact aS _ hi);simp only[bJ,h1,h2,h3,hr]
def stepG(cf:CF)(io:Nat->List Bool)(all:List Op)(st:St)(o:Op):Option St:=
 match guardOf all st o.g with
 |some ar=>step cf io st o
 |some aw=>ae (st.put o.d .undef)
 |none=>ai
def ajp(all:List Op)(o:Op)(l:List Op)(st:St):vn cf io all (o::l) st=(stepG cf io all st o).bind (vn cf io all l):=by simp only[vn,stepG];cases guardOf all st o.g with|none=>rfl|some b=>cases b<;>rfl
def aa3(all:List Op):Option (Nat×Bool)->List Nat
 |none=>[]
 |some (j,_)=>match(all[j]?).bind (·.d)with|some d=>[d]|none=>[]
def ag7(cf:CF)(io:Nat->List Bool)(all:List Op)(st:St)(o:Op):Option A:=
 match guardOf all st o.g with
 |some ar=>(bJ cf io o.d st o.o).bind λv=>if fP st o v then ae v else ai
 |some aw=>ae .undef
 |none=>ai
def PJ{all:List Op}{o:Op}(hw:o.w=aw)(st:St):stepG cf io all st o=(ag7 cf io all st o).map (st.put o.d):=by
 simp only[stepG,ag7,step,hw];split;·simp only[ao,aH];cases bJ cf io o.d st o.o with|none=>rfl|some v=>simp only[af];split<;>rfl
 ·rfl
 ·rfl
def adK{all:List Op}{g:Option (Nat×Bool)}(h:∀i∈aa3 all g,st.t i=st'.t i):guardOf all st g=guardOf all st' g:=by cases g with|none=>rfl|some p=>obtain⟨j,b⟩:=p;simp only[guardOf];simp only[aa3]at h;cases hd:(all[j]?).bind (·.d)with|none=>rfl|some d=>rw[hd]at h;simp only;rw[h d (by simp)]
def Mu(o:Op):List Nat:=if o.av.contains gs then(match o.d with|some s=>[s]|none=>[])else []
def Ww{o:O}{v:A}(h:∀k∈bT o,st.t k=st'.t k/\∀p i c,(st.t k=.loc p i c\/st.t k=.view p i c)->st.r p=st'.r p):okV st o v=okV st' o v:=by
 unfold okV;congr 1;have key:∀(n:Option Nat) (k:Nat),o=.ld n (.t k)->(match st.t k with|.loc q _ _=>(match st.r q with|some R=>R.b|none=>aw)|_=>aw)=(match st'.t k with|.loc q _ _=>(match st'.r q with|some R=>R.b|none=>aw)|_=>aw):=λn k e=>by obtain⟨h1,h2⟩:=h k (by rw[e];simp[bT,hY]);rw[<-h1];split;(·rename_i q i c hq;rw[h2 q i c (.inl hq)]);·rfl
 cases v<;>first
  |rfl
  |(cases o<;>first
     |rfl
     |(rename_i x;cases x<;>rfl)
     |(rename_i u x;cases x<;>rfl)
     |(rename_i u x w;cases x<;>rfl)
     |(rename_i u w x z;cases x<;>rfl)
     |(rename_i n x
       cases x with
       |c a=>rfl
       |t k=>exact key n k rfl))
def A2{o:Op}{v:A}(hk:gs+1∈o.av->okV st o.o v=okV st' o.o v)(hk2:gs+2∈o.av->ry st v=ry st' v)(h:∀i∈bT o.o++Mu o,st.t i=st'.t i):fP st o v=fP st' o v:=by
 have hu:∀k∈bT o.o,st.t k=st'.t k:=λk hk=>h k (bW _ hk);have e1:∀d,((bT o.o).all λk=>jM (ae d) (st.t k))=(bT o.o).all λk=>jM (ae d) (st'.t k):=λd=>by rw[afX,aG,aG];exact⟨λe k hk=>by rw[<-hu k hk];exact e k hk,λe k hk=>by rw[hu k hk];exact e k hk⟩
 have e2:∀d∈o.av,(if d=gs then(match o.d with|some s=>isAny (st.t s)|none=>aw)else if d=gs+1 then okV st o.o v else if d=gs+2 then ry st v else O7 (ae d) v&&(bT o.o).all λk=>jM (ae d) (st.t k))=(if d=gs then(match o.d with|some s=>isAny (st'.t s)|none=>aw)else if d=gs+1 then okV st' o.o v else if d=gs+2 then ry st' v else O7 (ae d) v&&(bT o.o).all λk=>jM (ae d) (st'.t k)):=λd hd=>by
  by_cases hg:d=gs
  ·rw[aJ hg,aJ hg]
   cases hs:o.d with
   |none=>rfl
   |some s=>
    have:st.t s=st'.t s:=h s (aS _ (by
     have hc:o.av.contains gs=ar:=by rw[<-hg];simpa using hd
     simp only[Mu,hc,aC,hs,aX]))
    simp only[this]
  ·rw[aO hg,aO hg];by_cases hg1:d=gs+1;(·rw[aJ hg1,aJ hg1];exact hk (hg1▸hd));·rw[aO hg1,aO hg1];by_cases hg2:d=gs+2;(·rw[aJ hg2,aJ hg2];exact hk2 (hg2▸hd));·rw[aO hg2,aO hg2,e1]
 have e3:∀l:List Nat,(∀d∈l,d∈o.av)->(l.all λd=>if d=gs then(match o.d with|some s=>isAny (st.t s)|none=>aw)else if d=gs+1 then okV st o.o v else if d=gs+2 then ry st v else O7 (ae d) v&&(bT o.o).all λk=>jM (ae d) (st.t k))=l.all λd=>if d=gs then(match o.d with|some s=>isAny (st'.t s)|none=>aw)else if d=gs+1 then okV st' o.o v else if d=gs+2 then ry st' v else O7 (ae d) v&&(bT o.o).all λk=>jM (ae d) (st'.t k):=λl hl=>by induction l with|nil=>rfl|cons d l ih=>rw[de,de,e2 d (hl d (by simp)),ih λx hx=>hl x (aL _ hx)]
 have e4:=e3 o.av λ_ h=>h;exact congrArg (λb=>(!o.pq||pure v)&&b) e4
def DH{v:A}(h:∀p i c,(v=.loc p i c\/v=.view p i c)->(st.r p).isSome=(st'.r p).isSome):ry st v=ry st' v:=by
 cases v<;>first
  |rfl
  |exact h _ _ _ (.inl rfl)
  |exact h _ _ _ (.inr rfl)
def LM{o:Op}{v:A}(hr:st.r=st'.r\/gs+1∉o.av/\gs+2∉o.av)(h:∀i∈bT o.o++Mu o,st.t i=st'.t i):fP st o v=fP st' o v:=
 A2 (λhg=>hr.elim (λe=>Ww λk hk=>⟨h k (bW _ hk),λp i c _=>by rw[e]⟩) λe=>absurd hg e.1)
  (λhg=>hr.elim (λe=>DH λp i c _=>by rw[e]) λe=>absurd hg e.2) h
def acr{all:List Op}{o:Op}(hr:st.r=st'.r)(h:∀i∈(bT o.o++Mu o)++aa3 all o.g,st.t i=st'.t i):ag7 cf io all st o=ag7 cf io all st' o:=by have e:∀v,fP st o v=fP st' o v:=λv=>LM (.inl hr) λi hi=>h i (bW _ hi);simp only[ag7,adK (st:=st) (st':=st') λi hi=>h i (aS _ hi),aij (st:=st) (st':=st') hr λi hi=>h i (bW _ (bW _ hi)),e]
def akt(all:List Op)(x y:Op):Bool:=
 !x.w&& !y.w&&(match x.d with|some d=> !((bT y.o++Mu y)++aa3 all y.g).contains d&&y.d !=ae d|none=>ar)&&(match y.d with|some d=> !((bT x.o++Mu x)++aa3 all x.g).contains d|none=>ar)
def simple:O->Bool
 |.mv _|.ext _ _|.bin .. |.un .. |.fld .. |.ix .. |.lens _=>ar
 |.ld _ (.t _)|.Oz (.t _)|.fa _ (.t _)|.iaa _ _ (.t _) _|.ia _ (.t _) _|.len (.t _)=>ar
 |_=>aw
def adr:O->Bool
 |.mv (.t _)|.ia _ (.t _) _|.Oz (.t _)|.fa _ (.t _)|.iaa _ _ (.t _) _=>ar
 |_=>aw
def wr:O->Bool
 |.call .. |.alloc .. |.rq .. |.asg .. |.VL .. =>ar
 |_=>aw
def agf(x y:Op):Bool:=
 !y.pq&&(x.av.isEmpty&& !x.w&&y.w&&simple x.o&&(x.pq||adr x.o)&&wr y.o&&x.g.isNone&&y.g.isNone&&
  ((bT x.o).all (λk=>y.av.contains k&& !(bT y.o).contains k&&y.d !=ae k&&ah (k<gs)))&&
  (match x.d with|some s=>ah (s<gs)&& !(bT y.o).contains s&&y.d !=ae s&& !y.av.contains s|none=>ar))
def agb(x y:Op):Bool:=
 !y.pq&&((x.av==[gs])&& !x.w&&y.w&&adr x.o&&wr y.o&&(match y.o with|.alloc .. =>aw|.VL .. =>aw|_=>ar)&&x.g.isNone&&y.g.isNone&&
  ((bT x.o).all (λk=>y.av.contains k&& !(bT y.o).contains k&&y.d !=ae k&&ah (k<gs)))&&
  (match x.d with|some s=>ah (s<gs)&& !(bT y.o).contains s&&y.d !=ae s&&y.av.contains s&& !(bT x.o).contains s|none=>aw))
def amA:O->Bool
 |.alloc .. =>ar
 |_=>aw
def aaj:O->Bool
 |.build _ ps=>ps.all λp=>match p.2.2 with|.t _=>ar|.c a=>pure a
 |o=>simple o
def aga(x y:Op):Bool:=
 !y.pq&&(!x.w&&y.w&&aaj x.o&&amA y.o&&x.g.isNone&&y.g.isNone&&y.av.isEmpty&&
  (match y.d with|some d=>x.av.contains d&& !(bT x.o).contains d&&x.d !=ae d&&d !=gs&& !x.av.contains gs&& !x.av.contains (gs+1)&& !x.av.contains (gs+2)|none=>aw))
def U8:O->Bool
 |.mv _|.ext _ _|.bin .. |.un .. |.fld .. |.ix .. |.lens _=>ar
 |_=>aw
def as2:O->Bool
 |.mv (.t _)=>ar
 |_=>aw
def MI:O->Bool
 |.slc _ (.t _) _ _=>ar
 |_=>aw
def X7:O->Bool
 |.fa _ (.t _)=>ar
 |_=>aw
def agd(x y:Op):Bool:=
 (!(y.av.any λk=>ah (rp<=k)))&&(y.pq&&(!x.w&&(y.w&&(x.g.isNone&&(y.g.isNone&&(!y.av.isEmpty&&((match y.o with
     |.rq .. =>y.d.isNone&&(U8 x.o&&(x.pq||as2 x.o)||MI x.o||(simple x.o&&((x.pq||X7 x.o)&&((bT x.o).any (λk=>y.av.contains (cp+k))&&(bT x.o).all (λk=>y.av.contains (cp+k))))))
     |.call .. =>simple x.o&&x.av.contains (gs+1)
     |.app .. =>y.d.isSome&&(simple x.o&&(x.av.contains gs&&(x.av.contains (gs+1)&&x.av.contains (gs+2))))
     |_=>aw)&&
   ((bT x.o).all (λk=>y.av.contains k&&(!(bT y.o).contains k&&(y.d !=ae k&&ah (k<gs))))&&
   (match x.d with|some s=>ah (s<gs)&&(!(bT y.o).contains s&&(y.d !=ae s&&(!(bT x.o).contains s&&(x.av.all (λd=>d==gs||(d==gs+1||d==gs+2))&&(x.av.contains gs==y.av.contains s&&(!y.av.contains (cp+s)||(x.av.contains gs&&(match y.o with|.rq .. =>simple x.o&&((x.pq||X7 x.o)&&(bT x.o).all (λk=>y.av.contains (cp+k)))|_=>aw))))))))|none=>aw)))))))))
def age(x y:Op):Bool:=
 y.pq&&(!x.w&&(y.w&&(simple x.o&&(x.g.isNone&&(y.g.isNone&&((match y.o with|.rq .. =>y.d.isNone|_=>aw)&&
  ((match y.av with| [k]=>ah (rp<=k)&&(ah (k<ep)&&x.av.contains (k-rp))|_=>aw)&&(!x.av.contains gs&&(!x.av.contains (gs+1)&&(!x.av.contains (gs+2)&&
  ((bT x.o).all (λk=>ah (k<gs))&&(match x.d with|some s=>ah (s<gs)&& !(bT y.o).contains s|none=>ar))))))))))))
def agc(x y:Op):Bool:=
 y.pq&&(!x.w&&(y.w&&(x.pq&&(x.av.isEmpty&&(x.g.isNone&&(y.g.isNone&&((y.av.any λe=>ah (ep<=e))&&((match y.o with|.rq .. =>y.d.isNone|.asg _=>y.d.isSome|_=>aw)&&
  ((match x.o with|.ext (.t k) i=>y.av.contains (ep+16*k+i)&&(ah (i<16)&&(ah (k<65536)&&(!(bT y.o).contains k&&(y.d !=ae k&&ah (k<gs)))))|_=>aw)&&
  (match x.d with|some s=>ah (s<gs)&&(!(bT y.o).contains s&&(y.d !=ae s&&y.av.all λe=>e/16%65536 !=s))|none=>aw))))))))))
def Ji(all:List Op)(x y:Op):Bool:=akt all x y||((aga x y||aga y x)||((agb x y||agb y x)||((agd x y||agd y x)||((agf x y||agf y x)||((agc x y||agc y x)||((age x y||age y x)))))))
def ack(st:St)(d:Option Nat)(v:A){i:Nat}(h:d≠ae i):(st.put d v).t i=st.t i:=by cases d with|none=>rfl|some d=>have:i≠d:=λe=>h (by rw[e]);simp[St.put,this]
def auK(st:St)(d:Option Nat)(v:A):(st.put d v).r=st.r:=by cases d<;>rfl
def put_comm(st:St){d e:Option Nat}(v u:A)(h:∀i,d=ae i->e≠ae i):(st.put d v).put e u=(st.put e u).put d v:=by cases d with|none=>rfl|some d=>cases e with|none=>rfl|some e=>have hne:d≠e:=λx=>h d rfl (by rw[x]);simp only[St.put];congr 1;funext i;by_cases h1:i=d;(·by_cases h2:i=e;(·omega);·simp[h1,hne]);·by_cases h2:i=e;(·simp[h2,tN hne]);·simp[h1,h2]
def ajC{all:List Op}{x y:Op}(h:akt all x y=ar){st s1 s2:St}(h1:stepG cf io all st x=ae s1)(h2:stepG cf io all s1 y=ae s2): ∃t1,stepG cf io all st y=ae t1/\stepG cf io all t1 x=ae s2:=by
 simp only[akt,aj,cn]at h;obtain⟨⟨⟨hx,hy⟩,hxd⟩,hyd⟩:=h;rw[PJ hx]at h1;rw[PJ hy]at h2;obtain⟨v,hv,rfl⟩:=au.1 h1;obtain⟨u,hu,rfl⟩:=au.1 h2;have e1:ag7 cf io all (st.put x.d v) y=ag7 cf io all st y:=acr (auK _ _ _) λi hi=>ack _ _ _ λe=>by rw[e]at hxd;simp only[aj,cn,ck,cG]at hxd;exact hxd.1 hi
 rw[e1]at hu;have e2:ag7 cf io all (st.put y.d u) x=ag7 cf io all st x:=acr (auK _ _ _) λi hi=>ack _ _ _ λe=>by rw[e]at hyd;simp only[cn,ck,cG]at hyd;exact hyd hi
 refine⟨st.put y.d u,by rw[PJ hy,hu];rfl,?_⟩;rw[PJ hx,e2,hv];simp only[az];rw[put_comm];intro i e1 e2;rw[e2]at hxd;simp only[aj,ja,Ly]at hxd;exact hxd.2 e1
def Var.no(d:Option Nat)(st:St):Var ai d st:=by constructor<;>(intro p e;cases e)
def apM(o:O)(q d:Option Nat)(st:St):Prop:=QT st o=ar/\∀p,q=ae p->wQ st o d p=ar
def Tu(o:O)(q d:Option Nat)(st:St):Prop:=(∀p,q=ae p->d≠ae p)/\((∃z zero,o=.alloc z zero)\/(∃z zero n ps,o=.VL z zero n ps/\∀p∈ps,noView (p.2.v st)=ar)\/(Var q d st\/apM o q d st))
def Tu.no(o:O)(d:Option Nat)(st:St):Tu o ai d st:=⟨λp e=>(by cases e),.inr (.inr (.inl (Var.no d st)))⟩
def Js{o:O}{d:Option Nat}{p:Nat}(h:wQ st o d p=ar):p<1002000/\p∉iw st o/\(∀i∈iw st o,H5 (ae p) i)/\(∀i,d=ae i->H5 (ae p) i)/\d≠ae p:=by
 simp only[wQ,aj,ax,cn,ck,cG,aG,ja,Ly]at h;obtain⟨h1,h2,h3,h4⟩:=h;have fr:∀i,i≠p->¬i+1=p/1000->H5 (ae p) i:=λi a b p' e=>by cases e;refine⟨a,λc hc e=>b ?_⟩;unfold sub at e;omega
 refine⟨h1,h2,λi hi=>fr i (λe=>h2 (e▸hi)) (h3 i hi),λi hi=> ?_,λe=> ?_⟩;·rw[hi]at h4;simp only[aj,ja,Ly]at h4;exact fr i h4.1 h4.2
 ·rw[e]at h4;simp at h4
def AF{d:Option Nat}{a:A}(h:jM d a=ar):∃q,CH q a/\(∀p,q=ae p->d≠ae p)/\∀p i c,(a=.loc p i c\/a=.view p i c)->q=ae p:=by
 unfold jM at h;split at h;·rename_i p i c;simp only[ja,Ly]at h;exact⟨ae p,.inr ⟨p,i,c,rfl,.inl rfl⟩,λp' e=>by cases e;exact h,λp' i' c' e=>by rcases e with e|e<;>cases e;rfl⟩
 ·rename_i p i c;simp only[ja,Ly]at h;exact⟨ae p,.inr ⟨p,i,c,rfl,.inr rfl⟩,λp' e=>by cases e;exact h,λp' i' c' e=>by rcases e with e|e<;>cases e;rfl⟩
 ·rename_i a n1 n2;exact⟨ai,.inl (.inl h),λp e=>(by cases e),λp i c e=>(e.elim (λe=>absurd e (n1 p i c)) λe=>absurd e (n2 p i c))⟩
def alv{o:O}{d:Option Nat}{a:A}(h:CB st o d a=ar):∃q,CH q a/\((∀p,q=ae p->d≠ae p)/\(Var q d st\/apM o q d st))/\(∀p,q=ae p->p∉iw st o)/\∀p i c,(a=.loc p i c\/a=.view p i c)->q=ae p:=by
 have far:∀p,QT st o=ar->wQ st o d p=ar->((∀p',ae p=ae p'->d≠ae p')/\(Var (ae p) d st\/apM o (ae p) d st))/\(∀p',ae p=ae p'->p'∉iw st o):=λp hc hf=>by obtain⟨a1,a2,a3,a4,a5⟩:=Js hf;exact⟨⟨λp' e=>by cases e;exact a5,.inr ⟨hc,λp' e=>by cases e;exact hf⟩⟩,λp' e=>by cases e;exact a2⟩
 unfold CB at h;split at h
 ·rename_i p i c;rcases Bool.or_eq_true_iff.1 h with h|h
  ·simp only[aj,ax,ja,Ly,cn,ck,cG]at h;obtain⟨h1,h2,h3,h4⟩:=h
   have hV:Var (ae p) d st:=⟨λp' e=>by cases e;exact h1,λp' e=>by cases e;exact h2,λp' e=>by
    cases e
    split at h4
    ·rename_i R hR;exact⟨R,hR,h4⟩
    ·cases h4⟩
   exact⟨ae p,.inr ⟨p,i,c,rfl,.inl rfl⟩,⟨hV.ne,.inl hV⟩,λp' e=>by cases e;exact h3,λp' i' c' e=>by rcases e with e|e<;>cases e;rfl⟩
  ·obtain⟨hc,hf⟩:=hZ.1 h;obtain⟨b1,b2⟩:=far p hc hf;exact⟨ae p,.inr ⟨p,i,c,rfl,.inl rfl⟩,b1,b2,λp' i' c' e=>by rcases e with e|e<;>cases e;rfl⟩
 ·rename_i p i c;obtain⟨hc,hf⟩:=hZ.1 h;obtain⟨b1,b2⟩:=far p hc hf;exact⟨ae p,.inr ⟨p,i,c,rfl,.inr rfl⟩,b1,b2,λp' i' c' e=>by rcases e with e|e<;>cases e;rfl⟩
 ·exact⟨ai,.inl (.inr rfl),⟨λp e=>(by cases e),.inl (Var.no d st)⟩,λp e=>(by cases e),λp i c e=>by rcases e with e|e<;>cases e⟩
 ·rename_i a hn hn2 ha;refine⟨ai,.inl (.inl h),⟨λp e=>(by cases e),.inl (Var.no d st)⟩,λp e=>(by cases e),λp i c e=> ?_⟩;rcases e with rfl|rfl
  ·exact absurd rfl (hn p i c)
  ·exact absurd rfl (hn2 p i c)
def Xs{o:O}{d:Option Nat}{k:Nat}(h:stays st o d k=ar):∃q,CH q (st.t k)/\Tu o q d st/\(∀p,q=ae p->p∉iw st o)/\∀p i c,(st.t k=.loc p i c\/st.t k=.view p i c)->q=ae p:=by
 unfold stays at h;split at h;·rename_i z zero;obtain⟨q,h1,h2,h3⟩:=AF h;exact⟨q,h1,⟨h2,.inl ⟨_,_,rfl⟩⟩,λp _=>by simp[iw],h3⟩
 ·rename_i z zero n ps;obtain⟨h,hps⟩:=hZ.1 h;obtain⟨q,h1,h2,h3⟩:=AF h;exact⟨q,h1,⟨h2,.inr (.inl ⟨_,_,_,_,rfl,aG.1 hps⟩)⟩,λp _=>by simp[iw],h3⟩
 ·obtain⟨q,h1,h2,h3,h4⟩:=alv h;exact⟨q,h1,⟨h2.1,.inr (.inr h2.2)⟩,h3,h4⟩
def ac5{o:O}{d:Option Nat}{s:Nat}{v a:A}(h2:s∉bT o):CB (st.aV s v) o d a=CB st o d a:=by
 have ht:iw (st.aV s v) o=iw st o:=by cases o with|call f args=>have e1:=fw (x:=f) (st:=st.aV s v) (st':=st) λi hi=>cR (λe=>h2 (by simp[bT,<-e,hi]));have e2:=Dk (xs:=args) (st:=st.aV s v) (st':=st) λi hi=>cR (λe=>h2 (by simp only[bT];exact aS _ (e▸hi)));simp only[iw,e1,e2,vm]|rq n a x=>have e1:=fw (x:=a) (st:=st.aV s v) (st':=st) λi hi=>cR (λe=>h2 (by simp[bT,<-e,hi]));simp only[iw,e1]|_=>rfl
 have hc:QT (st.aV s v) o=QT st o:=by cases o with|call f args=>have e1:=fw (x:=f) (st:=st.aV s v) (st':=st) λi hi=>cR (λe=>h2 (by simp[bT,<-e,hi]));have e2:=Dk (xs:=args) (st:=st.aV s v) (st':=st) λi hi=>cR (λe=>h2 (by simp only[bT];exact aS _ (e▸hi)));simp only[QT,e1,e2]|_=>rfl
 have hf:∀p,wQ (st.aV s v) o d p=wQ st o d p:=λp=>by simp only[wQ,ht]
 unfold CB;simp only[ht,hc,hf];rfl
def Xt{o:O}{d:Option Nat}{k s:Nat}{v:A}(h1:k≠s)(h2:s∉bT o):stays (st.aV s v) o d k=stays st o d k:=by
 have ht:iw (st.aV s v) o=iw st o:=by cases o with|call f args=>have e1:=fw (x:=f) (st:=st.aV s v) (st':=st) λi hi=>cR (λe=>h2 (by simp[bT,<-e,hi]));have e2:=Dk (xs:=args) (st:=st.aV s v) (st':=st) λi hi=>cR (λe=>h2 (by simp only[bT];exact aS _ (e▸hi)));simp only[iw,e1,e2,vm]|rq n a x=>have e1:=fw (x:=a) (st:=st.aV s v) (st':=st) λi hi=>cR (λe=>h2 (by simp[bT,<-e,hi]));simp only[iw,e1]|_=>rfl
 unfold stays;split;·rw[cR h1]
 ·rename_i z zero n ps;have e:∀l:List (Nat×bZ),(∀p∈l,s∉hY p.2)->(l.all λp=>noView (p.2.v (st.aV s v)))=l.all λp=>noView (p.2.v st):=λl hl=>by induction l with|nil=>rfl|cons p l ih=>rw[de,de,ih λx hx=>hl x (aL _ hx),fw (x:=p.2) (st:=st.aV s v) (st':=st) λi hi=>cR (λe=>hl p (by simp) (e▸hi))]
  rw[cR h1,e ps λp hp hi=>h2 (by simp only[bT,jq];exact⟨p,hp,hi⟩)]
 ·rw[cR h1];exact ac5 h2
def XL{q d:Option Nat}{s:Nat}{v:A}{o:O}(hw:wr o=ar)(hv:CH q v)(hs:s<gs)(hu:s∉bT o)(hd:d≠ae s)(hO:Tu o q d st)(ht:∀p,q=ae p->p∉iw st o):Rj q s v st (λst=>bt cf io d st o):=by
 have hV:(∀z zero,o≠ .alloc z zero)->(∀z zero n ps,o≠ .VL z zero n ps)->(Var q d st\/apM o q d st):=λh h'=>hO.2.elim (λ⟨z,zero,e⟩=>absurd e (h z zero)) λh''=>h''.elim (λ⟨z,zero,n,ps,e,_⟩=>absurd e (h' z zero n ps)) id
 have noN:(∀f args,o≠ .call f args)->¬apM o q d st:=λh hN=>by
  have:=hN.1
  cases o<;>first
   |exact absurd rfl (h _ _)
   |cases this
 cases o<;>first
  |(simp[wr]at hw;done)
  |skip
 ·have hV:=(hV (λ_ _ e=>by cases e) (λ_ _ _ _ e=>by cases e)).resolve_right (noN λ_ _ e=>by cases e);exact asF hv hV (fw λi hi=>cR (λe=>hu (by simp[bT,<-e,hi]))) hd
 ·exact anB hv hO.1 hd
 ·rename_i z zero n ps;have hps:∀p∈ps,s∉hY p.2:=λp hp hi=>hu (by simp only[bT,jq];exact⟨p,hp,hi⟩);rcases hO.2 with ⟨_,_,e⟩|⟨_,_,_,_,e,hn⟩|hV
  ·cases e
  ·cases e;exact ap7 hv hs hps hn hd hO.1
  ·exact asG hv hs (hV.resolve_right (noN λ_ _ e=>by cases e)) hps hd
 ·rename_i n a x;have hV:=(hV (λ_ _ e=>by cases e) (λ_ _ _ _ e=>by cases e)).resolve_right (noN λ_ _ e=>by cases e);refine aam hv hs hV ?_ ?_ hd ht;·exact fw λi hi=>cR (λe=>hu (by simp[bT,<-e,hi]))
  ·exact fw λi hi=>cR (λe=>hu (by simp[bT,<-e,hi]))
 ·rename_i f args;have hf:f.v (st.aV s v)=f.v st:=fw λi hi=>cR (λe=>hu (by simp[bT,<-e,hi]));have ha:args.map (bZ.v (st.aV s v))=args.map (bZ.v st):=Dk λi hi=>cR (λe=>hu (by simp only[bT];exact aS _ (e▸hi)));rcases hV (λ_ _ e=>by cases e) (λ_ _ _ _ e=>by cases e)with hV|⟨hc,hfr⟩
  ·exact ap9 hv hs hV hf ha hd ht
  ·simp only[QT,aj,aG]at hc;refine anF hv hs (λp hp=>(Js (hfr p hp)).1) hf ha hd hc.1 (λg caps e a hm=> ?_) ht (λi hi p hp=>(Js (hfr p hp)).2.2.1 i hi p rfl) (λi hi p hp=>(Js (hfr p hp)).2.2.2.1 i hi p rfl);have:=hc.2;rw[e]at this;exact aG.1 this a hm
def ang{d:Option Nat}{k:Nat}{o:O}(hw:wr o=ar)(hk:stays st o d k=ar)(hs:k<gs)(hu:k∉bT o)(hd:d≠ae k){st1:St}(h:bt cf io d st o=ae st1): st1.t k=st.t k/\∀p i c,(st.t k=.loc p i c\/st.t k=.view p i c)->st1.r p=st.r p:=by obtain⟨q,h1,h2,h3,h4⟩:=Xs hk;have he:=XL (cf:=cf) (io:=io) hw h1 hs hu hd h2 h3;have hp:=he.put;rw[W3]at hp;have hp:bt cf io d st o=(bt cf io d st o).map (·.aV k (st.t k)):=hp;rw[h]at hp;simp only[az,aq]at hp;refine⟨by rw[hp];simp[St.aV],λp i c e=>he.fk st1 h p (h4 p i c e)⟩
def yR{d:Option Nat}{o:O}(hsm:simple o=ar)(h:∀k∈bT o,st.t k=st'.t k/\∀p i c,(st.t k=.loc p i c\/st.t k=.view p i c)->st.r p=st'.r p):bJ cf io d st o=bJ cf io d st' o:=by
 have hv:∀x:bZ,(∀i∈hY x,i∈bT o)->x.v st=x.v st':=λx hx=>fw λi hi=>(h i (hx i hi)).1;have at_:∀k,k∈bT o->bZ.v st (.t k)=st.t k/\bZ.v st' (.t k)=st.t k:=λk hk=>⟨rfl,(h k hk).1.symm⟩
 cases o<;>first
  |(simp[simple]at hsm;done)
  |skip
 ·rename_i x;have:=hv x (by simp[bT]);simp only[bJ,this]
 ·rename_i n x;cases x with|c a=>simp[simple]at hsm|t k=>obtain⟨h1,h2⟩:=at_ k (by simp[bT,hY]);have h3:=λp i c e=>(h k (by simp[bT,hY])).2 p i c (.inl e);simp only[bJ,h1,h2];split;(·rename_i q i c e;rw[h3 _ _ _ e]);(·rfl);·rfl
 ·rename_i x;cases x with|c a=>simp[simple]at hsm|t k=>obtain⟨h1,h2⟩:=at_ k (by simp[bT,hY]);have h3:=λp i c e=>(h k (by simp[bT,hY])).2 p i c (.inl e);simp only[bJ,h1,h2];split;(·rename_i q i c e;rw[h3 _ _ _ e]);(·rfl);(·rfl);·rfl
 ·rename_i op x y;have e1:=hv x λi hi=>by simp[bT,hi]
  have e2:=hv y λi hi=>by simp[bT,hi]
  simp only[bJ,e1,e2]
 ·rename_i op x;have:=hv x (by simp[bT]);simp only[bJ,this]
 ·rename_i off x;cases x with|c a=>simp[simple]at hsm|t k=>obtain⟨h1,h2⟩:=at_ k (by simp[bT,hY]);have h3:=λp i c e=>(h k (by simp[bT,hY])).2 p i c (.inl e);simp only[bJ,h1,h2];split;(·rename_i q i c e;rw[h3 _ _ _ e]);(·rfl);·rfl
 ·rename_i off n x;have:=hv x (by simp[bT]);simp only[bJ,this]
 ·rename_i z x i;cases x with|c a=>simp[simple]at hsm|t k=>obtain⟨h1,h2⟩:=at_ k (by simp[bT,hY]);have h3:=λp i c e=>(h k (by simp[bT,hY])).2 p i c (.inr e);(have e2:=hv i λi hi=>by simp[bT,hi]);simp only[bJ,h1,h2,e2];split;(·rename_i e;rw[h3 _ _ _ e]);(·rfl);·rfl
 ·rename_i len z x i;cases x with|c a=>simp[simple]at hsm|t k=>obtain⟨h1,h2⟩:=at_ k (by simp[bT,hY]);have h3:=λp i c e=>(h k (by simp[bT,hY])).2 p i c (.inl e);(have e2:=hv i λi hi=>by simp[bT,hi]);simp only[bJ,h1,h2,e2];split;(·rename_i e;rw[h3 _ _ _ e]);(·rfl);·rfl
 ·rename_i x y;have e1:=hv x λi hi=>by simp[bT,hi]
  have e2:=hv y λi hi=>by simp[bT,hi]
  simp only[bJ,e1,e2]
 ·rename_i x
  cases x with
  |c a=>simp[simple]at hsm
  |t k=>
   obtain⟨h1,h2⟩:=at_ k (by simp[bT,hY]);have h3:=λp i c e=>(h k (by simp[bT,hY])).2 p i c (.inr e);simp only[bJ,h1,h2,akR]
   split<;>first
    |rfl
    |(rename_i q o n e;rw[h3 _ _ _ e])
 ·rename_i x;have:=hv x (by simp[bT]);simp only[bJ,this]
 ·rename_i x i;have:=hv x (by simp[bT]);simp only[bJ,this]
def aco{d:Option Nat}{o y:O}{dy:Option Nat}{v:A}(hp:pure v=ar\/adr o=ar)(h:∀k∈bT o,stays st y dy k=ar)(he:bJ cf io d st o=ae v):∃q,CH q v/\Tu y q dy st/\∀p,q=ae p->p∉iw st y:=by
 have no:∀u:A,pure u=ar->∃q,CH q u/\Tu y q dy st/\∀p,q=ae p->p∉iw st y:=λu hu=>⟨ai,.inl (.inl hu),Tu.no y dy st,λp e=>(by cases e)⟩;have lc:∀(k p i c i' c':Nat),stays st y dy k=ar->(st.t k=.loc p i c\/st.t k=.view p i c)->∃q,CH q (.loc p i' c')/\Tu y q dy st/\∀p,q=ae p->p∉iw st y:=λk p i c i' c' hk e=>by obtain⟨q,h1,h2,h3,h4⟩:=Xs hk;exact⟨q,.inr ⟨p,i',c',h4 _ _ _ e,.inl rfl⟩,h2,h3⟩
 rcases hp with hp|hp
 ·exact no v hp
 ·cases o<;>first
   |(simp[adr]at hp;done)
   |skip
  ·rename_i x;cases x with|c a=>simp[adr]at hp|t k=>have hk:=h k (by simp[bT,hY]);simp only[bJ,bZ.v]at he;obtain rfl:=cq he;obtain⟨q,h1,h2,h3,_⟩:=Xs hk;exact⟨q,h1,h2,h3⟩
  ·rename_i x;cases x with|c a=>simp[adr]at hp|t k=>have hk:=h k (by simp[bT,hY]);simp only[bJ,bZ.v]at he;split at he;(·rename_i p i c e;obtain⟨R,_,he⟩:=au.1 he;subst he;exact lc k p i c i c hk (.inl e));(·cases he;exact no _ rfl);(·rename_i f caps e;cases he;refine no _ ?_;unfold stays at hk;rw[e]at hk;split at hk<;>first|exact hk|exact(hZ.1 hk).1);·cases he
  ·rename_i off x;cases x with|c a=>simp[adr]at hp|t k=>have hk:=h k (by simp[bT,hY]);simp only[bJ,bZ.v]at he;split at he;(·rename_i p i c e;obtain⟨R,_,he⟩:=au.1 he;subst he;exact lc k p i c i _ hk (.inl e));(·cases he;exact no _ rfl);·cases he
  ·rename_i z x i;cases x with|c a=>simp[adr]at hp|t k=>have hk:=h k (by simp[bT,hY]);simp only[bJ]at he;split at he;(·rename_i p j c _ e;have e:st.t k=.view p j c:=e;obtain⟨R,_,he⟩:=ak.1 he;split at he;(·cases he;exact lc k p j c _ _ hk (.inr e));·cases he);(·split at he;(·obtain⟨R,_,he⟩:=au.1 he;subst he;exact no _ rfl);·cases he);·cases he
  ·rename_i len z x i;cases x with|c a=>simp[adr]at hp|t k=>have hk:=h k (by simp[bT,hY]);simp only[bJ]at he;split at he;(·rename_i p j c _ e;have e:st.t k=.loc p j c:=e;split at he;(·obtain⟨R,_,he⟩:=au.1 he;subst he;exact lc k p j c j _ hk (.inl e));·cases he);(·split at he;(·cases he;exact no _ rfl);·cases he);·cases he
structure RW(x y:Op):Prop where
 xa:x.av=[]
 xw:x.w=aw
 yw:y.w=ar
 yq:y.pq=aw
 sm:simple x.o=ar
 pq:x.pq=ar\/adr x.o=ar
 wr:wr y.o=ar
 xg:x.g=ai
 yg:y.g=ai
 use:∀k∈bT x.o,k∈y.av/\k∉bT y.o/\y.d≠ae k/\k<gs
 dst:∀s,x.d=ae s->s<gs/\s∉bT y.o/\y.d≠ae s/\s∉y.av
def aeX{x y:Op}(h:agf x y=ar):RW x y:=by
 simp only[agf,aj,qk,cn,cj,ig,aG,ck,ax,cG,ja,Ly]at h;obtain⟨hq,⟨⟨⟨⟨⟨⟨⟨⟨h0,h1⟩,h2⟩,h3⟩,h4⟩,h5⟩,h6⟩,h7⟩,h8⟩,h9⟩:=h;refine⟨h0,h1,h2,hq,h3,h4,h5,h6,h7,λk hk=> ?_,λs hs=> ?_⟩;·obtain⟨⟨⟨a,b⟩,c⟩,e⟩:=h8 k hk;exact⟨a,b,c,e⟩
 ·rw[hs]at h9;simp only[aj,cn,ax,cG,ja,Ly,ck]at h9;obtain⟨⟨⟨a,b⟩,c⟩,e⟩:=h9;exact⟨a,b,c,e⟩
def kj{all:List Op}{x:Op}(hw:x.w=aw)(hg:x.g=ai)(st:St):stepG cf io all st x=(bJ cf io x.d st x.o).bind λv=>if fP st x v then ae (st.put x.d v)else ai:=by simp only[stepG,hg,guardOf,step,hw,ao,aH]
def DF{all:List Op}{x:Op}(hw:x.w=aw)(ha:x.av=[])(hg:x.g=ai)(st:St):stepG cf io all st x=(bJ cf io x.d st x.o).bind λv=>if !x.pq||pure v then ae (st.put x.d v)else ai:=by simp only[kj hw hg,fP,ha,fK,aeG]
def uL{all:List Op}{x:Op}(hw:x.w=ar)(hp:x.pq=aw)(hg:x.g=ai)(st:St):stepG cf io all st x=if x.av.all (stays st x.o x.d)then bt cf io x.d st x.o else ai:=by simp only[stepG,hg,guardOf,step,anG,hw,hp,fF,aar,jD,qi,ao,aH,aC]
def ahg{x y:Op}(h:RW x y){st st':St}(hs:y.av.all (stays st y.o y.d)=ar)(hst:bt cf io y.d st y.o=ae st'):bJ cf io x.d st x.o=bJ cf io x.d st' x.o:=by rw[aG]at hs;refine yR h.sm λk hk=> ?_;obtain⟨h1,h2,h3,h4⟩:=h.use k hk;obtain⟨e1,e2⟩:=ang h.wr (hs k h1) h4 h2 h3 hst;exact⟨e1.symm,λp i c e=>(e2 p i c e).symm⟩
def avT{x y:Op}(h:RW x y){st:St}(hs:y.av.all (stays st y.o y.d)=ar){v:A}(hv:bJ cf io x.d st x.o=ae v)(hq:(!x.pq||pure v)=ar):∃q,CH q v/\Tu y.o q y.d st/\∀p,q=ae p->p∉iw st y.o:=by
 rw[aG]at hs;refine aco (o:=x.o) ?_ (λk hk=>hs k (h.use k hk).1) hv;rcases h.pq with e|e
 ·rw[e]at hq;exact .inl (by simpa using hq)
 ·exact .inr e
def arc{x y:Op}(h:RW x y){st:St}{s:Nat}(hd:x.d=ae s)(hs:y.av.all (stays st y.o y.d)=ar){v:A}(hv:bJ cf io x.d st x.o=ae v)(hq:(!x.pq||pure v)=ar):
 bt cf io y.d (st.aV s v) y.o=(bt cf io y.d st y.o).map (·.aV s v):=by
 obtain⟨q,h1,h2,h3⟩:=avT h hs hv hq
 obtain⟨d1,d2,d3,d4⟩:=h.dst s hd
 exact(XL (cf:=cf) (io:=io) h.wr h1 d1 d2 d3 h2 h3).put
def arb{x y:Op}(h:RW x y){st:St}{s:Nat}(hd:x.d=ae s)(v:A):y.av.all (stays (st.aV s v) y.o y.d)=y.av.all (stays st y.o y.d):=by
 obtain⟨d1,d2,d3,d4⟩:=h.dst s hd;have:∀l:List Nat,s∉l->l.all (stays (st.aV s v) y.o y.d)=l.all (stays st y.o y.d):=λl hl=>by induction l with|nil=>rfl|cons k l ih=>simp only[bl,not_or]at hl;rw[de,de,ih hl.2,Xt (λe=>hl.1 e.symm) d2]
 exact this _ d4
def ajw{all:List Op}{x y:Op}(h:RW x y){st s1 s2:St}(h1:stepG cf io all st x=ae s1)(h2:stepG cf io all s1 y=ae s2):∃t1,stepG cf io all st y=ae t1/\stepG cf io all t1 x=ae s2:=by
 rw[DF h.xw h.xa h.xg]at h1;rw[uL h.yw h.yq h.yg]at h2;obtain⟨v,hv,h1⟩:=ak.1 h1;split at h1
 ·rename_i hq;cases h1;split at h2;·rename_i hs;cases hd:x.d with|none=>rw[hd]at h2 hs;have h2:bt cf io y.d st y.o=ae s2:=h2;have hs:y.av.all (stays st y.o y.d)=ar:=hs;refine⟨s2,by rw[uL h.yw h.yq h.yg,aJ hs,h2],?_⟩;rw[DF h.xw h.xa h.xg,<-ahg h hs h2,hv,af,aJ hq,hd];rfl|some s=>rw[hd]at h2 hs;have h2:bt cf io y.d (st.aV s v) y.o=ae s2:=h2;have hs:y.av.all (stays (st.aV s v) y.o y.d)=ar:=hs;rw[arb h hd]at hs;rw[arc h hd hs hv hq]at h2;obtain⟨t1,e1,e2⟩:=au.1 h2;refine⟨t1,by rw[uL h.yw h.yq h.yg,aJ hs,e1],?_⟩;rw[DF h.xw h.xa h.xg,<-ahg h hs e1,hv,af,aJ hq,hd,<-e2];rfl
  ·cases h2
 ·cases h1
def ajx{all:List Op}{x y:Op}(h:RW y x){st s1 s2:St}(h1:stepG cf io all st x=ae s1)(h2:stepG cf io all s1 y=ae s2):∃t1,stepG cf io all st y=ae t1/\stepG cf io all t1 x=ae s2:=by
 rw[uL h.yw h.yq h.yg]at h1;rw[DF h.xw h.xa h.xg]at h2;obtain⟨v,hv,h2⟩:=ak.1 h2;split at h1
 ·rename_i hs;rw[<-ahg h hs h1]at hv;split at h2;·rename_i hq;cases h2;refine⟨st.put y.d v,by rw[DF h.xw h.xa h.xg,hv,af,aJ hq],?_⟩;rw[uL h.yw h.yq h.yg];cases hd:y.d with|none=>show(if x.av.all (stays st x.o x.d)then bt cf io x.d st x.o else ai)=_;rw[aJ hs,h1];rfl|some s=>show(if x.av.all (stays (st.aV s v) x.o x.d)then bt cf io x.d (st.aV s v) x.o else ai)=_;rw[arb h hd,aJ hs,arc h hd hs hv hq,h1];rfl
  ·cases h2
 ·cases h1
def acG{r r':Nat->Option dF}{a:A}(h:∀p i c,(a=.loc p i c\/a=.view p i c)->r p=r' p):gj r a=gj r' a:=by
 cases a<;>first
  |rfl
  |(rename_i q i c;simp only[gj];rw[h q i c (by simp)])
def acF{r r':Nat->Option dF}{a:A}(h:cr a=ar):gj r a=gj r' a:=by
 cases a<;>first
  |rfl
  |simp[cr]at h
def aaO{r r':Nat->Option dF}{a:A}(h:pure a=ar):∀c∈a.cells,gj r c=gj r' c:=by
 intro c hc
 cases a<;>first
  |(simp only[A.cells,aX]at hc;subst hc;exact acF h)
  |skip
 rename_i cs;simp only[pure,aG]at h;exact acF (h c hc)
def akw{r r':Nat->Option dF}{d:Option Nat}{a:A}(hs:jM d a=ar)(h:∀p i c,(a=.loc p i c\/a=.view p i c)->r p=r' p):∀c∈a.cells,gj r c=gj r' c:=by
 unfold jM at hs;split at hs;·intro c hc;simp only[A.cells,aX]at hc;subst hc;exact acG h
 ·intro c hc;simp only[A.cells,aX]at hc;subst hc;exact acG h
 ·exact aaO hs
def ah0{r r':Nat->Option dF}:∀{l:List A},(∀c∈l,gj r c=gj r' c)->l.all (gj r)=l.all (gj r')
 | [],_=>rfl
 |a::l,h=>by rw[de,de,h a (by simp),ah0 λc hc=>h c (aL _ hc)]
def amu:∀{ps:List (Nat×Nat×bZ)} {cs:List A},(∀p∈ps,p.2.2.v st=p.2.2.v st'/\∀c∈(p.2.2.v st').cells,gj st.r c=gj st'.r c)->zC st cs ps=zC st' cs ps
 | [],_,_=>rfl
 |(off,z,x)::ps,cs,h=>by
  obtain⟨h1,h2⟩:=h (off,z,x) (by simp)
  have ih:∀cs',zC st cs' ps=zC st' cs' ps:=λcs'=>amu λp hp=>h p (aL _ hp)
  have h1:x.v st=x.v st':=h1
  have h3:(x.v st').cells.all (gj st.r)=(x.v st').cells.all (gj st'.r):=ah0 h2
  simp only[zC,h1,h3,ih]
def aeh{d e:Option Nat}{o:O}(hsm:aaj o=ar)(h:∀k∈bT o,(st.t k=st'.t k/\∀p i c,(st.t k=.loc p i c\/st.t k=.view p i c)->st.r p=st'.r p)/\jM e (st.t k)=ar):bJ cf io d st o=bJ cf io d st' o:=by
 by_cases hs:simple o=ar;·exact yR hs λk hk=>(h k hk).1
 ·cases o<;>first
   |(exact absurd hsm hs)
   |skip
  rename_i zero ps;simp only[aaj,aG]at hsm;simp only[bJ];rw[amu λp hp=> ?_];cases hx:p.2.2 with|c a=>have:=hsm p hp;rw[hx]at this;exact⟨rfl,aaO this⟩|t k=>have hk:=h k (by simp only[bT];exact jq.2 ⟨p,hp,by rw[hx];simp[hY]⟩);have e1:st.t k=st'.t k:=hk.1.1;refine⟨e1,?_⟩;show∀c∈(st'.t k).cells,_;rw[<-e1];exact akw hk.2 hk.1.2
def ajv{d:Nat}{a:A}(h:O7 (ae d) a=ar):cJ (ju d) a=a:=by
 unfold O7 at h;split at h
 ·rename_i cs;rw[aG]at h;simp only[cJ];congr 1;refine agI λc hc=> ?_;have hk:=h c hc;unfold ju;split;·rename_i hr;exfalso;unfold ari at hk;split at hk;(·simp only[iY,b9]at hr;subst hr;simp at hk);(·simp only[iY,b9]at hr;subst hr;simp at hk);·rw[UZ hk]at hr;cases hr
  ·rfl
 ·obtain⟨q,f1,f2,_⟩:=AF h;exact f1.kill λp hp e=>f2 p hp (by rw[e])
structure RA(x y:Op)(d:Nat):Prop where
 xw:x.w=aw
 yw:y.w=ar
 yq:y.pq=aw
 sm:aaj x.o=ar
 al:∃z zero,y.o=.alloc z zero
 xg:x.g=ai
 yg:y.g=ai
 ya:y.av=[]
 yd:y.d=ae d
 xa:d∈x.av
 xu:d∉bT x.o
 xd:x.d≠ae d
 dg:d≠gs
 xg':Mu x=[]
 xg1:gs+1∉x.av
 xg2:gs+2∉x.av
def aeS{x y:Op}(h:aga x y=ar):∃d,RA x y d:=by
 simp only[aga,aj,cn,ig,qk]at h;obtain⟨hq,⟨⟨⟨⟨⟨⟨h1,h2⟩,h3⟩,h4⟩,h5⟩,h6⟩,h7⟩,h8⟩:=h
 cases hd:y.d with
 |none=>rw[hd]at h8;simp at h8
 |some d=>
  rw[hd]at h8;simp only[aj,cn,ck,ax,cG,ja,Ly]at h8;obtain⟨⟨⟨⟨⟨⟨a1,a2⟩,a3⟩,a4⟩,a5⟩,a6⟩,a7⟩:=h8;refine⟨d,h1,h2,hq,h3,?_,h5,h6,h7,hd,a1,a2,a3,a4,by simp[Mu,a5],a6,a7⟩
  cases ho:y.o<;>first
   |(rw[ho]at h4;simp[amA]at h4;done)
   |exact⟨_,_,rfl⟩
def an2{d:Nat}{a:A}(h:jM (ae d) (cJ (ju d) a)=ar):cJ (ju d) a=a:=by
 have one:∀b:A,cr (ju d b)=ar->ju d b=b:=λb hb=>by unfold ju at hb⊢;split;(·rename_i hr;rw[aJ hr]at hb;simp[cr]at hb);·rfl
 cases a<;>first
  |rfl
  |skip
 all_goals first
  |(simp only[cJ,jM,pure]at h⊢
    simp only[aG]at h
    congr 1
    exact agI λc hc=>one c (h _ (dK.2 ⟨c,hc,rfl⟩)))
  |(simp[cJ,jM,pure,cr]at h;done)
  |(simp only[cJ,jM,pure,cr,qk,List.map_eq_nil_iff]at h⊢
    subst h;rfl)
  |(simp only[cJ]at h⊢
    unfold ju at h⊢
    split
    ·rename_i hr;rw[aJ hr]at h;simp[jM,pure,cr]at h
    ·rfl)
def amS{x y:Op}{d:Nat}(h:RA x y d){st s1:St}(h1:bt cf io y.d st y.o=ae s1){v:A}(hv:bJ cf io x.d st x.o=ae v/\fP st x v=ar\/bJ cf io x.d s1 x.o=ae v/\fP s1 x v=ar): bJ cf io x.d st x.o=ae v/\fP st x v=ar/\bJ cf io x.d s1 x.o=ae v/\fP s1 x v=ar/\bt cf io y.d (st.put x.d v) y.o=ae (s1.put x.d v):=by
 obtain⟨z,zero,ho⟩:=h.al;have ht:∀k,k≠d->s1.t k=cJ (ju d) (st.t k):=λk hk=>by rw[ho,h.yd]at h1;simp only[bt]at h1;split at h1;(·cases h1;simp[St.put,St.aV,St.aD,St.kill,St.map,hk]);·cases h1
 have hr:∀p,p≠d->s1.r p=st.r p:=λp hp=>by rw[ho,h.yd]at h1;simp only[bt]at h1;split at h1;(·cases h1;simp[St.put,St.aV,St.aD,St.kill,St.map,hp]);·cases h1
 have same:∀k∈bT x.o,(st.t k=s1.t k/\∀p i c,(st.t k=.loc p i c\/st.t k=.view p i c)->st.r p=s1.r p)/\jM (ae d) (st.t k)=ar:=by intro k hk;have hkd:k≠d:=λe=>h.xu (e▸hk);(have chk:jM (ae d) (st.t k)=ar\/jM (ae d) (s1.t k)=ar:=by(have get:∀s:St,fP s x v=ar->jM (ae d) (s.t k)=ar:=λs e=>by simp only[fP,aj,aG]at e;have e':=e.2 d h.xa;rw[aO h.dg,aO (show¬d=gs+1 fromλe=>h.xg1 (e▸h.xa)),aO (show¬d=gs+2 fromλe=>h.xg2 (e▸h.xa))]at e';simp only[aj,aG]at e';exact e'.2 k hk);exact hv.imp (λe=>get _ e.2) (λe=>get _ e.2));(have e:st.t k=s1.t k/\jM (ae d) (st.t k)=ar:=by(rcases chk with c|c);(·obtain⟨q,f1,f2,_⟩:=AF c;exact⟨((ht k hkd).trans (f1.kill λp hp e=>f2 p hp (by rw[e]))).symm,c⟩);·rw[ht k hkd]at c⊢;have:=an2 c;exact⟨this.symm,by rw[this]at c;exact c⟩);refine⟨⟨e.1,λp i c hpc=> ?_⟩,e.2⟩;obtain⟨q,f1,f2,f3⟩:=AF e.2;have hq:=f3 p i c hpc;exact(hr p λe=>f2 p hq (by rw[e])).symm
 have ev:=aeh (cf:=cf) (io:=io) (d:=x.d) h.sm same;have ro:fP st x v=fP s1 x v:=LM (.inr ⟨h.xg1,h.xg2⟩) λk hk=>(same k (by rw[h.xg',bS]at hk;exact hk)).1.1;have hall:bJ cf io x.d st x.o=ae v/\fP st x v=ar:=by(rcases hv with e|e);(·exact e);·exact⟨ev.trans e.1,ro.trans e.2⟩
 refine⟨hall.1,hall.2,ev▸hall.1,ro▸hall.2,?_⟩;cases hx:x.d with|none=>exact h1|some s=>(have hf:O7 (ae d) v=ar:=by have e:=hall.2;simp only[fP,aj,aG]at e;have e':=e.2 d h.xa;rw[aO h.dg,aO (show¬d=gs+1 fromλe=>h.xg1 (e▸h.xa)),aO (show¬d=gs+2 fromλe=>h.xg2 (e▸h.xa))]at e';simp only[aj]at e';exact e'.1);have hds:(ae d:Option Nat)≠ae s:=λe=>h.xd (hx.trans e.symm);have hp:=anC (cf:=cf) (io:=io) (i:=d) (s:=s) (st:=st) (ajv hf) (z:=z) (zero:=zero) hds;rw[ho,h.yd]at h1⊢;show bt cf io (ae d) (st.aV s v) (.alloc z zero)=ae (s1.aV s v);rw[hp,h1];rfl
def ajy{all:List Op}{x y:Op}{d:Nat}(h:RA x y d){st s1 s2:St}(h1:stepG cf io all st x=ae s1)(h2:stepG cf io all s1 y=ae s2):∃t1,stepG cf io all st y=ae t1/\stepG cf io all t1 x=ae s2:=by
 rw[kj h.xw h.xg]at h1;rw[uL h.yw h.yq h.yg]at h2;simp only[h.ya,fK,aC]at h2;obtain⟨v,hv,h1⟩:=ak.1 h1;split at h1
 ·rename_i hq;cases h1;have hy:∃t1,bt cf io y.d st y.o=ae t1:=by obtain⟨z,zero,ho⟩:=h.al;rw[ho,h.yd]at h2⊢;simp only[bt]at h2⊢;split at h2;(·rename_i hc;rw[aJ hc];exact⟨_,rfl⟩);·cases h2
  obtain⟨t1,ht1⟩:=hy;obtain⟨_,_,e1,e2,e3⟩:=amS h ht1 (.inl ⟨hv,hq⟩);rw[e3]at h2;cases h2;refine⟨t1,?_,?_⟩;·rw[uL h.yw h.yq h.yg];simp only[h.ya,fK,aC];exact ht1
  ·rw[kj h.xw h.xg,e1,af,aJ e2]
 ·cases h1
def ajz{all:List Op}{x y:Op}{d:Nat}(h:RA y x d){st s1 s2:St}(h1:stepG cf io all st x=ae s1)(h2:stepG cf io all s1 y=ae s2):∃t1,stepG cf io all st y=ae t1/\stepG cf io all t1 x=ae s2:=by
 rw[uL h.yw h.yq h.yg]at h1;simp only[h.ya,fK,aC]at h1;rw[kj h.xw h.xg]at h2;obtain⟨v,hv,h2⟩:=ak.1 h2;split at h2
 ·rename_i hq;cases h2;obtain⟨e1,e2,_,_,e3⟩:=amS h h1 (.inr ⟨hv,hq⟩);refine⟨st.put y.d v,?_,?_⟩;·rw[kj h.xw h.xg,e1,af,aJ e2]
  ·rw[uL h.yw h.yq h.yg];simp only[h.ya,fK,aC];exact e3
 ·cases h2
structure RB(x y:Op)(s:Nat):Prop where
 xa:x.av=[gs]
 xw:x.w=aw
 yw:y.w=ar
 yq:y.pq=aw
 ad:adr x.o=ar
 wr:wr y.o=ar
 na:(∀z zero,y.o≠ .alloc z zero)/\∀z zero n ps,y.o≠ .VL z zero n ps
 xg:x.g=ai
 yg:y.g=ai
 use:∀k∈bT x.o,k∈y.av/\k∉bT y.o/\y.d≠ae k/\k<gs
 xd:x.d=ae s
 sg:s<gs
 su:s∉bT y.o
 sy:y.d≠ae s
 sa:s∈y.av
 sx:s∉bT x.o
def aeT{x y:Op}(h:agb x y=ar):∃s,RB x y s:=by simp only[agb,aj,b9,cn,ig,aG,ck,ax,cG,ja,Ly]at h;obtain⟨hq,⟨⟨⟨⟨⟨⟨⟨⟨h0,h1⟩,h2⟩,h3⟩,h4⟩,h5⟩,h6⟩,h7⟩,h8⟩,h9⟩:=h;cases hd:x.d with|none=>rw[hd]at h9;simp at h9|some s=>rw[hd]at h9;simp only[aj,cn,ck,ax,cG,ja,Ly]at h9;obtain⟨⟨⟨⟨a1,a2⟩,a3⟩,a4⟩,a5⟩:=h9;refine⟨s,h0,h1,h2,hq,h3,h4,⟨λz zero e=>by rw[e]at h5;simp at h5,λz zero n ps e=>by rw[e]at h5;simp at h5⟩,h6,h7,λk hk=> ?_,hd,a1,a2,a3,a4,a5⟩;obtain⟨⟨⟨a,b⟩,c⟩,e⟩:=h8 k hk;exact⟨a,b,c,e⟩
def Md{o:O}{d:Option Nat}{k:Nat}(hn:(∀z zero,o≠ .alloc z zero)/\∀z zero n ps,o≠ .VL z zero n ps):stays st o d k=CB st o d (st.t k):=by
 cases o<;>first
  |rfl
  |exact absurd rfl (hn.1 _ _)
  |exact absurd rfl (hn.2 _ _ _ _)
def aks{o:O}(h:adr o=ar):simple o=ar:=by
 unfold adr at h
 split at h<;>first
  |rfl
  |cases h
def aoE{o:O}{d:Option Nat}{p i c i' c':Nat}(h:CB st o d (.view p i c)=ar):CB st o d (.loc p i' c')=ar:=by simp only[CB]at h⊢;rw[h,Bool.or_true]
def BM{o:O}{d:Option Nat}{v:A}(h:pure v=ar):CB st o d v=ar:=by
 cases v<;>first
  |exact h
  |simp[pure,cr]at h
def anA{d:Option Nat}{o y:O}{dy:Option Nat}{v:A}(hn:(∀z zero,y≠ .alloc z zero)/\∀z zero n ps,y≠ .VL z zero n ps)(hp:adr o=ar)(h:∀k∈bT o,stays st y dy k=ar)(he:bJ cf io d st o=ae v):CB st y dy v=ar:=by
 cases o<;>first
  |(simp[adr]at hp;done)
  |skip
 ·rename_i x;cases x with|c a=>simp[adr]at hp|t k=>have hk:=h k (by simp[bT,hY]);simp only[bJ,bZ.v]at he;obtain rfl:=cq he;rw[Md hn]at hk;exact hk
 ·rename_i x;cases x with|c a=>simp[adr]at hp|t k=>have hk:=h k (by simp[bT,hY]);simp only[bJ,bZ.v]at he;rw[Md hn]at hk;split at he;(·rename_i p i c e;obtain⟨R,_,he⟩:=au.1 he;subst he;rw[e]at hk;exact hk);(·cases he;exact BM rfl);(·rename_i f caps e;cases he;rw[e]at hk;exact BM hk);·cases he
 ·rename_i off x;cases x with|c a=>simp[adr]at hp|t k=>have hk:=h k (by simp[bT,hY]);simp only[bJ,bZ.v]at he;rw[Md hn]at hk;split at he;(·rename_i p i c e;obtain⟨R,_,he⟩:=au.1 he;subst he;rw[e]at hk;exact hk);(·cases he;exact BM rfl);·cases he
 ·rename_i z x i;cases x with|c a=>simp[adr]at hp|t k=>have hk:=h k (by simp[bT,hY]);simp only[bJ]at he;split at he;(·rename_i p j c _ e;have e:st.t k=.view p j c:=e;rw[Md hn,e]at hk;obtain⟨R,_,he⟩:=ak.1 he;split at he;(·cases he;exact aoE hk);·cases he);(·split at he;(·obtain⟨R,_,he⟩:=au.1 he;subst he;exact BM rfl);·cases he);·cases he
 ·rename_i len z x i;cases x with|c a=>simp[adr]at hp|t k=>have hk:=h k (by simp[bT,hY]);simp only[bJ]at he;rw[Md hn]at hk;split at he;(·rename_i p j c _ e;have e:st.t k=.loc p j c:=e;split at he;(·obtain⟨R,_,he⟩:=au.1 he;subst he;rw[e]at hk;exact hk);·cases he);(·split at he;(·cases he;exact BM rfl);·cases he);·cases he
def HG{x:Op}{s:Nat}(ha:x.av=[gs])(hd:x.d=ae s)(v:A):fP st x v=((!x.pq||pure v)&&isAny (st.t s)):=by simp[fP,ha,hd]
def aiu{a:A}(h:isAny a=ar):a=.any:=by cases a<;>first|rfl|simp[isAny]at h
def amT{x y:Op}{s:Nat}(h:RB x y s){st:St}(hs:y.av.all (stays st y.o y.d)=ar){st1:St}(h1:bt cf io y.d st y.o=ae st1): bJ cf io x.d st x.o=bJ cf io x.d st1 x.o/\st1.t s=st.t s/\∀v,bJ cf io x.d st x.o=ae v-> y.av.all (stays (st.aV s v) y.o y.d)=ar/\bt cf io y.d (st.aV s v) y.o=ae (st1.aV s v):=by
 rw[aG]at hs;have hstay:∀k∈y.av,k∉bT y.o->y.d≠ae k->k<gs->st1.t k=st.t k/\∀p i c,(st.t k=.loc p i c\/st.t k=.view p i c)->st1.r p=st.r p:=λk hk a b c=>ang h.wr (hs k hk) c a b h1;refine⟨yR (aks h.ad) λk hk=> ?_,(hstay s h.sa h.su h.sy h.sg).1,λv hv=>⟨?_,?_⟩⟩;·obtain⟨a,b,c,e⟩:=h.use k hk;have:=hstay k a b c e;exact⟨this.1.symm,λp i c' hh=>(this.2 p i c' hh).symm⟩
 ·rw[aG];intro k hk;by_cases hks:k=s;·subst hks;rw[Md h.na];(have e:(st.aV k v).t k=v:=by simp[St.aV]);rw[e,ac5 h.su];exact anA h.na h.ad (λj hj=>hs j (h.use j hj).1) hv
  ·rw[Xt hks h.su];exact hs k hk
 ·obtain⟨q,f1,f2,f3⟩:=aco (o:=x.o) (.inr h.ad) (λk hk=>hs k (h.use k hk).1) hv;rw[(XL (cf:=cf) (io:=io) h.wr f1 h.sg h.su h.sy f2 f3).put,h1];rfl
def ajA{all:List Op}{x y:Op}{s:Nat}(h:RB x y s){st s1 s2:St}(h1:stepG cf io all st x=ae s1)(h2:stepG cf io all s1 y=ae s2):∃t1,stepG cf io all st y=ae t1/\stepG cf io all t1 x=ae s2:=by
 rw[kj h.xw h.xg]at h1;rw[uL h.yw h.yq h.yg]at h2;obtain⟨v,hv,h1⟩:=ak.1 h1;split at h1
 ·rename_i hq;cases h1;rw[h.xd]at h2;split at h2;·rename_i hs;have h2:bt cf io y.d (st.aV s v) y.o=ae s2:=h2;have hs:y.av.all (stays (st.aV s v) y.o y.d)=ar:=hs;have hq':=hq;rw[HG h.xa h.xd,aj]at hq';have hany:=aiu hq'.2;(have hs0:y.av.all (stays st y.o y.d)=ar:=by rw[aG]at hs⊢;intro k hk;by_cases hks:k=s;(·subst hks;rw[Md h.na,hany];rfl);·rw[<-Xt (v:=v) hks h.su];exact hs k hk);(have hy:∃t1,bt cf io y.d st y.o=ae t1:=by have hs0':=hs0;rw[aG]at hs0';obtain⟨q,f1,f2,f3⟩:=aco (cf:=cf) (io:=io) (o:=x.o) (.inr h.ad) (λk hk=>hs0' k (h.use k hk).1) hv;have:=(XL (cf:=cf) (io:=io) h.wr f1 h.sg h.su h.sy f2 f3).put;have h2':=this.symm.trans h2;obtain⟨t1,e1,_⟩:=au.1 h2';exact⟨t1,e1⟩);obtain⟨t1,ht1⟩:=hy;obtain⟨c1,c2,c3⟩:=amT h hs0 ht1;obtain⟨_,c4⟩:=c3 v hv;rw[c4]at h2;cases h2;refine⟨t1,by rw[uL h.yw h.yq h.yg,aJ hs0,ht1],?_⟩;rw[kj h.xw h.xg,<-c1,hv,af];(have hq2:fP t1 x v=ar:=by rw[HG h.xa h.xd,aj,c2];exact hq');rw[aJ hq2,h.xd];rfl
  ·cases h2
 ·cases h1
def ajB{all:List Op}{x y:Op}{s:Nat}(h:RB y x s){st s1 s2:St}(h1:stepG cf io all st x=ae s1)(h2:stepG cf io all s1 y=ae s2):∃t1,stepG cf io all st y=ae t1/\stepG cf io all t1 x=ae s2:=by
 rw[uL h.yw h.yq h.yg]at h1;rw[kj h.xw h.xg]at h2;obtain⟨v,hv,h2⟩:=ak.1 h2;split at h1
 ·rename_i hs;split at h2;·rename_i hq;cases h2;obtain⟨c1,c2,c3⟩:=amT h hs h1;have hv':bJ cf io y.d st y.o=ae v:=c1.trans hv;obtain⟨c4,c5⟩:=c3 v hv';rw[HG h.xa h.xd,aj,c2]at hq;refine⟨st.put y.d v,?_,?_⟩;(·(have hq2:fP st y v=ar:=by rw[HG h.xa h.xd,aj];exact hq);rw[kj h.xw h.xg,hv',af,aJ hq2]);·rw[h.xd];show stepG cf io all (st.aV s v) x=ae (s1.aV s v);rw[uL h.yw h.yq h.yg,aJ c4,c5]
  ·cases h2
 ·cases h1
def anL{u:A}(h:pure u=ar)(j:Nat):(∀k z xs,comp u j≠ .tok k z xs)/\∀q o n,comp u j≠ .view q o n:=by
 have hc:∀c∈u.cells,cr c=ar:=by
  cases u<;>first
   |(intro c hc;simp only[A.cells,aX]at hc;subst hc;exact h)
   |(intro c hc;exact aG.1 h c hc)
 unfold comp;cases e:u.cells[j]? with|none=>simp|some c=>have:=hc c (bw e);simp only[eJ];exact⟨λk z xs e=>(by rw[e]at this;cases this),λq o n e=>(by rw[e]at this;cases this)⟩
def afs{st:St}{i:Nat}(h:pure (st.t i)=ar):∀n:Nat,st.oh i n=ae st
 |0=>rfl
 |n+1=>by
  rw[St.oh,afs h n,af,St.pz]
  obtain⟨h1,h2⟩:=anL h n
  split
  ·rename_i k z xs e;exact absurd e (h1 _ _ _)
  ·rename_i q o m e;exact absurd e (h2 _ _ _)
  ·rfl
def ai4{st:St}{u:A}(h:pure u=ar):st.QE u=(dat u).map λv=>(v,st.aV gs .any):=by
 have e:(st.aV gs u).t gs=u:=by simp[St.aV]
 rw[St.QE,afs (by rw[e];exact h),af,e];congr 1;funext v;congr 1;simp only[St.aV];congr 1;funext j;by_cases hj:j=gs<;>simp[hj]
def ajG{o:O}{s:Nat}{v:A}(h:s∉bT o):DG (st.aV s v) o=DG st o:=by cases o with|rq n a x=>have e1:=fw (x:=a) (st:=st.aV s v) (st':=st) λi hi=>cR (λe=>h (by simp[bT,<-e,hi]));have e2:=fw (x:=x) (st:=st.aV s v) (st':=st) λi hi=>cR (λe=>h (by simp[bT,<-e,hi]));simp only[DG,e1,e2,vm]|asg x=>have e2:=fw (x:=x) (st:=st.aV s v) (st':=st) λi hi=>cR (λe=>h (by simp[bT,<-e,hi]));simp only[DG,e2]|_=>rfl
def ark{n:Nat}{a x:bZ}{s:Nat}{v:A}(hs:s<gs)(hu:s∉bT (.rq n a x))(hp:DG st (.rq n a x)=ar): bt cf io ai (st.aV s v) (.rq n a x)=(bt cf io ai st (.rq n a x)).map (·.aV s v)/\∀st',bt cf io ai st (.rq n a x)=ae st'->∀k,k<gs->st'.t k=st.t k:=by have e1:=fw (x:=a) (st:=st.aV s v) (st':=st) λi hi=>cR (λe=>hu (by simp[bT,<-e,hi]));have e2:=fw (x:=x) (st:=st.aV s v) (st':=st) λi hi=>cR (λe=>hu (by simp[bT,<-e,hi]));simp only[DG,aj]at hp;obtain⟨hx,ha⟩:=hp;cases ea:a.v st with|loc q i c=>(rw[ea]at ha;cases hR:st.r q with|none=>simp only[hR]at ha;cases ha|some R=>simp only[hR]at ha;(have hb:R.b=aw:=by simpa using ha);obtain⟨b,z,xs⟩:=R;cases hb;simp only[bt,e1,e2,ea,vm,hR,af,ai4 hx];(have hne:gs≠s:=by omega);constructor;(·split;(·cases hd:dat (x.v st)with|none=>rfl|some w=>simp only[az,af,vm,hR];split;(·cases hxs:xs[i]? with|none=>rfl|some e=>simp only[af];cases hcs:setCells e.cells c w.cells with|none=>rfl|some cs=>simp only[az,St.put];rw[l7 _ hne,fq]);·rfl);·rfl);·intro st' h k hk;split at h;(·obtain⟨⟨w,st1⟩,h1,h⟩:=ak.1 h;obtain⟨w',_,h1⟩:=au.1 h1;cases h1;simp only at h;split at h;(·obtain⟨R',_,h⟩:=ak.1 h;obtain⟨e,_,h⟩:=ak.1 h;obtain⟨cs,_,h⟩:=au.1 h;subst h;(have hkg:k≠gs:=by omega);simp[St.put,St.aD,St.aV,hkg]);·cases h);·cases h)|_=>rw[ea]at ha;cases ha
structure RM(x y:Op)(s:Nat):Prop where
 yr:(y.av.any λk=>ah (rp<=k))=aw
 yq:y.pq=ar
 xw:x.w=aw
 yw:y.w=ar
 xg:x.g=ai
 yg:y.g=ai
 ya:y.av.isEmpty=aw
 ko:(∃n a v,y.o=.rq n a v/\y.d=ai/\((U8 x.o=ar/\(x.pq=ar\/as2 x.o=ar)\/MI x.o=ar)\/simple x.o=ar/\(x.pq=ar\/X7 x.o=ar)/\(∃k∈bT x.o,cp+k∈y.av)/\∀k∈bT x.o,cp+k∈y.av))\/(∃f args,y.o=.call f args/\simple x.o=ar/\gs+1∈x.av)\/(∃z b t u,y.o=.app z b t u/\(∃d,y.d=ae d)/\simple x.o=ar/\gs∈x.av/\gs+1∈x.av/\gs+2∈x.av)
 us:∀k∈bT x.o,k∈y.av/\k∉bT y.o/\y.d≠ae k/\k<gs
 xd:x.d=ae s
 sg:s<gs
 su:s∉bT y.o
 sd:y.d≠ae s
 sx:s∉bT x.o
 xs:gs∈x.av↔s∈y.av
 xc:cp+s∉y.av\/gs∈x.av/\(∃n a v,y.o=.rq n a v)/\simple x.o=ar/\(x.pq=ar\/X7 x.o=ar)/\∀k∈bT x.o,cp+k∈y.av
def aeV{x y:Op}(h:agd x y=ar):∃s,RM x y s:=by simp only[agd,aj,cn,ig]at h;obtain⟨h0,h1,h2,h3,h4,h5,h6,h7,h8,h9⟩:=h;cases hd:x.d with|none=>rw[hd]at h9;cases h9|some s=>rw[hd]at h9;simp only[aj,cn,ck,ax,cG,ja,Ly,aG,cj,b9,anP]at h9;obtain⟨a1,a2,a3,a4,a5,a6,a7⟩:=h9;refine⟨s,h0,h1,h2,h3,h4,h5,h6,?_,?_,hd,a1,a2,a3,a4,a6,a7.imp id λa8=> ?_⟩;(·split at h7;(·rename_i n a v e;simp only[aj,cj,ig,Ms,aG,ck,ax]at h7;exact .inl ⟨n,a,v,e,h7.1,h7.2⟩);(·rename_i f args e;simp only[aj,ck,ax]at h7;exact .inr (.inl ⟨f,args,e,h7.1,h7.2⟩));(·rename_i z b t u e;simp only[aj,ck,ax,dq]at h7;exact .inr (.inr ⟨z,b,t,u,e,h7.1,h7.2.1,h7.2.2.1,h7.2.2.2.1,h7.2.2.2.2⟩));·cases h7);rotate_left;(·obtain⟨a8,a9⟩:=a8;split at a9;(·rename_i n a v e;simp only[aj,cj,aG,ck,ax]at a9;exact⟨a8,⟨n,a,v,e⟩,a9⟩);·cases a9);·intro k hk;have:=aG.1 h8 k hk;simp only[aj,cn,ck,ax,cG,ja,Ly]at this;exact this
def KB(y:Op)(st:St)(a:A):Prop:=
 match y.o with
 |.rq n b v=>DG st (.rq n b v)=ar\/FO st a=ar
 |.call f args=>O6 st (.call f args) y.d a=ar
 |.app _ _ t _=>IY st t a=ar
 |_=>False
def aiS{x y:Op}{s:Nat}(h:RM x y s){a:A}(ha:pure a=ar):KB y st a:=by
 have e1:FO st a=ar:=by cases a<;>first|exact ha|(simp[pure,cr]at ha;done)
 have e2:∀o d,O6 st o d a=ar:=λo d=>by cases a<;>first|exact ha|(simp[pure,cr]at ha;done)
 have e3:∀t,IY st t a=ar:=λt=>by cases a<;>first|exact ha|(simp[pure,cr]at ha;done)
 rcases h.ko with ⟨n,a',v,e,_⟩|⟨f,args,e,_⟩|⟨z,b,t,u,e,_⟩
 ·simp only[KB,e];exact .inr e1
 ·simp only[KB,e];exact e2 _ _
 ·simp only[KB,e];exact e3 _
def atf{x y:Op}{s:Nat}(h:RM x y s):KB y st .any:=by
 rcases h.ko with ⟨n,a',v,e,_⟩|⟨f,args,e,_⟩|⟨z,b,t,u,e,_⟩
 ·simp only[KB,e];exact .inr rfl
 ·simp only[KB,e];rfl
 ·simp only[KB,e];rfl
def Vm{x y:Op}{s:Nat}(h:RM x y s)(hc:AG st y.av y.d y.o=ar){k:Nat}(hk:k∈y.av)(hg:k<gs):KB y st (st.t k):=by
 have hg':¬gs<=k:=by omega
 rcases h.ko with ⟨n,a',v,e,_⟩|⟨f,args,e,_⟩|⟨z,b,t,u,e,_⟩
 ·simp only[KB,e];rw[e]at hc;simp only[AG,cj,aj,aG,ax]at hc;exact hc.1.imp id λh=>(h.2 k hk).resolve_left hg'
 ·simp only[KB,e];rw[e]at hc;simp only[AG,cj,aj,aG,ax]at hc;exact(hc.2.1 k hk).resolve_left hg'
 ·simp only[KB,e];rw[e]at hc;simp only[AG,cj,aG,ax]at hc;exact(hc k hk).resolve_left hg'
def adz(y:Op)(st:St):Prop:=(∀f args,y.o=.call f args->∀k∈y.av,cp<=k->alu y.d (st.t (k-cp))=ar)/\∀n a u,y.o=.rq n a u->D5 st y.av a=ar
def afD{o:O}{d:Option Nat}{p:Nat}(h:IG st o d p=ar):wQ st o d p=ar/\∀p'∈DN st.r p,IG st o d p'=ar:=by simp only[IG,aj,aG,qk]at h;refine⟨h.1,λp' hp=> ?_⟩;obtain⟨h1,h2⟩:=h.2 p' hp;simp only[IG,h1,h2,fK,aeG]
def atF{q d:Option Nat}{s:Nat}{v:A}(hv:CH q v)(hs:s<gs)(hV:Var q d st){n:Nat}{a x:bZ}(ha:a.v (st.aV s v)=a.v st)(hx:x.v (st.aV s v)=x.v st)(hd:d≠ae s) {r i c:Nat} {R:dF} (er:a.v st=.loc r i c) (eR:st.r r=ae R) (hb:R.b=ar):bt cf io d (st.aV s v) (.rq n a x)=(bt cf io d st (.rq n a x)).map (·.aV s v):=by
 have hne:gs≠s:=by omega
 obtain⟨b,z,xs⟩:=R;cases hb
 have hVb:∀e:A,Var q d ((st.aV gs (x.v st)).aD r (ae ⟨ar,z,[e]⟩)):=λe=>
  ⟨hV.lt,hV.ne,λp hp=>by
    by_cases h:p=r
    ·exact⟨⟨ar,z,[e]⟩,by simp only[St.aD,h,aC],rfl⟩
    ·obtain⟨R,h1,h2⟩:=hV.b p hp
     exact⟨R,by simp only[St.aD,aO h];exact h1,h2⟩⟩
 simp only[bt,ha,hx,er];split
 ·rw[show(st.aV s v).r r=ae ⟨ar,z,xs⟩from eR,eR];simp only[af];split;·rename_i e _;by_cases hcd:r<1000/\c+n<=e.cells.length/\c+n<=1000/\(x.v st).cells.all (gj st.r)=ar;(·have hcd':r<1000/\c+n<=e.cells.length/\c+n<=1000/\(x.v st).cells.all (gj (st.aV s v).r)=ar:=hcd;rw[aJ hcd',aJ hcd,l7 _ hne,fq,(A8 hv hs n 0 (hVb _)).1];cases((st.aV gs (x.v st)).aD r (ae ⟨ar,z,[blank e c n]⟩)).fh r c 0 n with|none=>rfl|some y=>simp only[az];rw[l7 _ hne,fq,mz _ hd]);·have hcd':¬(r<1000/\c+n<=e.cells.length/\c+n<=1000/\(x.v st).cells.all (gj (st.aV s v).r)=ar):=hcd;rw[aO hcd',aO hcd];rfl
  ·rename_i h;cases h
  ·rfl
 ·rfl
def atg{x y:Op}{s:Nat}(h:RM x y s){v:A}(hf:∀n a u,y.o=.rq n a u->DG st (.rq n a u)=aw)(hv:KB y st v):∃q,CH q v/\(∀p i c,(v=.loc p i c\/v=.view p i c)->q=ae p)/\(q=ai\/∃p i c,q=ae p/\(v=.loc p i c\/v=.view p i c)):=by
 have any:∃q,CH q A.any/\(∀p i c,((A.any=.loc p i c)\/A.any=.view p i c)->q=ae p)/\(q=ai\/∃p i c,q=ae p/\(A.any=.loc p i c\/A.any=.view p i c)):=⟨ai,.inl (.inr rfl),λp i c e=>(by rcases e with e|e<;>cases e),.inl rfl⟩;have pur:∀u:A,pure u=ar->∃q,CH q u/\(∀p i c,((u=.loc p i c)\/u=.view p i c)->q=ae p)/\(q=ai\/∃p i c,q=ae p/\(u=.loc p i c\/u=.view p i c)):=λu hu=>⟨ai,.inl (.inl hu),λp i c e=>(by rcases e with e|e<;>subst e<;>simp[pure,cr]at hu),.inl rfl⟩;have lc:∀p i c,∃q,CH q (A.loc p i c)/\(∀p' i' c',((A.loc p i c=.loc p' i' c')\/A.loc p i c=.view p' i' c')->q=ae p')/\(q=ai\/∃p' i' c',q=ae p'/\(A.loc p i c=.loc p' i' c'\/A.loc p i c=.view p' i' c')):=λp i c=>⟨ae p,.inr ⟨p,i,c,rfl,.inl rfl⟩,λp' i' c' e=>(by rcases e with e|e<;>cases e;rfl),.inr ⟨p,i,c,rfl,.inl rfl⟩⟩;have vw:∀p i c,∃q,CH q (A.view p i c)/\(∀p' i' c',((A.view p i c=.loc p' i' c')\/A.view p i c=.view p' i' c')->q=ae p')/\(q=ai\/∃p' i' c',q=ae p'/\(A.view p i c=.loc p' i' c'\/A.view p i c=.view p' i' c')):=λp i c=>⟨ae p,.inr ⟨p,i,c,rfl,.inr rfl⟩,λp' i' c' e=>(by rcases e with e|e<;>cases e;rfl),.inr ⟨p,i,c,rfl,.inr rfl⟩⟩;rcases h.ko with ⟨n,a',v',e,_⟩|⟨f,args,e,_⟩|⟨z,b,t,u,e,_⟩
 ·simp only[KB,e,hf _ _ _ e,ao,false_or]at hv;unfold FO at hv;split at hv;·exact lc _ _ _
  ·exact any
  ·exact pur _ hv
 ·simp only[KB,e]at hv;unfold O6 at hv;split at hv;·exact lc _ _ _
  ·exact vw _ _ _
  ·exact any
  ·exact pur _ hv
 ·simp only[KB,e]at hv;unfold IY at hv;split at hv;·exact lc _ _ _
  ·exact vw _ _ _
  ·exact any
  ·exact pur _ hv
def asE{q:Option Nat}{d z b s:Nat}{t u:bZ}{v:A}(hv:CH q v)(hq:∀p,q=ae p->∀r o n,t.v st=.view r o n->p≠r)(ht:t.v (st.aV s v)=t.v st)(hu:u.v (st.aV s v)=u.v st)(hd:(ae d:Option Nat)≠ae s): bt cf io (ae d) (st.aV s v) (.app z b t u)=(bt cf io (ae d) st (.app z b t u)).map (·.aV s v)/\∀st1,bt cf io (ae d) st (.app z b t u)=ae st1->∀p,(∀r o n,t.v st=.view r o n->p≠r)->st1.r p=st.r p:=by
 simp only[bt,ht,hu,vm]
 cases elems st.r (u.v st)with
 |none=>exact⟨rfl,λst1 h1=>by cases h1⟩
 |some e=>
  obtain⟨z2,ys⟩:=e;simp only[af]
  cases htv:t.v st<;>simp only<;>first
   |exact⟨rfl,λst1 h1=>by cases h1⟩
   |skip
  ·split;(·refine⟨?_,λst1 h1 p _=>by cases h1;rfl⟩;simp only[az];rw[mz _ hd]);·exact⟨rfl,λst1 h1=>by cases h1⟩
  ·rename_i k z1 xs;split;(·refine⟨?_,λst1 h1 p _=>by cases h1;rfl⟩;simp only[az];rw[St.cX,mR (hv.cX k),mz _ hd];rfl);·exact⟨rfl,λst1 h1=>by cases h1⟩
  ·rename_i r o n;have hr:∀p,q=ae p->r≠p:=λp hp e=>hq p hp r o n htv e.symm;cases hR:st.r r with|none=>exact⟨rfl,λst1 h1=>by cases h1⟩|some R=>simp only[af];split;(·refine⟨?_,λst1 h1 p hp=> ?_⟩;(·simp only[az];rw[St.kill,mR (hv.kill hr),fq,mz _ hd];rfl);·cases h1;have:=hp r o n rfl;simp[St.put,St.aV,St.aD,St.kill,St.map,this]);·exact⟨rfl,λst1 h1=>by cases h1⟩
def ap5{d z b:Nat}{t u:bZ}{st1:St}(h1:bt cf io (ae d) st (.app z b t u)=ae st1){r o n:Nat}(ht:t.v st=.view r o n):st1.r r=ai:=by
 simp only[bt,ht]at h1;obtain⟨e,_,h1⟩:=ak.1 h1;obtain⟨R,_,h1⟩:=ak.1 h1;split at h1;·cases h1;simp[St.put,St.aV,St.aD,St.kill,St.map]
 ·cases h1
def aoD{t:bZ}{a:A}(h:IY st t a=ar):∀p i c,(a=.loc p i c\/a=.view p i c)->∀r o n,t.v st=.view r o n->p≠r:=λp i c e r o n ht=>by rcases e with e|e<;>(rw[e]at h;simp only[IY,ht]at h;simpa using h)
def aoF{n:Nat}{a x:bZ}{st1:St}(h1:bt cf io ai st (.rq n a x)=ae st1){r i c:Nat}(er:a.v st=.loc r i c):(st1.r r).isSome=ar:=by
 simp only[bt,er]at h1;split at h1
 ·obtain⟨R,_,h1⟩:=ak.1 h1;split at h1;·split at h1;(·obtain⟨⟨cs,s1⟩,_,h1⟩:=au.1 h1;cases h1;simp[St.put,St.aV,St.aD]);·cases h1
  ·obtain⟨⟨u,s1⟩,_,h1⟩:=ak.1 h1;simp only at h1;split at h1;(·obtain⟨R',_,h1⟩:=ak.1 h1;obtain⟨e,_,h1⟩:=ak.1 h1;obtain⟨cs,_,h1⟩:=au.1 h1;cases h1;simp[St.put,St.aV,St.aD]);·cases h1
  ·cases h1
 ·cases h1
def ac7{n:Nat}{a x:bZ}(hp:DG st (.rq n a x)=ar){st1:St}(h:bt cf io ai st (.rq n a x)=ae st1)(p:Nat):(st1.r p).map (·.z)=(st.r p).map (·.z):=by simp only[DG,aj]at hp;obtain⟨hx,ha⟩:=hp;cases ea:a.v st with|loc q i c=>(rw[ea]at ha;cases hR:st.r q with|none=>simp only[hR]at ha;cases ha|some R=>simp only[hR]at ha;(have hb:R.b=aw:=by simpa using ha);obtain⟨b,z,xs⟩:=R;cases hb;simp only[bt,ea,hR,af,ai4 hx]at h;split at h;(·obtain⟨⟨w,st2⟩,h1,h⟩:=ak.1 h;obtain⟨w',_,h1⟩:=au.1 h1;cases h1;simp only at h;split at h;(·obtain⟨R',hR',h⟩:=ak.1 h;obtain⟨e,_,h⟩:=ak.1 h;obtain⟨cs,_,h⟩:=au.1 h;subst h;have hR':st.r q=ae R':=hR';rw[hR]at hR';cases hR';by_cases hpq:p=q;(·subst hpq;simp[St.put,St.aD,hR]);·simp[St.put,St.aD,St.aV,hpq]);·cases h);·cases h)|_=>rw[ea]at ha;cases ha
def awf{r r':Nat->Option dF}{p:Nat}(h:(r' p).map (·.z)=(r p).map (·.z)):(r p).isSome=(r' p).isSome:=by cases h1:r p<;>cases h2:r' p<;>simp_all
def aoz{d:Option Nat}{o:O}(hsm:MI o=ar)(h:∀k∈bT o,st.t k=st'.t k)(hz:(∀p,(st'.r p).map (·.z)=(st.r p).map (·.z))\/∀k∈bT o,∀p i c,st.t k≠ .view p i c):bJ cf io d st o=bJ cf io d st' o:=by
 cases o<;>first
  |(simp[MI]at hsm;done)
  |skip
 rename_i z x lo hi;cases x with|c a=>simp[MI]at hsm|t k=>have hk:st.t k=st'.t k:=h k (by simp[bT,hY]);have e1:=agW (st:=st) (st':=st') (x:=lo) λi hi'=>h i (by simp[bT,hi']);have e2:=agW (st:=st) (st':=st') (x:=hi) λi hi'=>h i (by simp[bT,hi']);have hkv:bZ.v st (.t k)=st.t k:=rfl;have hkv':bZ.v st' (.t k)=st.t k:=hk.symm;simp only[bJ,e1,e2,hkv,hkv'];have key:∀(q off n:Nat),st.t k=.view q off n->(st'.r q).map (·.z)=(st.r q).map (·.z):=λq off n e=> hz.elim (λh=>h q) λh=>absurd e (h k (by simp[bT,hY]) q off n);clear hz e1 e2 h hk hkv hkv';generalize (Ts (bZ.v st') lo).getD (.int .i64 0)=a1;generalize Ts (bZ.v st') hi=b1;generalize st.t k=c1 at key⊢;split;(·rfl);(·rfl);(·rename_i q off n;have:=key q off n rfl;cases h1:st.r q<;>cases h2:st'.r q<;>simp_all);(·rename_i q off n;have:=key q off n rfl;cases h1:st.r q<;>cases h2:st'.r q<;>simp_all);·rfl
def ap6{av:List Nat}{n:Nat}{a u:bZ}(hb:D5 st av a=ar)(hp:DG st (.rq n a u)=ar){k:Nat}(hk:cp+k∈av):False:=by
 simp only[D5,cj]at hb;rcases hb with hb|hb
 ·have this:ah (_<cp)=ar:=aG.1 hb _ hk;exact absurd (cd this) (by omega)
 ·simp only[DG,aj]at hp;have hp:=hp.2;cases ea:a.v st with|loc q i c=>(rw[ea]at hp hb;cases hR:st.r q with|none=>simp[hR]at hp|some R=>simp only[hR,aj]at hp hb;rw[hb.1]at hp;cases hp)|_=>rw[ea]at hp;cases hp
def aha{x y:Op}{s:Nat}(h:RM x y s)(hc:AG st y.av y.d y.o=ar){v:A}(hv:KB y st v){k:Nat}(hk:k<gs)(hu:k∉bT y.o)(hd:y.d≠ae k): bt cf io y.d (st.aV k v) y.o=(bt cf io y.d st y.o).map (·.aV k v)/\(simple x.o=ar->U8 x.o=aw->(∀n a u r i c,y.o=.rq n a u->a.v st=.loc r i c->vt r v=ar)->∀st1,bt cf io y.d st y.o=ae st1->∀p i c,(v=.loc p i c\/v=.view p i c)->st1.r p=st.r p)/\∀st1,bt cf io y.d st y.o=ae st1->ry st v=ry st1 v:=by
 by_cases hflat:∃n a u,y.o=.rq n a u/\DG st (.rq n a u)=ar
 ·obtain⟨n,a,u,e,hp⟩:=hflat;have ed:y.d=ai/\(U8 x.o=ar\/MI x.o=ar):=by(rcases h.ko with ⟨_,_,_,e',ed,hs⟩|⟨_,_,e',_⟩|⟨_,_,_,_,e',_⟩);(·refine⟨ed,hs.elim (λhs=>hs.imp (·.1) id) λ⟨_,_,⟨k,_,hk⟩,_⟩=> ?_⟩;rw[e]at hc;simp only[AG,aj]at hc;have:=ap6 hc.2 hp hk;cases this);(·rw[e]at e';cases e');·rw[e]at e';cases e'
  rw[e,ed.1];rw[e]at hu;refine⟨(ark (cf:=cf) (io:=io) hk hu hp).1,λh1 h2 _=> ?_,λst1 h1=>DH λp i c _=>awf (ac7 hp h1 p)⟩;rcases ed.2 with h3|h3
  ·rw[h2]at h3;cases h3
  ·cases ho:x.o<;>rw[ho]at h3 h1<;>first
    |(simp[MI]at h3;done)
    |(simp[simple]at h1;done)
 have hnf:∀n a u,y.o=.rq n a u->DG st (.rq n a u)=aw:=λn a u e=>by cases hb:DG st (.rq n a u)with|false=>rfl|true=>exact absurd ⟨n,a,u,e,hb⟩ hflat
 obtain⟨q,hf,hq,hq2⟩:=atg h hnf hv;have th:∀{st1:St},(∀p i c,(v=.loc p i c\/v=.view p i c)->st1.r p=st.r p)->ry st v=ry st1 v:=λhh=>DH λp i c e=>by rw[hh p i c e]
 rcases h.ko with ⟨n,a,u,e,ed,hs⟩|⟨f,args,e,_⟩|⟨z,b,t,u,e,⟨d,ed⟩,_⟩
 ·have hf0:=hnf n a u e;rw[e,ed]at hc⊢;rw[e]at hu;simp only[AG,hf0,XM,aj]at hc;have hc:=hc.1.1;have e1:=fw (x:=a) (st:=st.aV k v) (st':=st) λi hi=>cR (λe=>hu (by simp[bT,<-e,hi]));have e2:=fw (x:=u) (st:=st.aV k v) (st':=st) λi hi=>cR (λe=>hu (by simp[bT,<-e,hi]));simp only[KB,e,hf0,ao,false_or]at hv;have hV:Var q ai st:=by(rcases hq2 with e0|⟨p,i,c,eq,e1|e1⟩);(·rw[e0];exact Var.no _ _);(·rw[e1]at hv;simp only[FO,aj,ax]at hv;rw[eq];refine⟨λp' e=>(by cases e;exact hv.1),λp' _ e=>(by cases e),λp' e=> ?_⟩;cases e;have:=hv.2;split at this;(·rename_i R' hR;exact⟨R',hR,this⟩);·cases this);·rw[e1]at hv;simp[FO,pure,cr]at hv
  split at hc
  ·rename_i r i c er;obtain⟨R,eR⟩:=dq.1 hc;by_cases hb:R.b=ar;·refine⟨atF hf hk hV e1 e2 (by simp) er eR hb,λ_ _ hD st1 h1 p i' c' ep=> ?_,λst1 h1=>DH λp i' c' ep=> ?_⟩;(·have hpq:=hq p i' c' ep;have hd:=hD n a u r i c rfl er;(have hpr:p≠r:=by rcases ep with ep|ep<;>(rw[ep]at hd;simpa[vt]using hd));have he:=aam (cf:=cf) (io:=io) (n:=n) hf hk hV e1 e2 (by simp) (λp' hp'=>by rw[hpq]at hp';cases hp';simp[iw,er];exact hpr);exact he.fk st1 h1 p hpq);by_cases hpr:p=r;(·rw[hpr,aoF h1 er,eR];rfl);·have hpq:=hq p i' c' ep;have he:=aam (cf:=cf) (io:=io) (n:=n) hf hk hV e1 e2 (by simp) (λp' hp'=>by rw[hpq]at hp';cases hp';simp[iw,er];exact hpr);rw[he.fk st1 h1 p hpq]
   ·have he:=aam (cf:=cf) (io:=io) (n:=n) hf hk hV e1 e2 (by simp) (λp' hp'=>by
     obtain⟨R',h1,h2⟩:=hV.b p' hp'
     simp only[iw,er,aX]
     intro e;rw[e,eR]at h1;cases h1;exact hb h2)
    exact⟨he.put,λ_ _ _ st1 h1 p i' c' ep=>he.fk st1 h1 p (hq p i' c' ep),λst1 h1=>th λp i' c' ep=>he.fk st1 h1 p (hq p i' c' ep)⟩
  ·cases hc
 ·have hO:Tu y.o q y.d st/\∀p,q=ae p->p∉iw st y.o:=by rw[e]at hc;simp only[AG,aj]at hc;simp only[KB,e]at hv;(have key:∀p,IG st (.call f args) y.d p=ar->q=ae p->Tu y.o q y.d st/\∀p,q=ae p->p∉iw st y.o:=λp hp eq=>by have hfr:=(afD hp).1;have hfa:=Js hfr;rw[e];refine⟨⟨λp' e'=>(by rw[eq]at e';cases e';exact hfa.2.2.2.2),.inr (.inr (.inr ⟨hc.1,λp' e'=>(by rw[eq]at e';cases e';exact hfr)⟩))⟩,λp' e'=>(by rw[eq]at e';cases e';exact hfa.2.1)⟩);(rcases hq2 with e0|⟨p,i,c,eq,e1|e1⟩);(·rw[e0];exact⟨Tu.no _ _ _,λp e=>by cases e⟩);(·rw[e1]at hv;exact key p hv eq);·rw[e1]at hv;exact key p hv eq
  have he:=XL (cf:=cf) (io:=io) (d:=y.d) (st:=st) (o:=y.o) (by rw[e];rfl) hf hk hu hd hO.1 hO.2;exact⟨he.put,λ_ _ _ st1 h1 p i c hp=>he.fk st1 h1 p (hq p i c hp),λst1 h1=>th λp i c hp=>he.fk st1 h1 p (hq p i c hp)⟩
 ·rw[e,ed]at hc⊢;rw[e]at hu;rw[ed]at hd;have e1:=fw (x:=t) (st:=st.aV k v) (st':=st) λi hi=>cR (λe=>hu (by simp[bT,<-e,hi]));have e2:=fw (x:=u) (st:=st.aV k v) (st':=st) λi hi=>cR (λe=>hu (by simp[bT,<-e,hi]));simp only[KB,e]at hv;have hno:=aoD hv
  have ha:=asE (cf:=cf) (io:=io) (z:=z) (b:=b) hf (λp hp=>by
   rcases hq2 with e0|⟨p',i,c,eq,e1⟩
   ·rw[e0]at hp;cases hp
   ·rw[eq]at hp;cases hp;exact hno p i c e1) e1 e2 hd
  have kp:∀st1,bt cf io (ae d) st (.app z b t u)=ae st1->∀p i c,(v=.loc p i c\/v=.view p i c)->st1.r p=st.r p:=λst1 h1 p i c hp=>ha.2 st1 h1 p (hno p i c hp);exact⟨ha.1,λ_ _ _=>kp,λst1 h1=>th (kp st1 h1)⟩
def att{x y:Op}{s:Nat}(h:RM x y s)(hc:AG st y.av y.d y.o=ar){k:Nat}(hv:KB y st (st.t k))(hk:k<gs)(hu:k∉bT y.o)(hd:y.d≠ae k){st1:St}(h1:bt cf io y.d st y.o=ae st1):st1.t k=st.t k:=by have hp:=(aha (cf:=cf) (io:=io) h hc hv hk hu hd).1;rw[W3,h1]at hp;simp only[az,aq]at hp;rw[hp];simp[St.aV]
def ajt{d:Option Nat}{o:O}(hsm:U8 o=ar)(h:∀k∈bT o,st.t k=st'.t k):bJ cf io d st o=bJ cf io d st' o:=by
 have hv:∀x:bZ,(∀i∈hY x,i∈bT o)->x.v st=x.v st':=λx hx=>fw λi hi=>h i (hx i hi)
 cases o<;>first
  |(simp[U8]at hsm;done)
  |skip
 ·rename_i x;have:=hv x (by simp[bT]);simp only[bJ,this]
 ·rename_i op x y;have e1:=hv x λi hi=>by simp[bT,hi]
  have e2:=hv y λi hi=>by simp[bT,hi]
  simp only[bJ,e1,e2]
 ·rename_i op x;have:=hv x (by simp[bT]);simp only[bJ,this]
 ·rename_i off n x;have:=hv x (by simp[bT]);simp only[bJ,this]
 ·rename_i x y;have e1:=hv x λi hi=>by simp[bT,hi]
  have e2:=hv y λi hi=>by simp[bT,hi]
  simp only[bJ,e1,e2]
 ·rename_i x;have:=hv x (by simp[bT]);simp only[bJ,this]
 ·rename_i x i;have:=hv x (by simp[bT]);simp only[bJ,this]
def afx{x:Op}{v:A}(he:bJ cf io x.d st x.o=ae v)(hv:okV st x.o v=ar)(hp:¬pure v=ar):∃p,(∃i c,v=.loc p i c\/v=.view p i c)/\((∃k i c,k∈bT x.o/\(st.t k=.loc p i c\/st.t k=.view p i c))\/∃k q i c,k∈bT x.o/\st.t k=.loc q i c/\p∈DN st.r q):=by
 simp only[okV,cj,hp,ao,false_or]at hv;have isA:∃p i c,v=.loc p i c\/v=.view p i c:=by split at hv;(·exact⟨_,_,_,.inl rfl⟩);(·exact⟨_,_,_,.inr rfl⟩);·cases hv
 obtain⟨p,i,c,hpv⟩:=isA;have hv:(match x.o with|.ld _ (.t k)=>(match st.t k with|.loc q _ _=>(match st.r q with|some R=>R.b|none=>aw)|_=>aw)|.mv (.t _)|.Oz (.t _)|.fa _ (.t _)|.iaa _ _ (.t _) _|.ia _ (.t _) _=>ar|_=>aw)=ar:=by rcases hpv with e|e<;>(rw[e]at hv;exact hv)
 refine⟨p,⟨i,c,hpv⟩,?_⟩;have own:∀k,k∈bT x.o->∀q i' c',(st.t k=.loc q i' c'\/st.t k=.view q i' c')->∀i'' c'',v=.loc q i'' c''\/v=.view q i'' c''->(∃k i c,k∈bT x.o/\(st.t k=.loc p i c\/st.t k=.view p i c))\/∃k q i c,k∈bT x.o/\st.t k=.loc q i c/\p∈DN st.r q:=λk hk q i' c' e i'' c'' e'=>by(have:p=q:=by rcases hpv with a|a<;>rcases e' with b|b<;>(rw[a]at b;cases b<;>rfl));subst this;exact .inl ⟨k,i',c',hk,e⟩
 split at hv
 ·rename_i n k ho;rw[ho]at he;split at hv;·rename_i q i' c' ek';split at hv;(·rename_i R hR;refine .inr ⟨k,q,i',c',by rw[ho];simp[bT,hY],ek',?_⟩;simp only[bJ,bZ.v,ek',hR,af]at he;obtain⟨z,hz,he⟩:=ak.1 he;simp only[DN,hR,hv,aC,jq];refine⟨z,bw hz,?_⟩;cases n with|none=>(simp only[ie]at he;refine⟨v,bw he,?_⟩;rcases hpv with e|e<;>(rw[e];simp[ga]))|some n=>simp only[ie]at he;split at he;(·cases he;rcases hpv with e|e<;>cases e);·cases he);·cases hv
  ·cases hv
 ·rename_i k ho;rw[ho]at he;simp only[bJ,bZ.v,aq]at he;have hpk:st.t k=.loc p i c\/st.t k=.view p i c:=by rw[he];exact hpv
  exact .inl ⟨k,i,c,by rw[ho];simp[bT,hY],hpk⟩
 ·rename_i k ho;rw[ho]at he;simp only[bJ,bZ.v]at he;split at he;·rename_i q i' c' ek';obtain⟨R,_,he⟩:=au.1 he;exact own k (by rw[ho];simp[bT,hY]) q i' c' (.inl ek') _ _ (.inl he.symm)
  ·cases he;rcases hpv with e|e<;>cases e
  ·cases he;rcases hpv with e|e<;>cases e
  ·cases he
 ·rename_i off k ho;rw[ho]at he;simp only[bJ,bZ.v]at he;split at he;·rename_i q i' c' ek';obtain⟨R,_,he⟩:=au.1 he;exact own k (by rw[ho];simp[bT,hY]) q i' c' (.inl ek') _ _ (.inl he.symm)
  ·cases he;rcases hpv with e|e<;>cases e
  ·cases he
 ·rename_i len z k j ho;rw[ho]at he;simp only[bJ,bZ.v]at he;split at he;·rename_i q i' c' _ ek';split at he;(·obtain⟨R,_,he⟩:=au.1 he;exact own k (by rw[ho];simp[bT,hY]) q i' c' (.inl ek') _ _ (.inl he.symm));·cases he
  ·split at he;(·cases he;rcases hpv with e|e<;>cases e);·cases he
  ·cases he
 ·rename_i z k j ho;rw[ho]at he;simp only[bJ,bZ.v]at he;split at he;·rename_i q off len _ ek';obtain⟨R,_,he⟩:=ak.1 he;split at he;(·cases he;exact own k (by rw[ho];simp[bT,hY]) q off len (.inr ek') _ _ (.inl rfl));·cases he
  ·split at he;(·obtain⟨w,_,he⟩:=au.1 he;rw[<-he]at hpv;rcases hpv with e|e<;>cases e);·cases he
  ·cases he
 ·cases hv
def aq7{x y:Op}{s:Nat}(h:RM x y s)(hk:∀k∈bT x.o,KB y st (st.t k)){v:A}(he:bJ cf io x.d st x.o=ae v)(hr1:(!x.pq||pure v)=ar)(hr2:gs+1∈x.av->okV st x.o v=ar)
 (hr3:(∃z b t u,y.o=.app z b t u)->KB y st v\/∃st1,bt cf io y.d st y.o=ae st1/\ry st1 v=ar):KB y st v:=by
 simp only[cj,cn]at hr1
 by_cases hp:pure v=ar
 ·exact aiS h hp
 rcases h.ko with ⟨n,a,u,e,ed,hq⟩|⟨f,args,e,hs,hg⟩|⟨z,b,t,u,e,⟨d,ed⟩,hs,_,hg,_⟩
 ·cases hflat:DG st (.rq n a u)with
  |true=>simp only[KB,e];exact .inl hflat
  |false=>
  rcases hq with (⟨_,hq|hq⟩|hq)|⟨_,hq|hq,_⟩
  rotate_right 2
  ·exact absurd (hr1.resolve_left (by rw[hq];simp)) hp
  ·cases ho:x.o<;>rw[ho]at hq<;>first
    |(simp[X7]at hq;done)
    |skip
   rename_i off w
   cases w with
   |c a=>simp[X7]at hq
   |t k=>
    have hkk:=hk k (by rw[ho];simp[bT,hY])
    simp only[KB,e,hflat,ao,false_or]at hkk⊢
    rw[ho]at he
    simp only[bJ,bZ.v]at he
    cases hst:st.t k<;>rw[hst]at he hkk<;>first
     |(cases he;done)
     |skip
    ·obtain⟨R,_,he⟩:=au.1 he
     subst he;exact hkk
    ·cases he
     simp[FO,pure,cr]
  ·exact absurd (hr1.resolve_left (by rw[hq];simp)) hp
  ·cases ho:x.o<;>rw[ho]at hq<;>first
    |(simp[as2]at hq;done)
    |skip
   rename_i w
   cases w with
   |c a=>simp[as2]at hq
   |t k=>
    have:=hk k (by rw[ho];simp[bT,hY])
    rw[ho]at he
    simp only[bJ,aq]at he
    subst he;exact this
  ·cases ho:x.o<;>rw[ho]at hq<;>first
    |(simp[MI]at hq;done)
    |skip
   rename_i z0 w lo hi
   cases w with
   |c a=>simp[MI]at hq
   |t k=>
    have hkk:=hk k (by rw[ho];simp[bT,hY])
    simp only[KB,e,hflat,ao,false_or]at hkk
    rw[ho]at he
    simp only[bJ]at he
    have hkv:bZ.v st (.t k)=st.t k:=rfl
    rw[hkv]at he
    cases hst:st.t k<;>rw[hst]at he hkk<;>first
     |(simp only[FO,pure,cr]at hkk;cases hkk;done)
     |skip
    all_goals(split at he<;>first
     |(split at he<;>first
        |(cases he;exact aiS h rfl)
        |cases he)
     |(rename_i hh;cases hh)
     |cases he)
 ·obtain⟨p,⟨i,c,hpv⟩,h2⟩:=afx he (hr2 hg) hp
  have ek:∀a,KB y st a=(O6 st (.call f args) y.d a=ar):=λa=>by simp only[KB,e]
  have fin:IG st (.call f args) y.d p=ar->KB y st v:=λhp=>by rw[ek];rcases hpv with e|e<;>(rw[e];exact hp)
  rcases h2 with ⟨k,i',c',hk',e'⟩|⟨k,q,i',c',hk',e',hm⟩
  ·have:=hk k hk'
   rw[ek]at this
   exact fin (by rcases e' with e'|e'<;>(rw[e']at this;exact this))
  ·have:=hk k hk'
   rw[ek,e']at this
   exact fin ((afD this).2 p hm)
 ·have ek:∀a,KB y st a=(IY st t a=ar):=λa=>by simp only[KB,e]
  rcases hr3 ⟨z,b,t,u,e⟩with h3|⟨st1,h1,h3⟩
  ·exact h3
  obtain⟨p,⟨i,c,hpv⟩,_⟩:=afx he (hr2 hg) hp
  rw[e,ed]at h1
  have hne:∀r o n,t.v st=.view r o n->p≠r:=λr o n ht e'=>by have:=ap5 h1 ht;rw[<-e']at this;rcases hpv with e|e<;>(rw[e]at h3;simp only[ry,this]at h3;cases h3)
  rw[ek]
  have:(match t.v st with|.view q _ _=>p !=q|_=>ar)=ar:=by split;(·rename_i r o n ht;simpa using hne r o n ht);·rfl
  rcases hpv with e|e<;>(rw[e];exact this)
def alI{o:O}{s:Nat}{v:A}(h2:s∉bT o):iw (st.aV s v) o=iw st o:=by cases o with|call f args=>have hf:f.v (st.aV s v)=f.v st:=fw λi hi=>cR (λe=>h2 (by simp[bT,<-e,hi]));have ha:args.map (bZ.v (st.aV s v))=args.map (bZ.v st):=Dk λi hi=>cR (λe=>h2 (by simp only[bT];exact aS _ (e▸hi)));simp only[iw,hf,ha,vm]|rq n a x=>have ha:a.v (st.aV s v)=a.v st:=fw λi hi=>cR (λe=>h2 (by simp[bT,<-e,hi]));simp only[iw,ha]|_=>rfl
def arh{x y:Op}{s:Nat}(h:RM x y s){v:A}{f:bZ}{args:List bZ}(e:y.o=.call f args)(a:A):O6 (st.aV s v) (.call f args) y.d a=O6 st (.call f args) y.d a:=by
 have hsu:=h.su;have ht:iw (st.aV s v) (.call f args)=iw st (.call f args):=alI (by rw[<-e];exact hsu);have hfr:∀p,wQ (st.aV s v) (.call f args) y.d p=wQ st (.call f args) y.d p:=λp=>by simp only[wQ,ht]
 have hro:∀p,IG (st.aV s v) (.call f args) y.d p=IG st (.call f args) y.d p:=λp=>by simp only[IG,hfr,vm]
 cases a<;>simp only[O6,hro]
def aoC{x y:Op}{s:Nat}(h:RM x y s){v:A}{z b:Nat}{t u:bZ}(e:y.o=.app z b t u)(a:A):IY (st.aV s v) t a=IY st t a:=by have hsu:=h.su;rw[e]at hsu;have ha:t.v (st.aV s v)=t.v st:=fw λi hi=>cR (λe=>hsu (by simp[bT,<-e,hi]));cases a<;>simp only[IY,ha]
def ac6{x y:Op}{s:Nat}(h:RM x y s){v:A}:AG (st.aV s v) y.av y.d y.o=ar↔(AG (st.aV s v) [] y.d y.o=ar/\∀k∈y.av,k<gs->KB y st ((st.aV s v).t k))/\adz y (st.aV s v):=by
 have hle:∀k:Nat,gs<=k↔¬k<gs:=λk=>Nat.not_lt.symm;rcases h.ko with ⟨n,a',u,e,_⟩|⟨f,args,e,_⟩|⟨z,b,t,u,e,_⟩
 ·have hp:DG (st.aV s v) (.rq n a' u)=DG st (.rq n a' u):=ajG (by rw[<-e];exact h.su);have hm:∀b,FO (st.aV s v) b=FO st b:=λb=>rfl;have hE:adz y (st.aV s v)↔D5 (st.aV s v) y.av a'=ar:=⟨λhh=>hh.2 n a' u e,λhh=>⟨λf args e'=>by rw[e]at e';(cases e'),λn2 a2 u2 e'=>by rw[e]at e';cases e';exact hh⟩⟩;rw[hE];have hN:D5 (st.aV s v) [] a'=ar:=rfl;simp only[KB,e,AG,hp,hm,hN,cj,aj,fK,pe,aG,ax];refine and_congr_left λ_=> ?_;constructor;·rintro(h1|⟨h1,h2⟩);(·exact⟨.inl h1,λ_ _ _=>.inl h1⟩);·exact⟨.inr h1,λk hk hg=>.inr ((h2 k hk).resolve_left (by omega))⟩
  ·rintro⟨h1|h1,h2⟩;(·exact .inl h1);·by_cases hf:DG st (.rq n a' u)=ar;(·exact .inl hf);·refine .inr ⟨h1,λk hk=> ?_⟩;by_cases hg:k<gs;(·exact .inr ((h2 k hk hg).resolve_left hf));·exact .inl (by omega)
 ·have hE:adz y (st.aV s v)↔∀k∈y.av,cp<=k->alu y.d ((st.aV s v).t (k-cp))=ar:=⟨λhh=>hh.1 f args e,λhh=>⟨λf' args' _=>hh,λn2 a2 u2 e'=>by rw[e]at e';cases e'⟩⟩;rw[hE];simp only[KB,e,AG,cj,aj,fK,pe,aG,ax,arh h e];constructor;·rintro⟨h1,h2,h3⟩;exact⟨⟨h1,λk hk hg=>(h2 k hk).resolve_left (by omega)⟩,λk hk hg=>(h3 k hk).resolve_left (by omega)⟩
  ·rintro⟨⟨h1,h2⟩,h3⟩;refine⟨h1,λk hk=> ?_,λk hk=> ?_⟩;(·by_cases hg:k<gs;(·exact .inr (h2 k hk hg));·exact .inl (by omega));·by_cases hg:k<cp;(·exact .inl hg);·exact .inr (h3 k hk (by omega))
 ·have hE:adz y (st.aV s v):=⟨λf args e'=>by rw[e]at e';(cases e'),λn2 a2 u2 e'=>by rw[e]at e';cases e'⟩;simp only[KB,e,AG,hE,cj,fK,Mh,pe,aG,ax,aoC h e];constructor;·exactλh2 k hk hg=>(h2 k hk).resolve_left (by omega)
  ·intro h2 k hk;by_cases hg:k<gs;(·exact .inr (h2 k hk hg));·exact .inl (by omega)
def aeZ{x y:Op}{s:Nat}(h:RM x y s){v:A}{n:Nat}{a u:bZ}(e:y.o=.rq n a u)(hv:cp+s∈y.av->∀r i c,a.v st=.loc r i c->vt r v=vt r (st.t s)):D5 (st.aV s v) y.av a=D5 st y.av a:=by have hsu:=h.su;rw[e]at hsu;have ha:a.v (st.aV s v)=a.v st:=fw λi hi=>cR (λe=>hsu (by simp[bT,<-e,hi]));cases eq:a.v st with|loc q i c=>(have key:∀k∈y.av,(ah (k<cp)||vt q ((st.aV s v).t (k-cp)))=(ah (k<cp)||vt q (st.t (k-cp))):=λk hk=>by by_cases hg:k<cp;(·simp[hg]);·by_cases ek:k-cp=s;(·(have hm:cp+s∈y.av:=by rw[<-ek,Tr (by omega)];exact hk);rw[ek,show(st.aV s v).t s=v from by simp[St.aV],hv hm q i c eq]);·rw[cR ek]);(have hall:(y.av.all λk=>ah (k<cp)||vt q ((st.aV s v).t (k-cp)))=(y.av.all λk=>ah (k<cp)||vt q (st.t (k-cp))):=by rw[afX,aG,aG];exact⟨λhh k hk=>by rw[<-key k hk];exact hh k hk,λhh k hk=>by rw[key k hk];exact hh k hk⟩);simp only[D5,ha,eq,vm,hall]|_=>simp only[D5,ha,eq]
def ahM{x y:Op}{s:Nat}(h:RM x y s){v:A}(hv:cp+s∈y.av->∀n a u r i c,y.o=.rq n a u->a.v st=.loc r i c->vt r v=vt r (st.t s)):adz y (st.aV s v)↔adz y st:=by
 have key:(∀n a u,y.o≠ .rq n a u)->∀k∈y.av,cp<=k->(st.aV s v).t (k-cp)=st.t (k-cp):=λhn k hk hg=>cR λe=>(h.xc.resolve_right λ⟨_,⟨n,a,u,e'⟩,_⟩=>hn n a u e') (by rw[<-e,Tr hg];exact hk);have nc:∀f args,y.o=.call f args->∀n a u,y.o≠ .rq n a u:=λf args e n a u e'=>by rw[e]at e';cases e'
 exact⟨λhh=>⟨λf args e k hk hg=>by rw[<-key (nc f args e) k hk hg];exact hh.1 f args e k hk hg,λn a u e=>by rw[<-aeZ h e (v:=v) λhm r i c ea=>hv hm n a u r i c e ea];exact hh.2 n a u e⟩,
  λhh=>⟨λf args e k hk hg=>by rw[key (nc f args e) k hk hg];exact hh.1 f args e k hk hg,λn a u e=>by rw[aeZ h e λhm r i c ea=>hv hm n a u r i c e ea];exact hh.2 n a u e⟩⟩
def atu{x y:Op}{s:Nat}(h:RM x y s)(hc:adz y st)(hm:cp+s∈y.av){v:A}(he:bJ cf io x.d st x.o=ae v)(hr1:(!x.pq||pure v)=ar):∀n a u r i c,y.o=.rq n a u->a.v st=.loc r i c->vt r v=ar:=by
 intro n a u r i c e ea;obtain⟨_,_,hs,hq,hall⟩:=h.xc.resolve_left λhn=>hn hm;simp only[cj,cn]at hr1;by_cases hp:pure v=ar;·cases v<;>first|rfl|(simp[pure,cr]at hp;done)
 rcases hq with hq|hq
 ·exact absurd (hr1.resolve_left (by rw[hq];simp)) hp
 ·cases ho:x.o<;>rw[ho]at hq<;>first
   |(simp[X7]at hq;done)
   |skip
  rename_i off w
  cases w with
  |c a=>simp[X7]at hq
  |t k=>
   have hk:=hall k (by rw[ho];simp[bT,hY]);have hb:=hc.2 n a u e;simp only[D5,cj]at hb;(have hk2:vt r (st.t k)=ar:=by(rcases hb with hb|hb);(·have this:ah (_<cp)=ar:=aG.1 hb _ hk;exact absurd (cd this) (by omega));·rw[ea]at hb;simp only[aj,aG,cj,ax]at hb;have:=(hb.2 _ hk).resolve_left (by omega);rwa[zn]at this);rw[ho]at he;simp only[bJ,bZ.v]at he
   cases hst:st.t k<;>rw[hst]at he hk2<;>first
    |(cases he;done)
    |skip
   (·obtain⟨R,_,he⟩:=au.1 he;subst he;exact hk2);·cases he;rfl
def asm{x y:Op}{s:Nat}(h:RM x y s){v:A}(hv:cp+s∈y.av->∀n a u r i c,y.o=.rq n a u->a.v st=.loc r i c->vt r v=ar)(hc:adz y st):adz y (st.aV s v):=by
 refine(ahM h λhm n a u r i c e ea=> ?_).2 hc;rw[hv hm n a u r i c e ea];have hb:=hc.2 n a u e;simp only[D5,cj]at hb;rcases hb with hb|hb
 ·have this:ah (_<cp)=ar:=aG.1 hb _ hm;exact absurd (cd this) (by omega)
 ·rw[ea]at hb;simp only[aj,aG,cj,ax]at hb;have:=(hb.2 _ hm).resolve_left (by omega);rw[zn]at this;exact this.symm
def ajF{x y:Op}{s:Nat}(h:RM x y s){v:A}:AG (st.aV s v) [] y.d y.o=AG st [] y.d y.o:=by
 have hsu:=h.su;rcases h.ko with ⟨n,a',u,e,_⟩|⟨f,args,e,_⟩|⟨z,b,t,u,e,_⟩
 ·rw[e]at hsu;have ha:a'.v (st.aV s v)=a'.v st:=fw λi hi=>cR (λe=>hsu (by simp[bT,<-e,hi]));have hp:DG (st.aV s v) (.rq n a' u)=DG st (.rq n a' u):=ajG hsu;simp only[e,AG,ha,hp,vm,fK,D5,axn,aar]
 ·rw[e]at hsu;have hf:f.v (st.aV s v)=f.v st:=fw λi hi=>cR (λe=>hsu (by simp[bT,<-e,hi]));have ha:args.map (bZ.v (st.aV s v))=args.map (bZ.v st):=Dk λi hi=>cR (λe=>hsu (by simp only[bT];exact aS _ (e▸hi)));simp only[e,AG,QT,hf,ha,fK]
 ·simp only[e,AG,fK]
def ajE{x y:Op}{s:Nat}(h:RM x y s):AG st y.av y.d y.o=ar↔(AG st [] y.d y.o=ar/\∀k∈y.av,k<gs->KB y st (st.t k))/\adz y st:=by have:=ac6 (st:=st) h (v:=st.t s);rw[W3]at this;exact this
def aal{all:List Op}{x y:Op}{s:Nat}(h:RM x y s)(st:St):stepG cf io all st y=if AG st y.av y.d y.o=ar then bt cf io y.d st y.o else ai:=by simp only[stepG,h.yg,guardOf,step,anG,h.yw,h.yq,h.ya,fF,bM,h.yr,ao,aH,aC]
def amX{x y:Op}{s:Nat}(h:RM x y s)(hc:AG st y.av y.d y.o=ar){st1:St}(h1:bt cf io y.d st y.o=ae st1): bJ cf io x.d st x.o=bJ cf io x.d st1 x.o/\(∀v,okV st x.o v=okV st1 x.o v)/\∀v,ry st v=ry st1 v->fP st x v=fP st1 x v:=by
 have same:∀k∈y.av,k∉bT y.o->y.d≠ae k->k<gs->st.t k=st1.t k:=λk hk hu hd hg=>(att h hc (Vm h hc hk hg) hg hu hd h1).symm;have us:∀k∈bT x.o,st.t k=st1.t k:=λk hk=>by obtain⟨a,b,c,d⟩:=h.us k hk;exact same k a b c d
 have fl:∀i∈bT x.o++Mu x,st.t i=st1.t i:=λi hi=>by(rcases aU.1 hi with hi|hi);(·exact us i hi);·simp only[Mu]at hi;split at hi;(·rename_i hg;rw[h.xd,aX]at hi;subst hi;exact same _ (h.xs.1 (by simpa using hg)) h.su h.sd h.sg);·cases hi
 by_cases hs:U8 x.o=ar
 ·have ok:∀v,okV st x.o v=okV st1 x.o v:=λv=>by
   unfold okV;congr 1
   cases ho:x.o<;>rw[ho]at hs<;>first
    |(simp[U8]at hs;done)
    |(cases v<;>rfl)
    |(rename_i w;cases w<;>cases v<;>rfl)
  exact⟨ajt hs us,ok,λv ht=>A2 (λ_=>ok v) (λ_=>ht) fl⟩
 ·have hs':U8 x.o=aw:=by simpa using hs
  by_cases hl:MI x.o=ar
  ·have ok:∀v,okV st x.o v=okV st1 x.o v:=λv=>by
    unfold okV;congr 1
    cases ho:x.o<;>rw[ho]at hl<;>first
     |(simp[MI]at hl;done)
     |(cases v<;>rfl)
   (have hn:simple x.o=aw:=by cases ho:x.o<;>rw[ho]at hl<;>first|rfl|(simp[MI]at hl;done));(obtain⟨n,a',u,e,ed,_⟩:∃n a' u,y.o=.rq n a' u/\y.d=ai/\True:=by(rcases h.ko with ⟨n,a',u,e,ed,hh⟩|⟨f,args,e,hh,_⟩|⟨z,b,t,u,e,_,hh,_⟩);(·exact⟨n,a',u,e,ed,trivial⟩);(·rw[hn]at hh;cases hh);·rw[hn]at hh;cases hh);refine⟨aoz hl us ?_,ok,λv ht=>A2 (λ_=>ok v) (λ_=>ht) fl⟩;rw[e,ed]at h1;cases hf:DG st (.rq n a' u)with|true=>exact .inl (ac7 hf h1)|false=>refine .inr λk hk p i c hv=> ?_;have:=Vm h hc (h.us k hk).1 (h.us k hk).2.2.2;simp only[KB,e,hf,ao,false_or,hv,FO,pure,cr]at this
  have sm:simple x.o=ar:=by(rcases h.ko with ⟨n,a',u,e,_,hh⟩|⟨f,args,e,hh,_⟩|⟨z,b,t,u,e,_,hh,_⟩);(·exact hh.elim (λhh=>hh.elim (λh'=>absurd h'.1 hs) λh'=>absurd h' hl) λh'=>h'.1);(·exact hh);·exact hh
  have rt:∀k∈bT x.o,st.t k=st1.t k/\∀p i c,(st.t k=.loc p i c\/st.t k=.view p i c)->st.r p=st1.r p:=λk hk=>by obtain⟨a,b,c,d⟩:=h.us k hk;refine⟨us k hk,λp i c' hp=>((aha h hc (Vm h hc a d) d b c).2.1 sm hs' (λn a' u r i2 c2 e ea=> ?_) st1 h1 p i c' hp).symm⟩;(rcases h.ko with ⟨n',a2,u',e',_,hh⟩|⟨f,args,e',_⟩|⟨z,b',t,u',e',_⟩);(·(rcases hh with hh|⟨_,_,_,hall⟩);(·exact absurd hh λhh=>hh.elim (λh'=>hs h'.1) hl);·have hm:=hall k hk;rw[e]at hc;simp only[AG,aj]at hc;have hb:=hc.2;simp only[D5,cj]at hb;(rcases hb with hb|hb);(·have this:ah (_<cp)=ar:=aG.1 hb _ hm;exact absurd (cd this) (by omega));·rw[ea]at hb;simp only[aj,aG,cj,ax]at hb;have:=(hb.2 _ hm).resolve_left (by omega);rwa[zn]at this);(·rw[e]at e';cases e');·rw[e]at e';cases e'
  exact⟨yR sm rt,λv=>Ww rt,λv ht=>A2 (λ_=>Ww rt) (λ_=>ht) fl⟩
def U4{x:Op}{v:A}(hr:fP st x v=ar):(!x.pq||pure v)=ar/\(gs∈x.av->∀s,x.d=ae s->st.t s=.any)/\(gs+1∈x.av->okV st x.o v=ar)/\(gs+2∈x.av->ry st v=ar):=by
 simp only[fP,aj,aG]at hr;refine⟨hr.1,λhg s hs=> ?_,λhg=> ?_,λhg=> ?_⟩;·have:=hr.2 gs hg;rw[aJ rfl,hs]at this;exact aiu this
 ·have:=hr.2 (gs+1) hg;rwa[aO (by unfold gs;omega),aJ rfl]at this
 ·have:=hr.2 (gs+2) hg;rwa[aO (by unfold gs;omega),aO (by omega),aJ rfl]at this
def ahh{all:List Op}{x y:Op}{s:Nat}(h:RM x y s){st s1 s2:St}(h1:stepG cf io all st x=ae s1)(h2:stepG cf io all s1 y=ae s2):∃t1,stepG cf io all st y=ae t1/\stepG cf io all t1 x=ae s2:=by
 rw[kj h.xw h.xg,h.xd]at h1;obtain⟨v,hv,h1⟩:=ak.1 h1;split at h1
 ·rename_i hr;cases h1;obtain⟨p1,p2,p3,p4⟩:=U4 hr;rw[aal h]at h2;split at h2
  ·rename_i hc;have hc':=(ac6 h).1 hc;(have hv':bJ cf io x.d st x.o=ae v:=by rw[h.xd];exact hv);have hD:cp+s∈y.av->∀n a u r i c,y.o=.rq n a u->a.v st=.loc r i c->vt r v=vt r (st.t s):=λhm n a u r i c e ea=>by obtain⟨hgs,_⟩:=h.xc.resolve_left λhn=>hn hm;rw[p2 hgs _ h.xd];have hb:=hc'.2.2 n a u e;have hsu:=h.su;rw[e]at hsu;have ha:a.v (st.aV s v)=a.v st:=fw λi hi=>cR (λe=>hsu (by simp[bT,<-e,hi]));simp only[D5,ha,ea,cj]at hb;(rcases hb with hb|hb);(·have this:ah (_<cp)=ar:=aG.1 hb _ hm;exact absurd (cd this) (by omega));·simp only[aj,aG,cj,ax]at hb;have:=(hb.2 _ hm).resolve_left (by omega);rw[zn]at this;simp only[St.aV,aC]at this;rw[this];rfl
   have hc0:AG st y.av y.d y.o=ar:=(ajE h).2 ⟨⟨by rw[<-ajF h];exact hc'.1.1,λk hk hg=>by
    by_cases e:k=s
    ·subst e;rw[p2 (h.xs.2 hk) _ h.xd];exact atf h
    ·have:=hc'.1.2 k hk hg;rwa[cR e]at this⟩,(ahM h hD).1 hc'.2⟩
   have hok:KB y st v:=aq7 h (λk hk=>Vm h hc0 (h.us k hk).1 (h.us k hk).2.2.2) hv' p1 p3 λ⟨z,b,t,u,e⟩=>.inl (by
    have hgs:gs∈x.av:=by
     rcases h.ko with ⟨_,_,_,e',_⟩|⟨_,_,e',_⟩|⟨_,_,_,_,_,_,_,hh,_⟩
     ·rw[e]at e';cases e'
     ·rw[e]at e';cases e'
     ·exact hh
    have:=hc'.1.2 s (h.xs.1 hgs) h.sg
    simpa[St.put,St.aV]using this)
   have h2:bt cf io y.d (st.aV s v) y.o=ae s2:=h2;have hp:=aha (cf:=cf) (io:=io) h hc0 hok h.sg h.su h.sd;rw[hp.1]at h2;obtain⟨t1,e1,e2⟩:=au.1 h2;obtain⟨r1,r2,r3⟩:=amX (cf:=cf) (io:=io) h hc0 e1;refine⟨t1,by rw[aal h,aJ hc0,e1],?_⟩;rw[kj h.xw h.xg,<-r1,hv',af,<-r3 v (hp.2.2 t1 e1),aJ hr,h.xd];exact congrArg ae e2
  ·cases h2
 ·cases h1
def ahi{all:List Op}{x y:Op}{s:Nat}(h:RM y x s){st s1 s2:St}(h1:stepG cf io all st x=ae s1)(h2:stepG cf io all s1 y=ae s2):∃t1,stepG cf io all st y=ae t1/\stepG cf io all t1 x=ae s2:=by
 rw[aal h]at h1;split at h1
 ·rename_i hc0;obtain⟨r1,r2,r3⟩:=amX (cf:=cf) (io:=io) h hc0 h1;rw[kj h.xw h.xg,<-r1]at h2;obtain⟨v,hv,h2⟩:=ak.1 h2;split at h2
  ·rename_i hr;obtain⟨p1,p2,p3,p4⟩:=U4 hr
   have hok:KB x st v:=aq7 h (λk hk=>Vm h hc0 (h.us k hk).1 (h.us k hk).2.2.2) hv p1 (λhg=>by rw[r2];exact p3 hg) λ⟨z,b,t,u,e⟩=>.inr ⟨s1,h1,p4 (by
    rcases h.ko with ⟨_,_,_,e',_⟩|⟨_,_,e',_⟩|⟨_,_,_,_,_,_,_,_,_,hh⟩
    ·rw[e]at e';cases e'
    ·rw[e]at e';cases e'
    ·exact hh)⟩
   have hp:=aha (cf:=cf) (io:=io) h hc0 hok h.sg h.su h.sd;rw[<-r3 v (hp.2.2 s1 h1)]at hr;refine⟨st.aV s v,?_,?_⟩;·rw[kj h.xw h.xg,hv,af,aJ hr,h.xd];rfl
   ·have hi:=(ajE h).1 hc0
    have hc:AG (st.aV s v) x.av x.d x.o=ar:=(ac6 h).2 ⟨⟨by rw[ajF h];exact hi.1.1,λk hk hg=>by
     by_cases e:k=s
     ·subst e;simp only[St.aV,aC];exact hok
     ·rw[cR e];exact hi.1.2 k hk hg⟩,asm h (λhm=>atu h hi.2 hm hv p1) hi.2⟩
    rw[aal h,aJ hc,hp.1,h1,az,<-h2,h.xd];rfl
  ·cases h2
 ·cases h1
def Tw{qq c:Nat}:∀(n j:Nat) {st:St},(∀i,i<j+n->cr (comp (st.t gs) i)=ar)->∃l,∀st':St,st'.t gs=st.t gs->st'.fh qq c j n=ae (l,st')
 |0,j,st,_=>⟨[],λst' _=>rfl⟩
 |n+1,j,st,h=>by
  obtain⟨l,hl⟩:=Tw (qq:=qq) (c:=c) n (j+1) (st:=st) λi hi=>h i (by omega)
  have one:∃a,∀st':St,st'.t gs=st.t gs->st'.kx qq c j=ae (a,st'):=by
   have hp:=h j (by omega)
   cases hc:comp (st.t gs) j<;>rw[hc]at hp<;>first
    |(simp[cr]at hp;done)
    |exact⟨_,λst' e=>by simp only[St.kx,e,hc,hp,aC];rfl⟩
  obtain⟨a,ha⟩:=one
  exact⟨a::l,λst' e=>by
   rw[St.fh,ha st' e,af]
   show Ts _ (st'.fh qq c (j+1) n)=_
   rw[hl st' e];rfl⟩
def aoc{a:A}(h:pure a=ar){i:Nat}(hi:i<a.cells.length):cr (comp a i)=ar:=by
 cases a<;>first
  |(simp only[A.cells,bh,cy]at hi
    have:i=0:=by omega
    subst this
    exact h)
  |(simp only[A.cells]at hi
    simp only[comp,A.cells,ay hi,eJ]
    exact aG.1 h _ (bc hi))
def am3{n q i c:Nat}{a x:bZ}{R:dF}(hp:pure (x.v st)=ar)(ea:a.v st=.loc q i c)(eR:st.r q=ae R)(hb:R.b=ar){st1:St}(h1:bt cf io ai st (.rq n a x)=ae st1): ∃R':dF,st1=(st.aV gs .any).aD q (ae R')/\∀st':St,a.v st'=a.v st->x.v st'=x.v st->st'.r=st.r->bt cf io ai st' (.rq n a x)=ae ((st'.aV gs .any).aD q (ae R')):=by
 obtain⟨b,z,xs⟩:=R;cases hb;simp only[bt,ea]at h1;split at h1;rotate_left;·cases h1
 rename_i hn;rw[eR,af]at h1;rcases xs with _|⟨e,_|⟨e2,r⟩⟩
 ·cases h1
 ·cases i with|succ i=>cases h1|zero=>simp only at h1;split at h1;rotate_left;(·cases h1);rename_i hcond;(obtain⟨l,hl⟩:=Tw (qq:=q) (c:=c) n 0 (st:=st.aV gs (x.v st)) λi hi=>by(have e1:(st.aV gs (x.v st)).t gs=x.v st:=by simp[St.aV]);rw[e1];exact aoc hp (by omega));(have fin:∀st':St,a.v st'=a.v st->x.v st'=x.v st->st'.r=st.r->bt cf io ai st' (.rq n a x)=ae ((st'.aV gs .any).aD q (ae ⟨ar,z,[eX e (e.cells.take c++l++e.cells.drop (c+n))]⟩)):=λst' e1 e2 e3=>by have ee:((st'.aV gs (x.v st)).aD q (ae ⟨ar,z,[blank e c n]⟩)).fh q c 0 n=ae (l,(st'.aV gs (x.v st)).aD q (ae ⟨ar,z,[blank e c n]⟩)):=hl _ (by simp[St.aD,St.aV]);simp only[bt,e1,e2,e3,ea,hn,eR,af,aC];rw[aJ hcond,ee];simp only[az,aq,St.put];simp only[St.aD,St.aV,St.mk.injEq];refine⟨?_,?_⟩;(·funext j;by_cases hj:j=gs<;>simp[hj]);·funext j;by_cases hj:j=q<;>simp[hj,e3]);refine⟨_,?_,fin⟩;have:=fin st rfl rfl rfl;simp only[bt,ea]at this;rw[aJ hn,eR,af]at this;simp only[aJ hcond]at this;rw[h1]at this;exact cq this
 ·cases h1
structure RR(x y:Op)(d:Nat):Prop where
 yq:y.pq=ar
 xw:x.w=aw
 yw:y.w=ar
 sm:simple x.o=ar
 xg:x.g=ai
 yg:y.g=ai
 yo:∃n a u,y.o=.rq n a u
 yd:y.d=ai
 ya:y.av=[rp+d]
 lt:rp+d<ep
 xa:d∈x.av
 x0:gs∉x.av
 x1:gs+1∉x.av
 x2:gs+2∉x.av
 us:∀k∈bT x.o,k<gs
 xd:∀s,x.d=ae s->s<gs/\s∉bT y.o
def aeW{x y:Op}(h:age x y=ar):∃d,RR x y d:=by
 simp only[age,aj,cn,ig,ck,cG,aG,ax]at h;obtain⟨h1,h2,h3,h4,h5,h6,h7,h8,h9,h10,h11,h12,h13⟩:=h;split at h8;rotate_left;·cases h8
 rename_i k hk;simp only[aj,ax]at h8;have hkp:=h8.2.1;have hyo:(∃n a u,y.o=.rq n a u)/\y.d=ai:=by split at h7;(·rename_i n a u e;exact⟨⟨n,a,u,e⟩,by simpa using h7⟩);·cases h7
 refine⟨k-rp,h1,h2,h3,h4,h5,h6,hyo.1,hyo.2,by rw[hk,Tr h8.1],by have:=h8.1;omega,h8.2.2,h9,h10,h11,h12,λs hs=> ?_⟩;rw[hs]at h13;simp only[aj,cn,ax,ck,cG]at h13;exact h13
def Vl{all:List Op}{x y:Op}{d:Nat}(h:RR x y d)(st:St):stepG cf io all st y=if ahn st y.av y.o=ar then bt cf io y.d st y.o else ai:=by
 have e:(y.av.any λk=>ah (rp<=k))=ar:=by rw[h.ya];simp
 have e2:y.av.isEmpty=aw:=by rw[h.ya];rfl
 have e3:(y.av.any λk=>ah (ep<=k))=aw:=by rw[h.ya];simpa using h.lt
 simp only[stepG,h.yg,guardOf,step,anG,h.yw,h.yq,e,e2,e3,fF,bM,aC,ao,aH]
def amZ{x y:Op}{d:Nat}(h:RR x y d){st s1:St}(hc:ahn st y.av y.o=ar)(h1:bt cf io y.d st y.o=ae s1){v:A}(hv:bJ cf io x.d st x.o=ae v/\fP st x v=ar\/bJ cf io x.d s1 x.o=ae v/\fP s1 x v=ar): bJ cf io x.d st x.o=ae v/\fP st x v=ar/\bJ cf io x.d s1 x.o=ae v/\fP s1 x v=ar/\bt cf io y.d (st.put x.d v) y.o=ae (s1.put x.d v):=by
 obtain⟨n,a,u,ho⟩:=h.yo;rw[ho,h.yd]at h1⊢;rw[ho,h.ya]at hc;simp only[ahn,aj]at hc;obtain⟨hp,hc⟩:=hc;split at hc;rotate_left;·cases hc
 rename_i q i c ea;simp only[de,fK,aeG,aj,b9]at hc;obtain⟨hq,hR⟩:=hc;have hqd:q=d:=by omega
 subst hqd;split at hR;rotate_left;·cases hR
 rename_i R eR;obtain⟨R',e1,e2⟩:=am3 (cf:=cf) (io:=io) hp ea eR hR h1;have ht:∀k,k<gs->s1.t k=st.t k:=λk hk=>by rw[e1];simp[St.aD,St.aV,show k≠gs by omega]
 have hr:∀p,p≠q->s1.r p=st.r p:=λp hp=>by rw[e1];simp[St.aD,St.aV,hp]
 have same:∀k∈bT x.o,st.t k=s1.t k/\∀p i c,(st.t k=.loc p i c\/st.t k=.view p i c)->st.r p=s1.r p:=by intro k hk;have hk':=ht k (h.us k hk);(have get:∀s:St,fP s x v=ar->jM (ae q) (s.t k)=ar:=λs e=>by simp only[fP,aj,aG]at e;have e':=e.2 q h.xa;rw[aO (show¬q=gs fromλe=>h.x0 (e▸h.xa)),aO (show¬q=gs+1 fromλe=>h.x1 (e▸h.xa)),aO (show¬q=gs+2 fromλe=>h.x2 (e▸h.xa))]at e';simp only[aj,aG]at e';exact e'.2 k hk);(have hst:jM (ae q) (st.t k)=ar:=hv.elim (λe=>get _ e.2) λe=>by rw[<-hk'];exact get _ e.2);refine⟨hk'.symm,λp i c hpc=> ?_⟩;obtain⟨q',f1,f2,f3⟩:=AF hst;have hq':=f3 p i c hpc;exact(hr p λe=>f2 p hq' (by rw[e])).symm
 have ev:=yR (cf:=cf) (io:=io) (d:=x.d) h.sm same;have fl:Mu x=[]:=by simp[Mu,h.x0]
 have ro:fP st x v=fP s1 x v:=LM (.inr ⟨h.x1,h.x2⟩) λk hk=>(same k (by rw[fl,bS]at hk;exact hk)).1;have hall:bJ cf io x.d st x.o=ae v/\fP st x v=ar:=by(rcases hv with e|e);(·exact e);·exact⟨ev.trans e.1,ro.trans e.2⟩
 refine⟨hall.1,hall.2,ev▸hall.1,ro▸hall.2,?_⟩;cases hx:x.d with|none=>exact h1|some s=>obtain⟨hs,hsu⟩:=h.xd s hx;rw[ho]at hsu;have ha:a.v (st.aV s v)=a.v st:=HD λhm=>hsu (by simp only[bT,aU];exact .inl hm);have hu:u.v (st.aV s v)=u.v st:=HD λhm=>hsu (by simp only[bT,aU];exact .inr hm);refine(e2 (st.aV s v) ha hu rfl).trans ?_;rw[e1];show ae (((st.aV s v).aV gs .any).aD q (ae R'))=ae (((st.aV gs .any).aD q (ae R')).aV s v);rw[l7 _ (show gs≠s by omega)];rfl
def ajH{x y:Op}{d:Nat}(h:RR x y d){st:St}{v:A}:ahn (st.put x.d v) y.av y.o=ahn st y.av y.o:=by obtain⟨n,a,u,ho⟩:=h.yo;cases hx:x.d with|none=>rfl|some s=>obtain⟨hs,hsu⟩:=h.xd s hx;rw[ho]at hsu⊢;have ha:a.v (st.aV s v)=a.v st:=HD λhm=>hsu (by simp only[bT,aU];exact .inl hm);have hu:u.v (st.aV s v)=u.v st:=HD λhm=>hsu (by simp only[bT,aU];exact .inr hm);show ahn (st.aV s v) y.av (.rq n a u)=_;simp only[ahn,ha,hu];rfl
def ahj{all:List Op}{x y:Op}{d:Nat}(h:RR x y d){st s1 s2:St}(h1:stepG cf io all st x=ae s1)(h2:stepG cf io all s1 y=ae s2):∃t1,stepG cf io all st y=ae t1/\stepG cf io all t1 x=ae s2:=by
 rw[kj h.xw h.xg]at h1;obtain⟨v,hv,h1⟩:=ak.1 h1;split at h1;rotate_left;·cases h1
 rename_i hq;cases h1;rw[Vl h,ajH h]at h2;split at h2;rotate_left;·cases h2
 rename_i hc;have hy:∃t1,bt cf io y.d st y.o=ae t1:=by obtain⟨n,a,u,ho⟩:=h.yo;have hc':=hc;rw[ho,h.ya]at hc';simp only[ahn,aj]at hc';obtain⟨hp,hc'⟩:=hc';split at hc';rotate_left;(·cases hc');rename_i q i c ea;simp only[aj]at hc';obtain⟨_,hR⟩:=hc';split at hR;rotate_left;(·cases hR);rename_i R eR;rw[ho,h.yd]at h2⊢;cases hx:x.d with|none=>rw[hx]at h2;exact⟨_,h2⟩|some s=>rw[hx]at h2;obtain⟨hs,hsu⟩:=h.xd s hx;rw[ho]at hsu;have ha:a.v (st.aV s v)=a.v st:=HD λhm=>hsu (by simp only[bT,aU];exact .inl hm);have hu:u.v (st.aV s v)=u.v st:=HD λhm=>hsu (by simp only[bT,aU];exact .inr hm);obtain⟨R',_,e2⟩:=am3 (cf:=cf) (io:=io) (st:=st.aV s v) (by rw[hu];exact hp) (ha.trans ea) eR hR h2;exact⟨_,e2 st ha.symm hu.symm rfl⟩
 obtain⟨t1,ht1⟩:=hy;obtain⟨_,_,e1,e2,e3⟩:=amZ h hc ht1 (.inl ⟨hv,hq⟩);rw[e3]at h2;cases h2;refine⟨t1,?_,?_⟩;·rw[Vl h,aJ hc];exact ht1
 ·rw[kj h.xw h.xg,e1,af,aJ e2]
def ahk{all:List Op}{x y:Op}{d:Nat}(h:RR y x d){st s1 s2:St}(h1:stepG cf io all st x=ae s1)(h2:stepG cf io all s1 y=ae s2):∃t1,stepG cf io all st y=ae t1/\stepG cf io all t1 x=ae s2:=by
 rw[Vl h]at h1;split at h1;rotate_left;·cases h1
 rename_i hc;rw[kj h.xw h.xg]at h2;obtain⟨v,hv,h2⟩:=ak.1 h2;split at h2;rotate_left;·cases h2
 rename_i hq;cases h2;obtain⟨e1,e2,_,_,e3⟩:=amZ h hc h1 (.inr ⟨hv,hq⟩);refine⟨st.put y.d v,?_,?_⟩;·rw[kj h.xw h.xg,e1,af,aJ e2]
 ·rw[Vl h,ajH h,aJ hc];exact e3
def Cc(a b:A):Prop:=∀xs,a=.sf xs->∃ys,b=.sf ys/\∀(i:Nat) u,xs[i]? =ae u->cr u=ar->ys[i]? =ae u
def Cc.refl(a:A):Cc a a:=λxs e=>⟨xs,e,λ_ _ h _=>h⟩
def Cc.trans{a b c:A}(h:Cc a b)(h':Cc b c):Cc a c:=λxs e=>by obtain⟨ys,e1,h1⟩:=h xs e;obtain⟨zs,e2,h2⟩:=h' ys e1;exact⟨zs,e2,λi u hu hp=>h2 i u (h1 i u hu hp) hp⟩
def Cc.cJ{f:A->A}(hf:∀u,Ab.cr u=ar->f u=u)(a:A):Cc a (Ab.cJ f a):=by rintro xs rfl;exact⟨xs.map f,rfl,λi u h hu=>by simp[h,hf u hu]⟩
def agj{st:St}(k r:Nat):Cc (st.t k) ((st.kill r).t k):=Cc.cJ (λu hu=>by cases u<;>first|rfl|simp[Ab.cr]at hu) _
def aaK{st:St}(k r:Nat):Cc (st.t k) ((st.cX r).t k):=Cc.cJ (λu hu=>by cases u<;>first|rfl|simp[Ab.cr]at hu) _
def amf{st st1:St}{i j k:Nat}(h:st.pz i j=ae st1):Cc (st.t k) (st1.t k):=by
 unfold St.pz at h;split at h;·cases h;exact Cc.cJ (λu hu=>by cases u<;>first|rfl|simp[Ab.cr]at hu) _
 ·obtain⟨R,hR,h⟩:=ak.1 h;split at h;·cases h
  ·cases h;exact Cc.cJ (λu hu=>by cases u<;>first|rfl|simp[Ab.cr]at hu) _
 ·cases h;exact Cc.refl _
def amg{i k:Nat}:∀{n:Nat} {st st1:St},st.oh i n=ae st1->Cc (st.t k) (st1.t k)
 |0,st,st1,h=>by cases h;exact Cc.refl _
 |n+1,st,st1,h=>by
  obtain⟨s,h1,h2⟩:=ak.1 h
  exact(amg h1).trans (amf h2)
def aaL{st:St}{i k:Nat}(h:k≠i)(v:A):(st.aV i v).t k=st.t k:=by simp[St.aV,h]
def akv{st st1:St}{q c j k:Nat}{x:A}(h:st.kx q c j=ae (x,st1)):Cc (st.t k) (st1.t k):=by
 unfold St.kx at h;split at h
 ·split at h;·cases h;exact(aaK _ _).trans (agj _ _)
  ·cases h
 ·split at h;·cases h;exact Cc.refl _
  ·obtain⟨s,h1,h2⟩:=ak.1 h;split at h2;(·cases h2;exact amf h1);·cases h2
 ·cases h;exact Cc.refl _
 ·split at h;·cases h;exact Cc.refl _
  ·cases h
def aaJ{q c k:Nat}:∀{n j:Nat} {st st1:St} {l:List A},st.fh q c j n=ae (l,st1)->Cc (st.t k) (st1.t k)
 |0,j,st,st1,l,h=>by cases h;exact Cc.refl _
 |n+1,j,st,st1,l,h=>by
  obtain⟨p,h1,h2⟩:=ak.1 h
  obtain⟨p2,h3,h4⟩:=au.1 h2
  cases h4
  exact(akv h1).trans (aaJ h3)
def amh{d:Option Nat}{k:Nat}{o:O}(ho:(∃n a x,o=.rq n a x)\/∃x,o=.asg x)(hk:k<gs)(hd:d≠ae k){st st1:St}(h:bt cf io d st o=ae st1):Cc (st.t k) (st1.t k):=by
 rcases ho with ⟨n,a,x,rfl⟩|⟨x,rfl⟩
 ·simp only[bt]at h;split at h;·split at h;(·obtain⟨R,hR,h⟩:=ak.1 h;split at h;(·split at h;(·obtain⟨p,h1,rfl⟩:=au.1 h;have e:=aaJ (k:=k) h1;rw[show((st.aV gs (x.v st)).aD _ _).t k=st.t k from aaL (by omega) _]at e;rw[ack _ _ _ hd];show Cc _ ((p.2.aV gs .any).t k);rw[aaL (by omega)];exact e);·cases h);(·obtain⟨p,h1,h⟩:=ak.1 h;obtain⟨s,h2,h3⟩:=ak.1 (show _=ae p from h1);obtain⟨v,hv,rfl⟩:=au.1 h3;split at h;(·obtain⟨R1,hR1,h⟩:=ak.1 h;obtain⟨e,he,h⟩:=ak.1 h;obtain⟨cs,hcs,rfl⟩:=au.1 h;have e:=amg (k:=k) h2;rw[aaL (by omega)]at e;rw[ack _ _ _ hd];show Cc _ ((s.aV gs .any).t k);rw[aaL (by omega)];exact e);·cases h);·cases h);·cases h
  ·cases h
 ·simp only[bt]at h;split at h;·split at h;(·cases h;rw[ack _ _ _ hd];exact(aaK _ _).trans (agj _ _));·cases h
  ·split at h;(·cases h;rw[ack _ _ _ hd];exact agj _ _);·cases h
  ·cases h;rw[ack _ _ _ hd];exact Cc.refl _
structure RE(x y:Op)(s k i:Nat):Prop where
 yq:y.pq=ar
 xw:x.w=aw
 yw:y.w=ar
 xq:x.pq=ar
 xa:x.av=[]
 xg:x.g=ai
 yg:y.g=ai
 ye:(y.av.any λe=>ah (ep<=e))=ar
 yo:(∃n a u,y.o=.rq n a u)\/∃u,y.o=.asg u
 xo:x.o=.ext (.t k) i
 mem:ep+16*k+i∈y.av
 i16:i<16
 kd:y.d≠ae k
 kg:k<gs
 xd:x.d=ae s
 sg:s<gs
 su:s∉bT y.o
 sd:y.d≠ae s
 k16:k<65536
 sa:∀e∈y.av,e/16%65536≠s
def aeU{x y:Op}(h:agc x y=ar):∃s k i,RE x y s k i:=by
 simp only[agc,aj,cn,ig,qk]at h;obtain⟨h1,h2,h3,h4,h5,h6,h7,h8,h9,h10,h11⟩:=h;split at h10;rotate_left;·cases h10
 rename_i k i hx;split at h11;rotate_left;·cases h11
 rename_i s hs;simp only[aj,cn,ck,ax,cG,ja,Ly,aG]at h10 h11;refine⟨s,k,i,h1,h2,h3,h4,h5,h6,h7,h8,?_,hx,h10.1,h10.2.1,h10.2.2.2.2.1,h10.2.2.2.2.2,hs,h11.1,h11.2.1,h11.2.2.1,h10.2.2.1,λe he=>h11.2.2.2 e he⟩;split at h9;·rename_i n a u e;exact .inl ⟨n,a,u,e⟩
 ·rename_i u e;exact .inr ⟨u,e⟩
 ·cases h9
def aak{all:List Op}{x y:Op}{s k i:Nat}(h:RE x y s k i)(st:St):stepG cf io all st y=if y.av.all (Ny st)=ar then bt cf io y.d st y.o else ai:=by
 obtain⟨e,he,hp⟩:=Ms.1 h.ye;have e1:(y.av.any λk=>ah (rp<=k))=ar:=Ms.2 ⟨e,he,bL (dZ (by decide) (cd hp:ep<=e))⟩;have e2:y.av.isEmpty=aw:=by cases hh:y.av with|nil=>rw[hh]at he;cases he|cons=>rfl
 simp only[stepG,h.yg,guardOf,step,anG,h.yw,h.yq,e1,e2,h.ye,fF,bM,aC]
def aq3{x y:Op}{s k i:Nat}(h:RE x y s k i){v:A}(hp:Ab.pure v=ar)(st:St):bt cf io y.d (st.aV s v) y.o=(bt cf io y.d st y.o).map (·.aV s v):=by
 have hw:wr y.o=ar:=by rcases h.yo with ⟨n,a,u,e⟩|⟨u,e⟩<;>rw[e]<;>rfl
 have h1:CH ai v:=.inl (.inl hp);have h2:Tu y.o ai y.d st:=Tu.no _ _ _;have h3:∀p,ai=ae p->p∉iw st y.o:=λp e=>by cases e
 exact(XL (cf:=cf) (io:=io) hw h1 h.sg h.su h.sd h2 h3).put
def aq2{x y:Op}{s k i:Nat}(h:RE x y s k i)(v:A)(st:St):y.av.all (Ny (st.aV s v))=y.av.all (Ny st):=by
 have:∀l:List Nat,(∀e∈l,e/16%65536≠s)->l.all (Ny (st.aV s v))=l.all (Ny st):=λl hl=>by induction l with|nil=>rfl|cons e l ih=>rw[de,de,ih λe he=>hl e (aL _ he)];have hh:=aaL (st:=st) (hl e (di ..)) v;unfold Ny;rw[hh]
 exact this _ h.sa
def amV{x y:Op}{s k i:Nat}(h:RE x y s k i){st:St}(hs:y.av.all (Ny st)=ar):∃xs a,st.t k=.sf xs/\xs[i]? =ae a/\Ab.cr a=ar:=by
 have h1:=aG.1 hs _ h.mem;have i1:=h.i16;have i2:=h.k16;have a1:(ep+16*k+i)/16%65536=k:=by unfold ep;omega
 have a2:(ep+16*k+i)%16=i:=by unfold ep;omega
 simp only[Ny,a1,a2,aj]at h1;have h2:=h1.2;split at h2
 ·rename_i xs e;split at h2;·rename_i a ea;exact⟨xs,a,e,ea,h2⟩
  ·cases h2
 ·cases h2
def ag1{x y:Op}{s k i:Nat}(h:RE x y s k i){st:St}{xs:List A}(e:st.t k=.sf xs):bJ cf io x.d st x.o=xs[i]? :=by rw[h.xo];simp only[bJ,bZ.v,e]
def ahl{all:List Op}{x y:Op}{s k i:Nat}(h:RE x y s k i){st s1 s2:St}(h1:stepG cf io all st x=ae s1)(h2:stepG cf io all s1 y=ae s2):∃t1,stepG cf io all st y=ae t1/\stepG cf io all t1 x=ae s2:=by
 rw[DF h.xw h.xa h.xg]at h1;rw[aak h]at h2;obtain⟨v,hv,h1⟩:=ak.1 h1;split at h1
 ·rename_i hq;cases h1;split at h2;·rename_i hs;rw[h.xd]at h2 hs;have h2:bt cf io y.d (st.aV s v) y.o=ae s2:=h2;have hs:y.av.all (Ny (st.aV s v))=ar:=hs;rw[aq2 h]at hs;obtain⟨xs,a,e,ea,ha⟩:=amV h hs;rw[ag1 h e,ea]at hv;cases hv;rw[aq3 h (by rw[h.xq]at hq;simpa using hq)]at h2;obtain⟨t1,e1,e2⟩:=au.1 h2;obtain⟨ys,e3,e4⟩:=amh h.yo h.kg h.kd e1 xs e;refine⟨t1,by rw[aak h,aJ hs,e1],?_⟩;rw[DF h.xw h.xa h.xg,ag1 h e3,e4 i _ ea ha,af,aJ hq,h.xd,<-e2];rfl
  ·cases h2
 ·cases h1
def ahm{all:List Op}{x y:Op}{s k i:Nat}(h:RE y x s k i){st s1 s2:St}(h1:stepG cf io all st x=ae s1)(h2:stepG cf io all s1 y=ae s2):∃t1,stepG cf io all st y=ae t1/\stepG cf io all t1 x=ae s2:=by
 rw[aak h]at h1;rw[DF h.xw h.xa h.xg]at h2;obtain⟨v,hv,h2⟩:=ak.1 h2;split at h1
 ·rename_i hs;obtain⟨xs,a,e,ea,ha⟩:=amV h hs;obtain⟨ys,e3,e4⟩:=amh h.yo h.kg h.kd h1 xs e;rw[ag1 h e3,e4 i _ ea ha]at hv;cases hv;split at h2;·rename_i hq;cases h2;refine⟨st.put y.d v,by rw[DF h.xw h.xa h.xg,ag1 h e,ea,af,aJ hq],?_⟩;rw[aak h,h.xd];show(if x.av.all (Ny (st.aV s v))=ar then bt cf io x.d (st.aV s v) x.o else ai)=_;rw[aq2 h,aJ hs,aq3 h (by rw[h.xq]at hq;simpa using hq),h1];rfl
  ·cases h2
 ·cases h1
def alw{all:List Op}{x y:Op}(h:Ji all x y=ar){st s1 s2:St}(h1:stepG cf io all st x=ae s1)(h2:stepG cf io all s1 y=ae s2): ∃t1,stepG cf io all st y=ae t1/\stepG cf io all t1 x=ae s2:=by
 simp only[Ji,cj]at h;rcases h with h|(h|h)|(h|h)|(h|h)|(h|h)|(h|h)|h|h
 ·exact ajC h h1 h2
 ·obtain⟨d,h⟩:=aeS h;exact ajy h h1 h2
 ·obtain⟨d,h⟩:=aeS h;exact ajz h h1 h2
 ·obtain⟨s,h⟩:=aeT h;exact ajA h h1 h2
 ·obtain⟨s,h⟩:=aeT h;exact ajB h h1 h2
 ·obtain⟨s,h⟩:=aeV h;exact ahh h h1 h2
 ·obtain⟨s,h⟩:=aeV h;exact ahi h h1 h2
 ·exact ajw (aeX h) h1 h2
 ·exact ajx (aeX h) h1 h2
 ·obtain⟨s,k,i,h⟩:=aeU h;exact ahl h h1 h2
 ·obtain⟨s,k,i,h⟩:=aeU h;exact ahm h h1 h2
 ·obtain⟨d,h⟩:=aeW h;exact ahj h h1 h2
 ·obtain⟨d,h⟩:=aeW h;exact ahk h h1 h2
def O8(cf:CF)(io:Nat->List Bool)(all:List Op)(st:St)(i:Nat):Option St:=
 match all[i]? with
 |some x=>stepG cf io all st x
 |none=>ae st
def QF(cf:CF)(io:Nat->List Bool)(all:List Op):List Nat->St->Option St
 | [],st=>ae st
 |i::l,st=>(O8 cf io all st i).bind (QF cf io all l)
def Yk(all:List Op):∀(l pre:List Op) (st:St),all=pre++l->vn cf io all l st=QF cf io all (List.range' pre.length l.length) st
 | [],pre,st,_=>by simp[vn,QF]
 |o::l,pre,st,he=>by
  rw[ajp,bh,List.range'_succ,QF]
  have hi:all[pre.length]? =ae o:=by rw[he];simp
  simp only[O8,hi]
  cases hs:stepG cf io all st o with
  |none=>rfl
  |some s=>
   have:=Yk all l (pre++ [o]) s (by rw[he];simp)
   simpa using this
def alx{all:List Op}{i j:Nat}(h:∀x y,all[j]? =ae x->all[i]? =ae y->Ji all x y=ar){st s1 s2:St}(h1:O8 cf io all st j=ae s1)(h2:O8 cf io all s1 i=ae s2): ∃t1,O8 cf io all st i=ae t1/\O8 cf io all t1 j=ae s2:=by unfold O8 at*;cases hj:all[j]? with|none=>simp only[hj,aq]at h1⊢;subst h1;exact⟨s2,h2,rfl⟩|some x=>simp only[hj]at h1⊢;cases hi:all[i]? with|none=>simp only[hi,aq]at h2⊢;subst h2;exact⟨st,rfl,h1⟩|some y=>simp only[hi]at h2⊢;exact alw (h x y hj hi) h1 h2
def acz{all:List Op}{i:Nat}{post:List Nat}{stf:St}:∀{pre:List Nat} {st:St},(∀j∈pre,∀x y,all[j]? =ae x->all[i]? =ae y->Ji all x y=ar)->QF cf io all (pre++i::post) st=ae stf->
 ∃s1,O8 cf io all st i=ae s1/\QF cf io all (pre++post) s1=ae stf
 | [],st,_,h=>by
   simp only[dU,QF]at h⊢
   exact ak.1 h
 |j::pre,st,ha,h=>by
  simp only[sn,QF]at h
  obtain⟨sj,hj,h⟩:=ak.1 h
  obtain⟨s1,h1,h2⟩:=acz (λk hk=>ha k (aL _ hk)) h
  obtain⟨t1,h3,h4⟩:=alx (ha j (di ..)) hj h1
  exact⟨t1,h3,by simp only[sn,QF,h4,af];exact h2⟩
end
section
variable {P:Program} {φ:Nat->Nat} {w0:World} {L:kU} {E E':Env} {st st':St} {w w':World} {a:Act} {cf:CF} {io:Nat->List Bool}
def aml(P:Program)(φ:Nat->Nat)(n:Nat)(lp:List Bool)(o:Oper)(x:Op):Bool:=
 o.dst==x.d&&o.guard==x.g&&aqc P φ o.op x.o&&(match o.dst with|some d=>ah (d<n)&& !((lp[d]?).getD aw)|none=>ar)
def uZ(P:Program)(φ:Nat->Nat)(n:Nat)(lp:List Bool):List Oper->List Op->Bool
 | [],[]=>ar
 |o::os,x::xs=>aml P φ n lp o x&&uZ P φ n lp os xs
 |_,_=>aw
def D6{n:Nat}{lp:List Bool}:∀{os:List Oper} {xs:List Op},uZ P φ n lp os xs=ar->os.length=xs.length
 | [],[],_=>rfl
 |o::os,x::xs,h=>by simp only[uZ,aj]at h;simp[D6 h.2]
 | [],_::_,h=>by simp[uZ]at h
 |_::_,[],h=>by simp[uZ]at h
def VM{n:Nat}{lp:List Bool}:∀{os:List Oper} {xs:List Op},uZ P φ n lp os xs=ar->∀{i:Nat} {o:Oper},os[i]? =ae o->∃x,xs[i]? =ae x/\aml P φ n lp o x=ar
 | [],[],_,i,o,h=>by simp at h
 |o::os,x::xs,h,0,o',hi=>by
  simp only[uZ,aj]at h
  simp at hi;subst hi
  exact⟨x,rfl,h.1⟩
 |o::os,x::xs,h,i+1,o',hi=>by
  simp only[uZ,aj]at h
  obtain⟨y,hy,hc⟩:=VM h.2 (i:=i) (by simpa using hi)
  exact⟨y,by simpa using hy,hc⟩
 | [],_::_,h,_,_,_=>by simp[uZ]at h
 |_::_,[],h,_,_,_=>by simp[uZ]at h
def aiq{n:Nat}{lp:List Bool}{ops:Array Oper}{all:List Op}(hops:uZ P φ n lp ops.toList all=ar)(h:lf φ w0 L E st a w){o:Oper}{b:Bool}(hg:guardOf all st o.guard=ae b):S4 o (yielded ops a.tmps)=b:=by
 unfold guardOf at hg;unfold S4;split at hg;·rename_i hgn;rw[hgn];simpa using hg
 ·rename_i j want hgs;rw[hgs];simp only;split at hg;·rename_i d hd;(have hdst:(ops[j]?).bind (·.dst)=ae d:=by obtain⟨x,hx,hxd⟩:=ak.1 hd;have hl:=D6 hops;(have hj:j<ops.toList.length:=by rw[hl];(rcases bH j all.length with h'|h');(·exact h');·simp[bB h']at hx);obtain⟨y,hy,hc⟩:=VM hops (i:=j) (o:=ops.toList[j]) (by simp);rw[hx]at hy;cases hy;simp only[aml,aj,b9]at hc;(have:ops[j]? =ae ops.toList[j]:=by rw[<-n9];simp);rw[this];simp only[af];rw[hc.1.1.1];exact hxd);have hs:=h.iZ d;unfold yielded;rw[hdst];simp only[af];split at hg;(·rename_i c hc;rw[hc]at hs;have hv:=hs.Jj;simp only[Rk]at hv;simp only[aq]at hg;(have:a.tmps[d]? =ae (.bool c):=by rw[fi]at hv;cases ht:a.tmps[d]? with|none=>rw[ht]at hv;simp[undef]at hv|some u=>rw[ht]at hv;simp at hv;rw[hv]);rw[this];simp only;rw[<-hg];cases c<;>cases want<;>rfl);(·rename_i hc;rw[hc]at hs;have hv:=hs.aoO;simp only[Rk]at hv;simp only[aq]at hg;rw[<-hg];cases ht:a.tmps[d]? with|none=>rfl|some u=>rw[fi,ht]at hv;simp at hv;subst hv;rfl);·cases hg
  ·cases hg
def akZ{v:Value}(k b:Nat):¬Tk v .undef k b:=by intro h;cases h with|one _ _ _ _ h=>cases h
def acj(a:Act)(d:Option Tmp)(v:Value):(a.put d v).tmps.size=a.tmps.size:=by cases d<;>simp[ao4]
def aiU(hcf:CfG P φ w0 L cf){lp:List Bool}(hlp:∀i p,L.pl i=ae p->(lp[i]?).getD aw=ar){n:Nat}{ops:Array Oper}{all:List Op}(hops:uZ P φ n lp ops.toList all=ar)(h:lf φ w0 L E st a w)(hn:a.tmps.size=n){i:Nat}{st1:St}(hs:O8 cf io all st i=ae st1) {K:Act->World->Prop} {Q:Exit->Act->World->Prop} (hK:∀E' a' w',lf φ w0 L E' st1 a' w'->a'.tmps.size=n->K a' w'):wpOp P ops Q i K a w:=by unfold wpOp;cases ho:ops[i]? with|none=>have hl:=D6 hops;(have:all[i]? =ai:=by rw[List.getElem?_eq_none_iff,<-hl];simpa using ho);simp only[O8,this,aq]at hs;subst hs;exact hK E a w h hn|some o=>obtain⟨x,hx,hc⟩:=VM hops (i:=i) (o:=o) (by rw[n9];exact ho);simp only[O8,hx]at hs;simp only[aml,aj,b9]at hc;obtain⟨⟨⟨hd,hg⟩,hco⟩,hdn⟩:=hc;(have hdn':∀j,o.dst=ae j->j<a.tmps.size:=λj hj=>by rw[hj]at hdn;rw[hn];simp at hdn;exact hdn.1);(have hdl:∀j,o.dst=ae j->L.pl j=ai:=λj hj=>by rw[hj]at hdn;cases hpl:L.pl j with|none=>rfl|some p=>have:=hlp j p hpl;simp[this]at hdn);simp only;unfold stepG at hs;rw[<-hg]at hs;split at hs;(·rename_i hgt;rw[aiq hops h hgt];simp only[aC];refine .inl ?_;unfold step at hs;split at hs;(·split at hs;(·rw[<-hd]at hs;exact ajD hcf h hco hdn' hdl hs λE' v w' hS=>hK E' _ w' hS ((acj a o.dst v).trans hn));·cases hs);·obtain⟨r,hr,hs⟩:=ak.1 hs;split at hs;rotate_left;(·cases hs);cases hs;rw[<-hd]at hr hK;exact aik hcf h hco hdn' hr λE' v w' hS=>hK E' _ w' hS ((acj a o.dst v).trans hn));(·rename_i hgf;simp only[aq]at hs;subst hs;rw[aiq hops h hgf];simp only[ao,aH];rw[<-hd]at hK;exact hK E _ w (h.aV hdn' (.one _ _ .undef) ((DX.scalar akZ).tok h)) ((acj a o.dst undef).trans hn));·cases hs
def afF(hcf:CfG P φ w0 L cf){lp:List Bool}(hlp:∀i p,L.pl i=ae p->(lp[i]?).getD aw=ar){n:Nat}{ops:Array Oper}{all:List Op}(hops:uZ P φ n lp ops.toList all=ar){Q:Exit->Act->World->Prop}{stf:St}(hQ:∀E' a' w',lf φ w0 L E' stf a' w'->a'.tmps.size=n->Q .normal a' w'):
 ∀{l:List Nat} {E:Env} {st:St} {a:Act} {w:World},lf φ w0 L E st a w->a.tmps.size=n->QF cf io all l st=ae stf->wpOps P ops Q l a w
 | [],E,st,a,w,h,hn,hs=>by
   simp[QF]at hs;subst hs
   exact hQ E a w h hn
 |i::l,E,st,a,w,h,hn,hs=>by
  rw[wpOps_cons]
  simp only[QF]at hs
  obtain⟨s,h1,h2⟩:=ak.1 hs
  exact aiU hcf hlp hops h hn h1 λE' a' w' hS hn'=>afF hcf hlp hops hQ hS hn' h2
def zW(o:Oper):List Nat:=(o.after.toList.filter (Region.binds .any)).map (·.on)
def closure:List (List Nat)->List (List Nat)->List (List Nat)
 | [],acc=>acc
 |ds::l,acc=>closure l (acc++ [(ds++ds.flatMap λk=>(acc[k]?).getD []).eraseDups])
def aqe(deps tab:List (List Nat)):Bool:=
 (dL tab.length).all λi=>((tab[i]?).getD []).all λj=>((deps[i]?).getD []).any λk=>k==j||(ah (k<i)&&((tab[k]?).getD []).contains j)
def aqd(all:List Op)(tab:List (List Nat)):Bool:=
 (dL all.length).all λi=>(dL i).all λj=>((tab[i]?).getD []).contains j||(match all[j]?,all[i]? with|some x,ae y=>Ji all x y|_,_=>ar)
def asH(deps:List (List Nat)):Bool:=(dL deps.length).all λi=>((deps[i]?).getD []).all λk=>ah (k<i)
def agk(ops:List Oper)(all:List Op):Bool:=
 asH (ops.map zW)&&aqe (ops.map zW) (closure (ops.map zW) [])&&aqd all (closure (ops.map zW) [])
def avX{deps tab:List (List Nat)}(h:aqe deps tab=ar){p:Nat->Prop}(hcl:∀k,p k->∀j∈(deps[k]?).getD [],p j): ∀(n i:Nat),i<n->(∀j∈(deps[i]?).getD [],p j)->∀j∈(tab[i]?).getD [],p j:=by intro n;induction n with|zero=>intro i hi;omega|succ n ih=>intro i hi hd j hj;(have hil:i<tab.length:=by(rcases bH i tab.length with h'|h');(·exact h');·simp[bB h']at hj);have h1:=aG.1 (aG.1 h i (Jf.2 hil)) j hj;obtain⟨k,hk,hc⟩:=Ms.1 h1;simp only[cj,b9,aj,ax,ck]at hc;(rcases hc with rfl|⟨hlt,hm⟩);(·exact hd _ hk);·exact ih k (by omega) (hcl k (hd k hk)) j hm
def acp{ops:Array Oper}{listed:Array Bool}{i:Nat}(h:i∈ahK .any ops listed):listed.getD i ar=aw/\i<ops.size/\∀j∈(((ops.toList.map zW)[i]?).getD []),listed.getD j aw=ar:=by
 obtain⟨h0,o,ho,hall⟩:=mem_ready.1 h;refine⟨h0,(I5.1 ho).1,λj hj=> ?_⟩;have:(ops.toList.map zW)[i]? =ae (zW o):=by rw[bX,n9,ho];rfl
 rw[this]at hj;simp only[eJ,zW,dK,awY]at hj;obtain⟨e,⟨he,hb⟩,rfl⟩:=hj;exact hall e (by simpa using he) hb
def anD(hcf:CfG P φ w0 L cf){lp:List Bool}(hlp:∀i p,L.pl i=ae p->(lp[i]?).getD aw=ar){n:Nat}{ops:Array Oper}{all:List Op}(hops:uZ P φ n lp ops.toList all=ar)(hdr:agk ops.toList all=ar){Q:Exit->Act->World->Prop}{stf:St} (hQ:∀E' a' w',lf φ w0 L E' stf a' w'->a'.tmps.size=n->Q .normal a' w'): ∀(fuel:Nat) {rem:List Nat} {listed:Array Bool} {E:Env} {st:St} {a:Act} {w:World},rem.length<=fuel->rem.Pairwise (· < ·)->listed.size=ops.size->(∀i,i∈rem↔i<ops.size/\listed.getD i ar=aw)-> (∀k,listed.getD k aw=ar->∀j∈(((ops.toList.map zW)[k]?).getD []),listed.getD j aw=ar)-> lf φ w0 L E st a w->a.tmps.size=n->QF cf io all rem st=ae stf->wpAny P .any ops Q fuel listed a w:=by simp only[agk,aj]at hdr;obtain⟨⟨hbk,htab⟩,hpr⟩:=hdr;have hl:=D6 hops;simp only[Ys]at hl;intro fuel;induction fuel with|zero=>(intro rem listed E st a w hlen hsorted hsz hrem hcl h hn hs;obtain rfl:rem=[]:=gy (by omega);simp[QF]at hs;subst hs;refine⟨?_,hQ E a w h hn⟩;cases hr:ahK .any ops listed with|nil=>rfl|cons i l=>have:=acp (i:=i) (listed:=listed) (ops:=ops) (by rw[hr];simp);have:=(hrem i).2 ⟨this.2.1,this.1⟩;cases this)|succ fuel ih=>intro rem listed E st a w hlen hsorted hsz hrem hcl h hn hs;refine⟨λhr=> ?_,λi hi=> ?_⟩;(·cases rem with|nil=>simp[QF]at hs;subst hs;exact hQ E a w h hn|cons i l=>exfalso;have hi:=(hrem i).1 (by simp);(have:i∈ahK .any ops listed:=by(have ho:ops[i]? =ae ops[i]:=by simp[hi.1]);refine mem_ready.2 ⟨hi.2,ops[i],ho,λe he hb=> ?_⟩;(have hm:e.on∈(((ops.toList.map zW)[i]?).getD []):=by(have:(ops.toList.map zW)[i]? =ae (zW ops[i]):=by rw[bX,n9,ho];rfl);rw[this];simp only[eJ,zW,dK,awY];exact⟨e,⟨by simpa using he,hb⟩,rfl⟩);(have hlt:e.on<i:=by have h1:=aG.1 hbk i (Jf.2 (by simp[hi.1]));have h2:=aG.1 h1 _ hm;simpa using h2);(have hnr:e.on∉i::l:=by intro hm2;(rcases bl.1 hm2 with h3|h3);(·omega);·have:=(ic.1 hsorted).1 _ h3;omega);have h4:¬(listed.getD e.on ar=aw):=λh5=>hnr ((hrem e.on).2 ⟨by omega,h5⟩);(have h5:e.on<listed.size:=by rw[hsz];omega);rw[fi]at h4⊢;simp[h5]at h4⊢;exact h4);rw[hr]at this;cases this);·obtain⟨hun,hisz,hdeps⟩:=acp hi;have hirem:=(hrem i).2 ⟨hisz,hun⟩;obtain⟨pre,post,rfl⟩:=List.append_of_mem hirem;have hprelt:∀j∈pre,j<i:=λj hj=>(ib.1 hsorted).2.2 j hj i (by simp);(have hap:∀j∈pre,∀x y,all[j]? =ae x->all[i]? =ae y->Ji all x y=ar:=by intro j hj x y hx hy;have hjr:=(hrem j).1 (by simp[hj]);have h1:=aG.1 (aG.1 hpr i (Jf.2 (by omega))) j (Jf.2 (hprelt j hj));simp only[hx,hy,cj]at h1;(rcases h1 with h1|h1);(·exfalso;simp only[ck,ax]at h1;have h2:=avX htab (p:=λk=>listed.getD k aw=ar) hcl (i+1) i (by omega) hdeps j h1;have h3:=hjr.2;(have h5:j<listed.size:=by rw[hsz];omega);rw[fi]at h2 h3;simp[h5]at h2 h3;rw[h2]at h3;cases h3);·exact h1);obtain⟨s1,hs1,hs2⟩:=acz hap hs;refine aiU hcf hlp hops h hn hs1 λE' a' w' hS hn'=> ?_;(have hnd:i∉pre/\i∉post:=by constructor;(·intro hm;have:=hprelt i hm;omega);·intro hm;have:=(ic.1 (ib.1 hsorted).2.1).1 i hm;omega);refine ih (rem:=pre++post) (by simp at hlen⊢;omega) ?_ (by simpa using hsz) (λj=> ?_) (λk hk j hj=> ?_) hS hn' hs2;(·obtain⟨p1,p2,p3⟩:=ib.1 hsorted;exact ib.2 ⟨p1,(ic.1 p2).2,λx hx y hy=>p3 x hx y (aL _ hy)⟩);(·by_cases e:j=i;(·subst e;(have h5:j<listed.size:=by rw[hsz];exact hisz);constructor;(·intro hm;(rcases aU.1 hm with hm|hm);(·exact absurd hm hnd.1);·exact absurd hm hnd.2);·rintro⟨_,hm⟩;rw[fi]at hm;simp[h5]at hm);·rw[getD_set_ne ar (tN e),<-hrem j];simp[e]);·by_cases e:k=i;(·subst e;exact getD_set_true (hdeps j hj));·rw[getD_set_ne aw (tN e)]at hk;exact getD_set_true (hcl k hk j hj)
end
end Go.Ab
namespace Go.Ab
section
variable {P:Program} {φ:Nat->Nat} {w0:World} {L:kU} {E E':Env} {st st':St} {ev:Nat->Value} {w w':World} {a:Act} {cf:CF} {io:Nat->List Bool}
def auy:Fd fz1 (λ_=>False) where
 tk:=λv x k b h=>by
  unfold fz1 at h;split at h;·cases h
  ·rename_i hn;cases h;exact absurd rfl (hn _ _ _)
 na:=λx h1 h2=>by unfold fz1;split<;>first|exact⟨h1,h2⟩|exact⟨(λ_ h=>by cases h),(λ_ h=>by cases h)⟩
 nt:=λx h=>by unfold fz1;split<;>first|exact h|rfl
def aho(f:Nat->A):∀(l:List Nat) (i:Nat),tab (l.map λj=>(j,f j)) i=if i∈l then f i else .any
 | [],i=>rfl
 |j::l,i=>by
  have ih:=aho f l i
  simp only[tab,aP,adE]at ih⊢
  by_cases h:i=j
  ·subst h;simp
  ·have:(i==j)=aw:=by simpa using h
   simp only[this]
   rw[ih]
   simp[h]
def acy(r:Nat->Option dF):∀(l:List Nat) (i:Nat) (R:dF),aeg (l.filterMap λj=>(r j).map λR=>(j,R)) i=ae R->r i=ae R
 | [],i,R,h=>by simp[aeg]at h
 |j::l,i,R,h=>by
  simp only[List.filterMap_cons]at h
  cases hj:r j with
  |none=>
   rw[hj]at h
   exact acy r l i R h
  |some R'=>
   rw[hj]at h
   simp only[az,aeg,adE]at h
   by_cases e:i=j
   ·subst e;simp at h;rw[hj,h]
   ·have:(i==j)=aw:=by simpa using e
    simp only[this]at h
    exact acy r l i R h
def Yh(h:cI φ w0 L E st ev w)(fk keepR:List Nat):∃E',cI φ w0 L E' (st.restrict fk keepR) ev w:=by
 have hr:∀q R,(st.restrict fk keepR).r q=ae R->st.r q=ae R:=λq R hq=>acy st.r keepR q R hq;refine⟨_,h.giveUp (N:=λ_=>False) (T:=λ_=>True) (ok':=λb=>E.ok b\/∃i k,Tk (ev i) (st.t i) k b) (ev':=ev) (st':=st.restrict fk keepR) (λb hb=>.inl hb) (λb hb=> ?_) (λq R hq=>⟨hr q R hq,id⟩) (λi=> ?_) (λi k b ht=> ?_)⟩
 ·rcases hb with h1|⟨i,k,h1⟩
  ·exact .inl h1
  ·exact .inr (.inr ⟨i,k,trivial,h1⟩)
 ·simp only[St.restrict,aho λj=>fz (st.t j)];split;·refine(h.iZ i).aaS auy.nt λu y hty hy=> ?_;unfold fz1;split;(·rename_i k z xs;cases hy with|data _ _ hh=>cases hh|DI=>exact .data _ _ (.No _ _ _)|tok b o cap j z xs vs hcc h0 hz hh hv' hrm=>exact .data _ _ (.sl b o cap z xs vs (.inr ⟨i,_,hty _ _ (.mk ⟨b,o,ai⟩ _ _ _ _ _ h0)⟩) hz hcc (hh.mono (λ_ _=>rfl) (λb hb=>.inl hb)) hv'));·exact jr.k9 (E':=⟨λb=>E.ok b\/∃i k,Tk (ev i) (st.t i) k b,E.ρ⟩) (λb hb=>Or.inl hb) (λq R hq=>⟨hr q R hq,rfl⟩) hy
  ·exact .one _ _ (.any _)
 ·exfalso;simp only[St.restrict,aho λj=>fz (st.t j)]at ht;split at ht;·exact(Tk.cJ auy ht).2
  ·exact yH _ _ ht
def ail(q:Nat)(cs:List A):Fd (FQ q cs) (λ_=>True) where
 tk:=λv x k b h=>by
  unfold FQ at h;split at h;·split at h;(·split at h<;>cases h);·exact⟨h,trivial⟩
  ·exact⟨h,trivial⟩
 na:=λx h1 h2=>by unfold FQ;split<;>(try split)<;>(try split)<;>first|exact⟨h1,h2⟩|exact⟨(λ_ h=>by cases h),(λ_ h=>by cases h)⟩
 nt:=λx h=>by unfold FQ;split<;>(try split)<;>(try split)<;>first|exact h|rfl
def Q5{K:Nat->Prop}:∀{vs:List Value} {cs:List A},vs.length=cs.length->(∀(c:Nat) (v:Value) (a:A),vs[c]? =ae v->cs[c]? =ae a->iD φ w K v a)->cW φ w K vs cs
 | [],[],_,_=>.nil
 |v::vs,a::cs,hl,h=>.cons _ _ _ _ (h 0 v a rfl rfl) (Q5 (by simpa using hl) λc u b hu hb=>h (c+1) u b (by simpa using hu) (by simpa using hb))
 | [],_::_,hl,_=>by simp at hl
 |_::_,[],hl,_=>by simp at hl
def ak6(h:cI φ w0 L E st ev w)(q:Nat):∃E',cI φ w0 L E' (st.aaf q) ev w:=by
 unfold St.aaf;split;rotate_left;·exact⟨E,h⟩
 rename_i z x hR;split;rotate_left;·exact⟨E,h⟩
 rename_i hp;have hr:∀p R',((st.map (cJ (FQ q x.cells))).aD q ai).r p=ae R'->st.r p=ae R'/\¬p=q:=λp R' hp=>by simp only[St.aD]at hp;split at hp;(·cases hp);·exact⟨hp,by assumption⟩
 have hroot:=h.roots q _ hR;refine⟨_,h.giveUp (N:=(· =q)) (T:=λ_=>False) (ok':=λb=>E.ok b\/∃o,E.ρ q=ae (b,o)) (ev':=ev) (st':=(st.map (cJ (FQ q x.cells))).aD q ai) (λb hb=>.inl hb) (λb hb=> ?_) hr (λi=>(h.iZ i).aaS (ail q x.cells).nt λu y hty hy=> ?_) (λi k' b ht=>⟨id,i,(Tk.cJ (ail q x.cells) ht).1⟩)⟩
 ·rcases hb with h1|⟨o,h1⟩
  ·exact .inl h1
  ·exact .inr (.inl ⟨q,o,rfl,by rw[hR];rfl,h1⟩)
 ·have hw:∀{y},jr φ E st.r w u y->jr φ ⟨λb=>E.ok b\/∃o,E.ρ q=ae (b,o),E.ρ⟩ ((st.map (cJ (FQ q x.cells))).aD q ai).r w u y:=λhx=>jr.k9 (E':=⟨λb=>E.ok b\/∃o,E.ρ q=ae (b,o),E.ρ⟩) (λb hb=>Or.inl hb) (λp R' hp=>⟨(hr p R' hp).1,rfl⟩) hx;unfold FQ;split;·rename_i p i c;split;(·rename_i hpq;subst hpq;split;(·rename_i hi;subst hi;cases hy with|data _ _ hh=>cases hh|Lx _ _ _ _ hn=>rw[hn]at hR;cases hR|loc b o _ _ _ R h1 hρ=>rw[h1]at hR;cases hR;cases hroot with|box b' o' z x vs hρ' hz hlt hl hh hv hrm=>rw[hρ]at hρ';cases hρ';refine .data _ _ ?_;have:=iD.ptr (φ:=φ) (w:=w) (ok:=λb=>E.ok b\/∃o,E.ρ p=ae (b,o)) b o c x.cells vs (.inr ⟨o,hρ⟩) (Q5 hl λj v a hva ha=> ?_) hv;(·simpa using this);·cases hh j v a hva ha with|data _ hrep _=>exact iD.mono (λ_ _=>rfl) (λb hb=>.inl hb) hrep|any=>have:=aG.1 hp _ (bw ha);simp[cr]at this|view=>have:=aG.1 hp _ (bw ha);simp[cr]at this);·exact .any _);·exact hw hy
  ·exact hw hy
def ak8(h:cI φ w0 L E st ev w)(s:Nat):∃E',cI φ w0 L E' (st.A1 s) ev w:=by
 unfold St.A1;split;rotate_left;·exact⟨E,h⟩
 rename_i q off n hs;split;rotate_left;·exact⟨E,h⟩
 rename_i z xs hR;by_cases hqm:q=lN (1000000+s);·rw[aJ hqm];exact⟨E,h⟩
 rw[aO hqm];generalize hm:lN (1000000+s)=m at*;have hpl:L.pl m=ai:=by rw[<-hm];exact kU.lN
 have hno:=h.agM (1000000+s);rw[hm]at hno;have hslot:=h.iZ s;rw[hs]at hslot;have hroot:=h.roots q _ hR;have h1:=((((h.kill q).kill m).CD q).CD m);have hr1:∀p R',(((((st.kill q).kill m).aD q ai).aD m ai).r p=ae R')->st.r p=ae R'/\p≠q/\p≠m:=λp R' hp=>by simp only[St.aD]at hp;split at hp;(·cases hp);·split at hp;(·cases hp);·exact⟨hp,by assumption,by assumption⟩
 have hr1':∀p,((((((st.kill q).kill m).aD q ai).aD m ai).r p).isSome=ar)->(st.r p).isSome=ar/\p≠q/\p≠m:=λp hp=>by obtain⟨R',hR'⟩:=dq.1 hp;obtain⟨a,b,c⟩:=hr1 p R' hR';exact⟨by rw[a];rfl,b,c⟩
 have h2:=h1.root (q:=m) (R:=⟨aw,z,xs⟩) (p:=E.ρ q) (by simp[St.aD]) (λi=>xr m _) (λp' R' hp hb=>hno p' R' (hr1 p' R' hp).1 hb)
  (λb o e=>⟨h.rz q b o (by rw[hR];rfl) e,λq' b' o' hq' hρ'=>by
    obtain⟨a,b1,_⟩:=hr1' q' hq'
    exact(h.inj q q' b o b' o' (by rw[hR];rfl) a e hρ' (tN b1)).symm,
    λi k b' ht=>by
     have ht':=(Tk.cJ (wh q) (Tk.cJ (wh m) ht).1).1
     exact((h.tz i k b' ht').2 q b o (by rw[hR];rfl) e).symm⟩)
  (λp' e=>by rw[hpl]at e;cases e) (by
    cases hroot with
    |empty _ hρ=>exact .empty _ (by simp[hρ])
    |sl b o _ _ vs hρ hz hh hv hrm=>exact .sl b o _ _ vs (by simp[hρ]) hz hh hv hrm)
 rw[nZ]at h2;refine⟨_,h2.k9 (st':=((((st.kill q).kill m).aD q ai).aD m (ae ⟨aw,z,xs⟩)).aV s (.view m off n)) (λ_ _ hh=>hh) (λi=> ?_) (λi k b ht=> ?_)⟩
 ·by_cases hi:i=s;·subst hi;(have hgoal:jr φ ⟨E.ok,λj=>if j=m then E.ρ q else E.ρ j⟩ ((((st.kill q).kill m).aD q ai).aD m (ae ⟨aw,z,xs⟩)).r w (ev i) (.view m off n):=by(have hrm:((((st.kill q).kill m).aD q ai).aD m (ae ⟨aw,z,xs⟩)).r m=ae ⟨aw,z,xs⟩:=by simp[St.aD]);generalize hev:ev i=u at hslot;cases hslot with|one _ _ h1=>cases h1 with|data _ _ hd=>cases hd|lA _ _ _ _ hn=>rw[hn]at hR;cases hR|kP ad _ _ R hq hb hn=>rw[hR]at hq;cases hq;exact .kP ad m off ⟨aw,z,xs⟩ hrm rfl hn|view b o cap _ _ _ R hq hb hn hc h0 hρ hrr=>rw[hR]at hq;cases hq;exact .view b o cap m off n ⟨aw,z,xs⟩ hrm rfl hn hc h0 (by simp[hρ]) hrr);simp only[St.aV,aC];exact .one _ _ hgoal
  ·rw[cR hi];exact h2.iZ i
 ·by_cases hi:i=s;·subst hi;simp only[St.aV,aC]at ht;generalize ev i=u at ht;cases ht with|one _ _ _ _ h1=>cases h1
  ·rw[cR hi]at ht;exact⟨i,ht⟩
def ak7(h:cI φ w0 L E st ev w)(s:Nat):∃E',cI φ w0 L E' (st.A0 s) ev w:=by
 unfold St.A0;split;rotate_left;·exact⟨E,h⟩
 rename_i q off n hs;split;rotate_left;·exact⟨E,h⟩
 rename_i z xs hR;generalize hm:lN (1000000+s)=m at*;have hpl:L.pl m=ai:=by rw[<-hm];exact kU.lN
 have hno:=h.agM (1000000+s);rw[hm]at hno;have hslot:=h.iZ s;rw[hs]at hslot;have hroot:=h.roots q _ hR;have h1:=((((h.kill q).kill m).CD q).CD m);have hr1:∀p R',(((((st.kill q).kill m).aD q ai).aD m ai).r p=ae R')->st.r p=ae R'/\p≠q/\p≠m:=λp R' hp=>by simp only[St.aD]at hp;split at hp;(·cases hp);·split at hp;(·cases hp);·exact⟨hp,by assumption,by assumption⟩
 have hr1':∀p,((((((st.kill q).kill m).aD q ai).aD m ai).r p).isSome=ar)->(st.r p).isSome=ar/\p≠q/\p≠m:=λp hp=>by obtain⟨R',hR'⟩:=dq.1 hp;obtain⟨a,b,c⟩:=hr1 p R' hR';exact⟨by rw[a];rfl,b,c⟩
 have go:∀(pp:Option (Nat×Nat)),(∀b o,pp=ae (b,o)->∃o',E.ρ q=ae (b,o'))->
  l9 φ ⟨E.ok,λi=>if i=m then pp else E.ρ i⟩ ((((((st.kill q).kill m).aD q ai).aD m ai)).aD m (ae ⟨aw,z,(xs.drop off).take n⟩)).r w m ⟨aw,z,(xs.drop off).take n⟩->
  (∀u,ev s=u->jr φ ⟨E.ok,λj=>if j=m then pp else E.ρ j⟩ ((((st.kill q).kill m).aD q ai).aD m (ae ⟨aw,z,(xs.drop off).take n⟩)).r w u (.view m 0 n))->
  ∃E',cI φ w0 L E' (((((st.kill q).kill m).aD q ai).aD m (ae ⟨aw,z,(xs.drop off).take n⟩)).aV s (.view m 0 n)) ev w:=λpp hpp hro hgoal=>by
  have h2:=h1.root (q:=m) (R:=⟨aw,z,(xs.drop off).take n⟩) (p:=pp) (by simp[St.aD]) (λi=>xr m _) (λp' R' hp hb=>hno p' R' (hr1 p' R' hp).1 hb)
   (λb o e=>by
     obtain⟨o',e'⟩:=hpp b o e
     exact⟨h.rz q b o' (by rw[hR];rfl) e',λq' b' o2 hq' hρ'=>by
      obtain⟨a,b1,_⟩:=hr1' q' hq'
      exact(h.inj q q' b o' b' o2 (by rw[hR];rfl) a e' hρ' (tN b1)).symm,
     λi k b' ht=>by
      have ht':=(Tk.cJ (wh q) (Tk.cJ (wh m) ht).1).1
      exact((h.tz i k b' ht').2 q b o' (by rw[hR];rfl) e').symm⟩)
   (λp' e=>by rw[hpl]at e;cases e) hro
  rw[nZ]at h2
  refine⟨_,h2.k9 (st':=((((st.kill q).kill m).aD q ai).aD m (ae ⟨aw,z,(xs.drop off).take n⟩)).aV s (.view m 0 n)) (λ_ _ hh=>hh) (λi=> ?_) (λi k b ht=> ?_)⟩
  ·by_cases hi:i=s
   ·subst hi
    simp only[St.aV,aC]
    exact .one _ _ (hgoal _ rfl)
   ·rw[cR hi];exact h2.iZ i
  ·by_cases hi:i=s
   ·subst hi
    simp only[St.aV,aC]at ht
    generalize ev i=u at ht
    cases ht with
    |one _ _ _ _ h1=>cases h1
   ·rw[cR hi]at ht;exact⟨i,ht⟩
 have hrm:((((st.kill q).kill m).aD q ai).aD m (ae ⟨aw,z,(xs.drop off).take n⟩)).r m=ae ⟨aw,z,(xs.drop off).take n⟩:=by simp[St.aD]
 generalize hev:ev s=u at hslot;cases hslot with|one _ _ h1=>cases h1 with|data _ _ hd=>cases hd|lA _ _ _ _ hn=>rw[hn]at hR;cases hR|kP ad _ _ R hq hb hn=>rw[hR]at hq;cases hq;refine go ai (λb o e=>by cases e) (by rw[xf];exact .empty _ (by simp)) λu hu=> ?_;rw[hev]at hu;subst hu;exact .kP ad m 0 ⟨aw,z,(xs.drop off).take 0⟩ hrm rfl (iW _)|view b o cap _ _ _ R hq hb hn hc h0 hρ hrr=>rw[hR]at hq;cases hq;(have hlen:((xs.drop off).take n).length=n:=by simp at hn⊢;omega);(have hrr':fA z w b (o+off*z+(0+cap)*z):=by rw[c8,gS,<-Ga];exact hrr);refine go (ae (b,o+off*z)) (λb' o' e=>by cases e;exact⟨o,hρ⟩) ?_ λu hu=> ?_;(·cases hroot with|empty _ hρ'=>rw[hρ]at hρ';cases hρ'|sl b' o' _ _ vs hρ' hz hh hv hrm'=>rw[hρ]at hρ';cases hρ';refine .sl b (o+off*z) z _ ((vs.drop (off*z)).take (n*z)) (by simp) (λy hy=>hz y (cA (fo hy))) ?_ ((hv.drop _).take _) ?_;(·rw[tP (λx hx=>hz x (cA hx)),nh hz];exact(hh.drop _).take _);·rw[hlen];refine fA.le ?_ hrr';rw[c8];exact Nat.add_le_add_left (cu _ hc) _);·rw[hev]at hu;subst hu;have:=jr.view (φ:=φ) (E:=⟨E.ok,λj=>if j=m then ae (b,o+off*z)else E.ρ j⟩) (r:=((((st.kill q).kill m).aD q ai).aD m (ae ⟨aw,z,(xs.drop off).take n⟩)).r) (w:=w) b (o+off*z) cap m 0 n ⟨aw,z,(xs.drop off).take n⟩ hrm rfl (by rw[c8,hlen];exact bm _) hc h0 (by simp) hrr';rw[Nat.zero_mul,anr]at this;exact this
def aqP(h:cI φ w0 L E st ev w)(n:Nat):∃E',cI φ w0 L E' (st.C6 n) ev w:=by
 unfold St.C6;by_cases hreb:8000000<=n;·rw[aJ hreb];exact ak7 h _
 rw[aO hreb];by_cases hren:7000000<=n;·rw[aJ hren];exact ak8 h _
 rw[aO hren];by_cases hbox:6000000<=n;·rw[aJ hbox];exact ak6 h _
 rw[aO hbox];by_cases hbig:5000000<=n;·rw[aJ hbig];cases hp:st.pz (n-5000000) 0 with|none=>exact⟨E,h⟩|some s=>obtain⟨E',h1,_⟩:=h.pz hp;exact⟨E',h1⟩
 rw[aO hbig];split;rotate_left;·exact⟨E,h⟩
 rename_i z cs hR;split;rotate_left;·exact⟨E,h⟩
 rename_i z1 hc;split;rotate_left;·exact⟨E,h⟩
 rename_i hcond;obtain⟨hn,hnone⟩:=hcond;have hnone:st.r n=ai:=by cases e:st.r n with|none=>rfl|some R=>rw[e]at hnone;cases hnone
 generalize hq:n/1000-1=q at*;generalize hcc:n%1000=c at*;have hsub:sub q c=n:=by simp only[sub];omega
 have hc1000:c<1000:=by omega
 have hqn:q≠n:=by omega
 have hroot:=h.roots q _ hR;cases hroot with|box b o z x vs hρ hz hlt hl hh hv hrm=>
 have hvc:∃v,vs[c]? =ae v:=by(have:c<(A.agg cs).cells.length:=by(rcases bH c cs.length with h'|h');(·exact h');·rw[bB h']at hc;cases hc);exact⟨vs[c],ay (by omega)⟩
 obtain⟨v,hvc⟩:=hvc;have hcell:=hh c v _ hvc hc;have hnil:v=.slice ai 0 0:=by cases hcell with|data _ hr ha=>cases hr;rfl
 have hcells:∀p' R',st.r p'=ae R'->R'.b=ar->∀x∈R'.xs,∀y∈x.cells,iY n y=aw:=by intro p' R' hp hb x hx y hy;cases hro:iY n y with|false=>rfl|true=>exfalso;cases h.roots p' R' hp with|empty z h=>cases hb|sl=>cases hb|box b' o' z' x' vs' hρ' hz' hlt' hl' hh' hv' hrm'=>simp only[aX]at hx;subst hx;obtain⟨j,hj,hy'⟩:=List.getElem_of_mem hy;have hvj:vs'[j]? =ae (vs'[j]'(by omega)):=ay (by omega);(have hxj:x.cells[j]? =ae y:=by rw[ay hj,hy']);cases hh' j _ _ hvj hxj with|data _ hr _=>rw[iD.auE hr]at hro;cases hro|any=>cases hro|view off n' hj1000 hr _=>simp only[iY,b9]at hro;obtain⟨rfl,rfl⟩:=Me hj1000 hc1000 (hro.trans hsub.symm);rw[hR]at hp;cases hp;rw[show(A.agg cs).cells=cs from rfl,hc]at hxj;cases hxj
 have h1:=h.kill n;have hpl:L.pl n=ai:=by rw[<-hsub];exact kU.sub
 have hk:∀i,refs n ((st.kill n).t i)=aw:=λi=>xr n _;have h2:=h1.root (q:=n) (R:=⟨aw,z1,[]⟩) (p:=ai) hnone hk hcells (λb o e=>by cases e) (λp' e=>by rw[hpl]at e;cases e) (.empty z1 (by simp));generalize hE:(⟨E.ok,λi=>if i=n then ai else E.ρ i⟩:Env)=E2 at h2;have hEok:E2.ok=E.ok:=by rw[<-hE]
 have hEρ:∀i,i≠n->E2.ρ i=E.ρ i:=λi hi=>by rw[<-hE];simp[hi]
 have hEn:E2.ρ n=ai:=by rw[<-hE];simp
 generalize hs1:(st.kill n).aD n (ae ⟨aw,z1,[]⟩)=st1 at h2;have hr1:∀i,i≠n->st1.r i=st.r i:=λi hi=>by rw[<-hs1];simp[St.aD,St.kill,St.map,hi]
 have hrn:st1.r n=ae ⟨aw,z1,[]⟩:=by rw[<-hs1];simp[St.aD]
 have hρ2:E2.ρ q=ae (b,o):=by rw[hEρ q hqn,hρ]
 have hRq:st1.r q=ae ⟨ar,z,[.agg cs]⟩:=by rw[hr1 q hqn,hR]
 obtain⟨z1',z2',z3'⟩:=h2.rz q b o (by rw[hRq];rfl) hρ2;have hlen:(A.agg (cs.set c (.view n 0 0))).cells.length=(A.agg cs).cells.length:=by simp[A.cells]
 have W:Wr w0 L E2 st1.r (λi=>if i=q then ae ⟨ar,z,[.agg (cs.set c (.view n 0 0))]⟩else st1.r i) w w b:={
  same:=λ_ _=>rfl
  size:=rfl
  env:=⟨rfl,rfl⟩
  fr:=λ_=>rfl
  ao2:=z2'
  nok:=z1'
  room:=λ_ h=>h
  sh:=λq' R' hq'=>by
   by_cases e:q'=q
   ·subst e
    rw[aJ rfl]at hq'
    cases hq'
    exact⟨_,hRq,rfl,rfl,rfl⟩
   ·rw[aO e]at hq'
    exact⟨R',hq',rfl,rfl,rfl⟩}
 have h3:=h2.write W (λi k ht=>(h2.tz i k b ht).2 q b o (by rw[hRq];rfl) hρ2 rfl) (λq' R' hq'=>by
  by_cases e:q'=q
  ·subst e
   rw[aJ rfl]at hq'
   cases hq'
   right
   refine .box b o z _ vs hρ2 (hlen.trans hz) hlt (hl.trans hlen.symm) (λc' v' a' h4 h5=> ?_) hv hrm
   by_cases e2:c'=c
   ·subst e2
    have hcl:c'<cs.length:=by
     rcases bH c' cs.length with h'|h'
     ·exact h'
     ·rw[bB h']at hc;cases hc
    rw[show(A.agg (cs.set c' (.view n 0 0))).cells=cs.set c' (.view n 0 0)from rfl,PV hcl]at h5
    cases h5
    rw[hvc]at h4
    cases h4
    subst hnil
    rw[<-hsub]
    refine .view _ 0 0 hc1000 ?_ ⟨λ_ e=>(by cases e),λ_ e=>(by cases e)⟩
    rw[hsub]
    exact .kP ai n 0 ⟨aw,z1,[]⟩ (by rw[aO (tN hqn)];exact hrn) rfl (iW _)
   ·rw[show(A.agg (cs.set c (.view n 0 0))).cells=cs.set c (.view n 0 0)from rfl,Tq (tN e2)]at h5
    have hold:=h2.roots _ _ hRq
    cases hold with
    |box b2 o2 z2 x2 vs2 hρ3 hz3 hlt3 hl3 hh3 hv3 hrm3=>
    rw[hρ2]at hρ3
    cases hρ3
    have:vs2=vs:=by
     refine List.ext_getElem? λm=> ?_
     rcases bH m vs.length with h'|h'
     ·have a1:=hv m _ (ay h')
      have h'':m<vs2.length:=by omega
      have a2:=hv3 m _ (ay h'')
      rw[ay h',ay h'']
      exact a2.symm.trans a1
     ·rw[bB h',bB (by omega)]
    subst this
    exact(hh3 c' v' a' h4 h5).write W
  ·rw[aO e]at hq'
   refine .inl ⟨hq',λo' e3=> ?_⟩
   exact h2.inj q' q b o' b o (by rw[hq'];rfl) (by rw[hRq];rfl) e3 hρ2 e rfl)
 refine⟨E2,?_⟩;have:st1.aD q (ae ⟨ar,z,[.agg (cs.set c (.view n 0 0))]⟩)={st1 with r:=λi=>if i=q then ae ⟨ar,z,[.agg (cs.set c (.view n 0 0))]⟩else st1.r i}:=rfl;rw[this];exact h3
def least{p:Nat->Prop}:∀n,p n->∃k,p k/\∀j,p j->k<=j:=by
 intro n
 induction n using Nat.strongRecOn with
 |_ n ih=>
  intro hn;by_cases h:∃m,m<n/\p m;·obtain⟨m,h1,h2⟩:=h;exact ih m h1 h2
  ·exact⟨n,hn,λj hj=>by
    rcases bH j n with h1|h1
    ·exact absurd ⟨j,h1,hj⟩ h
    ·exact h1⟩
def akQ{p:Nat->Prop}(h:∃k,p k):∃k,p k/\∀j,p j->k<=j:=by obtain⟨n,hn⟩:=h;exact least n hn
def Ex.arx:Ex->Exit
 |.normal=>.normal
 |.exit i=>.exit i
 |.ret=>.ret
def gC(P:Program)(φ:Nat->Nat)(n:Nat)(lp:List Bool):C->Code->Bool
 |.norm _ _ b,c=>gC P φ n lp b c
 |.opn _ b,c=>gC P φ n lp b c
 |.stop,_=>ar
 |.skip,.skip=>ar
 |.skip,.label _=>ar
 |.reg draw xs _ _,.region _ ops draw'=>draw==draw'&&uZ P φ n lp ops.toList xs&&(!draw||agk ops.toList xs)
 |.seq a b,.seq a' b'=>gC P φ n lp a a'&&gC P φ n lp b b'
 |.cond c a b,.cond c' a' b'=>bV φ c' c&&gC P φ n lp a a'&&gC P φ n lp b b'
 |.block i b,.block j b'=>i==j&&gC P φ n lp b b'
 |.loop b,.loop b'=>gC P φ n lp b b'
 |.exit i,.exit j=>i==j
 |.ret,.ret=>ar
 |_,_=>aw
def aat(P:Program)(φ:Nat->Nat)(ex:C->St->Option (Ex×St)):Prop:=
 ∀(x:C) (c:Code) (n:Nat) (lp:List Bool),gC P φ n lp x c=ar->∀(w0:World) (L:kU),(∀i p,L.pl i=ae p->(lp[i]?).getD aw=ar)->Gl P w0 L->∀(E:Env) (st:St) (a:Act) (w:World) (e:Ex) (st':St),
  lf φ w0 L E st a w->a.tmps.size=n->ex x st=ae (e,st')->∀Q:Exit->Act->World->Prop,(∀E' a' w',lf φ w0 L E' st' a' w'->a'.tmps.size=n->Q e.arx a' w')->c.wp P Q a w
def anV(M:Nat->Option Def):aat P φ (exec M 0):=λx c n lp _ w0 L _ _ E st a w e st' _ _ he=>by simp[exec]at he
def agm{n:Nat}{lp:List Bool}{ops:Array Oper}{xs:List Op}(h:uZ P φ n lp ops.toList xs=ar)(st:St):vn cf io xs xs st=QF cf io xs (dL ops.size) st:=by have hl:=D6 h;rw[Yk xs xs [] st rfl];simp only[cy];rw[<-hl,Ys,List.range_eq_range']
def anU{M:Nat->Option Def}(hm:P.follows .mixedOrders=ar){m:Nat}(ih:∀k,k<=m->aat P φ (exec M k))(hcf:auU P φ (Ty M (exec M m))):aat P φ (exec M (m+1)):=by
 intro x c n lp hc w0 L hlp hG E st a w e st' h hn he Q hQ
 cases x with
 |stop=>simp[exec]at he
 |norm fk keepR b=>
  simp only[exec]at he;obtain⟨E1,h1⟩:=Yh h.tocI fk keepR;simp only[gC]at hc;exact ih m (bm _) b c n lp hc w0 L hlp hG E1 _ a w e st' ⟨h1,h.yI⟩ hn he Q hQ
 |opn i b=>
  simp only[exec]at he;obtain⟨E1,h1⟩:=aqP h.tocI i;simp only[gC]at hc;exact ih m (bm _) b c n lp hc w0 L hlp hG E1 _ a w e st' ⟨h1,h.yI⟩ hn he Q hQ
 |skip=>
  simp only[exec,aq,be]at he;obtain⟨rfl,rfl⟩:=he
  cases c<;>first
   |exact wp_skip (hQ E a w h hn)
   |exact wp_label (hQ E a w h hn)
   |(simp[gC]at hc;done)
 |reg draw xs fk keepR=>
  cases c<;>first
   |(simp[gC]at hc;done)
   |skip
  rename_i id ops draw';simp only[gC,aj,b9]at hc;obtain⟨⟨rfl,hops⟩,hdr⟩:=hc;simp only[exec]at he;obtain⟨s,hs,he⟩:=au.1 he;simp only[be]at he;obtain⟨rfl,rfl⟩:=he;rw[agm hops]at hs;have hQ':∀E' a' w',lf φ w0 L E' s a' w'->a'.tmps.size=n->Q .normal a' w':=λE' a' w' hS hn'=>by obtain⟨E1,h1⟩:=Yh hS.tocI fk keepR;exact hQ E1 a' w' ⟨h1,hS.yI⟩ hn'
  cases draw with|false=>exact wp_region (afF ⟨hcf,hG⟩ hlp hops hQ' h hn hs)|true=>simp only[aY,XM]at hdr;refine wp_region_any hm ?_;have hext:Ext w {w with drawn:=w.drawn+1}:=⟨bm _,λ_ _=>rfl,⟨rfl,rfl⟩⟩;refine anD ⟨hcf,hG⟩ hlp hops hdr hQ' ops.size (rem:=dL ops.size) (by simp) List.pairwise_lt_range (by simp) (λi=> ?_) (λk hk=> ?_) (h.ext hext (.refl E w _)) hn hs;(·simp only[Jf];constructor;(·intro hi;exact⟨hi,by simp[fi,hi]⟩);·exactλh=>h.1);·rw[fi]at hk;by_cases hi:k<ops.size;(·simp[hi]at hk);·simp[nu (xs:=Pr ops.size aw) (i:=k) (by simpa using hi)]at hk
 |seq x y=>
  cases c<;>first
   |(simp[gC]at hc;done)
   |skip
  rename_i c d;simp only[gC,aj]at hc;simp only[exec]at he;apply wp_seq;split at he;·rename_i s hx;refine ih m (bm _) x c n lp hc.1 w0 L hlp hG E st a w .normal s h hn hx _ λE' a' w' hS hn'=> ?_;exact ih m (bm _) y d n lp hc.2 w0 L hlp hG E' s a' w' e st' hS hn' he Q hQ
  ·rename_i hne;refine ih m (bm _) x c n lp hc.1 w0 L hlp hG E st a w e st' h hn he _ λE' a' w' hS hn'=> ?_;have hq:=hQ E' a' w' hS hn';cases e with|normal=>exact absurd he (hne _)|exit i=>exact hq|ret=>exact hq
 |cond o x y=>
  cases c<;>first
   |(simp[gC]at hc;done)
   |skip
  rename_i o' c d;simp only[gC,aj]at hc;obtain⟨⟨hco,h1⟩,h2⟩:=hc;simp only[exec]at he;have hv:=(dz h hco).1;split at he;·rename_i t ht;rw[ht]at hv;refine wp_cond hv.Jj ?_;cases t;(·exact ih m (bm _) y d n lp h2 w0 L hlp hG E st a w e st' h hn he Q hQ);·exact ih m (bm _) x c n lp h1 w0 L hlp hG E st a w e st' h hn he Q hQ
  ·cases he
 |block i x=>
  cases c<;>first
   |(simp[gC]at hc;done)
   |skip
  rename_i j c;simp only[gC,aj,b9]at hc;obtain⟨rfl,h1⟩:=hc;simp only[exec]at he;apply wp_block;split at he;·rename_i k s hx;refine ih m (bm _) x c n lp h1 w0 L hlp hG E st a w (.exit k) s h hn hx _ λE' a' w' hS hn'=> ?_;simp only[Ex.arx,Exit.inBlock];split at he;(·rename_i hk;simp only[aq,be]at he;obtain⟨rfl,rfl⟩:=he;rw[aJ hk];exact hQ E' a' w' hS hn');·rename_i hk;simp only[aq,be]at he;obtain⟨rfl,rfl⟩:=he;rw[aO hk];exact hQ E' a' w' hS hn'
  ·rename_i hne;refine ih m (bm _) x c n lp h1 w0 L hlp hG E st a w e st' h hn he _ λE' a' w' hS hn'=> ?_;have hq:=hQ E' a' w' hS hn';cases e with|normal=>exact hq|exit k=>exact absurd he (hne _ _)|ret=>exact hq
 |loop x=>
  cases c<;>first
   |(simp[gC]at hc;done)
   |skip
  rename_i c;simp only[gC]at hc;let R:Nat->Act->World->Prop:=λk a w=>k<=m+1/\a.tmps.size=n/\∃E st,lf φ w0 L E st a w/\exec M k (.loop x) st=ae (e,st')
  classical
  let μ:Act->World->Nat:=λa w=>if hx:∃k,R k a w then akg (akQ hx)else 0
  have hμ1:∀a w,(∃k,R k a w)->R (μ a w) a w/\∀j,R j a w->μ a w<=j:=λa w hx=>by have h1:μ a w=akg (akQ hx):=axc hx;rw[h1];exact Classical.choose_spec (akQ hx)
  refine wp_loop (λa w=>∃k,R k a w) μ ⟨m+1,bm _,hn,E,st,h,he⟩ λa w hI=> ?_;have hR:=(hμ1 a w hI).1;obtain⟨hle,hn',E1,s1,hS,hx⟩:=hR;cases hk:μ a w with|zero=>rw[hk]at hx;simp[exec]at hx|succ k=>rw[hk]at hx hle;simp only[exec]at hx;split at hx;(·rename_i s2 hx2;refine ih k (by omega) x c n lp hc w0 L hlp hG E1 s1 a w .normal s2 hS hn' hx2 _ λE' a' w' hS' hn''=> ?_;have hI':∃k,R k a' w':=⟨k,by omega,hn'',E',s2,hS',hx⟩;refine⟨hI',?_⟩;have:μ a' w'<=k:=(hμ1 a' w' hI').2 k ⟨by omega,hn'',E',s2,hS',hx⟩;omega);·rename_i hne;refine ih k (by omega) x c n lp hc w0 L hlp hG E1 s1 a w e st' hS hn' hx _ λE' a' w' hS' hn''=> ?_;have hq:=hQ E' a' w' hS' hn'';cases e with|normal=>exact absurd hx (hne _)|exit i=>exact hq|ret=>exact hq
 |exit i=>
  cases c<;>first
   |(simp[gC]at hc;done)
   |skip
  simp only[gC,b9]at hc;subst hc;simp only[exec,aq,be]at he;obtain⟨rfl,rfl⟩:=he;exact wp_exit (hQ E a w h hn)
 |ret=>
  cases c<;>first
   |(simp[gC]at hc;done)
   |skip
  simp only[exec,aq,be]at he;obtain⟨rfl,rfl⟩:=he;exact wp_ret (hQ E a w h hn)
end
end Go.Ab
namespace Go.Ab
section
variable {P:Program} {φ:Nat->Nat} {w0:World} {L:kU} {E E':Env} {st st':St} {ev:Nat->Value} {w w':World} {a:Act} {K:Nat->Prop}
def place:Value->A->Option (Nat×Nat)
 |.pointer (ae ad),.iB .. =>ae (ad.block,ad.off)
 |.slice (ae ad) _ cap,.lB .. =>if cap=0 then ai else ae (ad.block,ad.off)
 |_,_=>ai
def alc{v:Value}{x:A}{p:Nat×Nat}(h:place v x=ae p):R6 x=ar:=by
 unfold place at h;split at h;·rfl
 ·rfl
 ·cases h
def Wt:∀{io:List Bool} {ab:List A},Iz io ab=ar->∀{i:Nat} {x:A},ab[i]? =ae x->R6 x=ar->(io[i]?).getD aw=ar
 |_,[],_,i,x,h,_=>by simp at h
 |b::bs,a::l,h,i,x,hx,hl=>by
  simp only[Iz,aj,cj,cn]at h
  cases i with
  |zero=>
   simp at hx;subst hx
   rcases h.1 with h1|h1
   ·rw[hl]at h1;cases h1
   ·simpa using h1
  |succ i=>simpa using Wt h.2 (i:=i) (by simpa using hx) hl
 | [],a::l,h,i,x,hx,hl=>by
   simp only[Iz,aj,cn]at h
   cases i with
   |zero=>simp at hx;subst hx;rw[hl]at h;cases h.1
   |succ i=>simpa using Wt (io:=[]) h.2 (i:=i) (by simpa using hx) hl
def dj.lt:∀{vs:List Value} {xs:List A} {bs:List Nat},dj φ w K vs xs bs->∀b∈bs,b<w.heap.size
 |_,_,_,.nil,b,h=>by cases h
 |_,_,_,.cons v x ob vs xs bs h t,b,hb=>by
  rcases aU.1 hb with hb|hb
  ·cases h with
   |data=>simp at hb
   |own _ _ _ h=>cases h with
    |empty=>simp at hb
    |mk b o cap z xs vs hc h0 hz h hv hr=>simp at hb;subst hb;exact hr.lt
  ·exact t.lt b hb
def fL.lt:∀{vs:List Value} {xs:List A} {bs:List Nat},fL φ w K vs xs bs->∀b∈bs,b<w.heap.size
 |_,_,_,.nil,b,h=>by cases h
 |_,_,_,.cons v x ob vs xs bs h t,b,hb=>by
  rcases aU.1 hb with hb|hb
  ·cases h with
   |data=>cases hb
   |iB _ _ _ h=>cases h with
    |mk b o z x vs bs h hv hr hz=>
     rcases bl.1 hb with rfl|hb
     ·exact hr.lt
     ·exact h.lt _ hb
   |lB _ _ _ h=>cases h with
    |empty=>simp at hb
    |mk b o cap z xs vs hc h0 hz h hv hr=>simp at hb;subst hb;exact hr.lt
  ·exact t.lt b hb
def fL.length:∀{vs:List Value} {xs:List A} {bs:List Nat},fL φ w K vs xs bs->vs.length=xs.length
 |_,_,_,.nil=>rfl
 |_,_,_,.cons _ _ _ _ _ _ _ t=>congrArg (· +1) t.length
def cI.alh(h:cI φ w0 L E st ev w){i:Nat}{x:A}(hv:RV φ E st.r w (ev i) x)(hn:∀k b,¬Tk (ev i) x k b):cI φ w0 L E (st.put (ae i) x) ev w:=
 h.k9 (λ_ _ h=>h) (λj=>by
  simp only[St.put]
  split
  ·rename_i e;rw[e];exact hv
  ·exact h.iZ j) (λj k b ht=>by
  simp only[St.put]at ht
  split at ht
  ·rename_i e;rw[e]at ht;exact(hn k b ht).elim
  ·exact⟨j,ht⟩)
def iK.alh{b:Nat}(h:iK w0 L E st ev w b){i:Nat}{x:A}(hn:∀k b,¬Tk (ev i) x k b):iK w0 L E (st.put (ae i) x) ev w b:=
 ⟨h.z,h.r,λj k b' ht=>by
   simp only[St.put]at ht
   split at ht
   ·rename_i e;rw[e]at ht;exact(hn k b' ht).elim
   ·exact h.t j k b' ht⟩
def C9:∀{ab:List A} {vs:List Value} {i:Nat} {E:Env} {st st1:St} {bs:List Nat},cI φ w0 L E st ev w->fL φ w E.ok vs ab bs->bs.Nodup->(∀b∈bs,iK w0 L E st ev w b)->
 (∀j v,vs[j]? =ae v->ev (i+j)=v)->(∀j v x,vs[j]? =ae v->ab[j]? =ae x->L.pl (i+j)=(if i+j<1000 then place v x else ai)\/L.pl (i+j)=ai)->iO i ab st=ae st1->
 ∃E1,cI φ w0 L E1 st1 ev w/\E1.ok=E.ok
 | [],vs,i,E,st,st1,bs,h,ha,_,_,_,_,he=>by
   simp[iO]at he;subst he;exact⟨E,h,rfl⟩
 |x::ab,vs,i,E,st,st1,bs,h,ha,hnd,hF,hev,hpl,he=>by
  cases ha with
  |cons v _ b0 vs _ bs0 h0 t=>
   obtain⟨n1,n2,n3⟩:=cZ.1 hnd
   have hv0:ev i=v:=by have:=hev 0 v rfl;simpa using this
   have hev':∀j u,vs[j]? =ae u->ev (i+1+j)=u:=λj u hu=>by have:=hev (j+1) u (by simpa using hu);rwa[show i+(j+1)=i+1+j from by omega]at this
   have hpl':∀j u y,vs[j]? =ae u->ab[j]? =ae y->L.pl (i+1+j)=(if i+1+j<1000 then place u y else ai)\/L.pl (i+1+j)=ai:=λj u y hu hy=>by have:=hpl (j+1) u y (by simpa using hu) (by simpa using hy);rwa[show i+(j+1)=i+1+j from by omega]at this
   have hp0:L.pl i=(if i<1000 then place v x else ai)\/L.pl i=ai:=by have:=hpl 0 v x rfl rfl;simpa using this
   cases h0 with
   |data _ hr=>
    have hnt:∀k b,¬Tk (ev i) x k b:=λk b=>by rw[hv0];exact Tk.nW hr
    have hp:iO i (x::ab) st=if Ab.pure x||as1 x then iO (i+1) ab (st.put (ae i) x)else ai:=by cases hr<;>rfl
    rw[hp]at he
    split at he
    ·have h1:=h.alh (i:=i) (x:=x) (by rw[hv0];exact .one _ _ (.data _ _ hr)) hnt
     exact C9 h1 t n2 (λb hb=>(hF b (aS _ hb)).alh hnt) hev' hpl' he
    ·cases he
   |iB z x _ hb=>
    simp only[iO]at he
    obtain⟨s,hs,he⟩:=ak.1 he
    obtain⟨E1,h1,hok,hrv,hfr⟩:=h.kN hs hb n1 (λb hb=>hF b (bW _ hb)) (λp' e=>by
     rcases hp0 with hp0|hp0<;>rw[hp0]at e
     rotate_left
     ·cases e
     split at e
     ·cases hb with
      |mk b o z x us bs hcr hcl hrm hz=>
       simp only[place,aq]at e
       rw[<-e]
     ·cases e)
    have hnt:∀k b,¬Tk (ev i) (.loc i 0 0) k b:=λk b=>Un k b
    have h2:=h1.alh (i:=i) (x:=.loc i 0 0) (by rw[hv0];exact .one _ _ hrv) hnt
    obtain⟨E2,h3,hok2⟩:=C9 h2 (by rw[hok];exact t) n2 (λb hb=>(hfr b (λhm=>n3 b hm b hb rfl) (hF b (aS _ hb))).alh hnt) hev' hpl' he
    exact⟨E2,h3,hok2.trans hok⟩
   |lB z xs ob ho=>
    simp only[iO]at he
    split at he
    ·rename_i hi
     obtain⟨E1,h1,_,hok,hrv,hfr⟩:=h.amY (q:=i) ho (λb e=>hF b (bW _ (by simp[e]))) (by
      rcases hp0 with hp0|hp0
      rotate_left
      ·exact .inl hp0
      rw[hp0,aJ hi]
      cases ho with
      |empty ad z=>cases ad<;>exact .inl rfl
      |mk b o cap z xs us hc hc0 hz hh hv hr=>exact .inr ⟨b,o,_,cap,rfl,hc0,by simp[place,hc0]⟩) (h.Um hi)
     have hnt:∀k b,¬Tk (ev i) (.view i 0 xs.length) k b:=λk b=>Ar k b
     have h2:=h1.alh (i:=i) (x:=.view i 0 xs.length) (by rw[hv0];exact .one _ _ hrv) hnt
     obtain⟨E2,h3,hok2⟩:=C9 h2 (by rw[hok];exact t) n2 (λb hb=>(hfr b (λe=>n3 b (by simp[e]) b hb rfl) (hF b (aS _ hb))).alh hnt) hev' hpl' he
     exact⟨E2,h3,hok2.trans hok⟩
    ·cases he
def aiI:List Bool->Nat->List Nat->List Bool
 | [],_,_=>[]
 |b::bs,i,G=>(b&& !G.contains i)::aiI bs (i+1) G
def amG{G:List Nat}:∀{io:List Bool} {k i:Nat},(io[i]?).getD aw=ar->k+i∉G->((aiI io k G)[i]?).getD aw=ar
 | [],k,i,h,_=>by simp at h
 |b::bs,k,0,h,hg=>by
  have hb:b=ar:=by simpa using h
  have hg':k∉G:=hg
  simp[aiI,hb,hg']
 |b::bs,k,i+1,h,hg=>by
  have:=amG (io:=bs) (k:=k+1) (i:=i) (G:=G) (by simpa using h) (by rwa[show k+1+i=k+(i+1)from by omega])
  simpa[aiI]using this
def Lw(K:Nat->Prop)(vs:List Value)(ab:List A)(bs:List Nat)(G:List Nat):kU where
 blk:=(· ∈bs)
 K0:=K
 pl:=λi=>if i<1000/\i∉G then(match vs[i]?,ab[i]? with|some v,ae x=>place v x|_,_=>ai)else ai
 lt:=λi p h=>by
  split at h;·rename_i hc;exact hc.1
  ·cases h
def aqk(G:List Nat){fn:Fn}{ab:List A}{vs:List Value}{bs:List Nat}{n:Nat}{st0:St}(ha:fL φ w K vs ab bs)(hnd:bs.Nodup)(hK:∀b∈bs,¬K b)(hz:∀b,K b->b<w.heap.size)(he:fn.enter ab=ae st0): ∃E,lf φ w (Lw K vs ab bs G) E st0 {tmps:=vs.toArray++Pr (n-vs.length) undef,defers:=[]} w/\E.ok=K:=by
 unfold Fn.enter at he;split at he
 ·have ht:∀i,(⟨tab [],aeg []⟩:St).t i=.any:=λi=>rfl;have hr:∀i,(⟨tab [],aeg []⟩:St).r i=ai:=λi=>rfl
  have h0:cI φ w (Lw K vs ab bs G) ⟨K,λ_=>ai⟩ ⟨tab [],aeg []⟩ (λi=>Rk {tmps:=vs.toArray++Pr (n-vs.length) undef,defers:=[]} (.tmp i)) w:={
   iZ:=λi=>by rw[ht];exact .one _ _ (.any _)
   roots:=λq R h=>by rw[hr]at h;cases h
   inj:=λq q' b o b' o' h=>by rw[hr]at h;cases h
   rz:=λq b o h=>by rw[hr]at h;cases h
   tz:=λi k b h=>by rw[ht]at h;exact(yH _ _ h).elim
   td:=λi j k k' b b' h=>by rw[ht]at h;exact(yH _ _ h).elim
   UP:=hz,grow:=bm _,frame:=λ_ _ _=>rfl,env:=⟨rfl,rfl⟩,fr:=λ_ _ _=>rfl,room:=λ_ _ h=>h
   Qr:=λi p _ h=>by rw[hr]at h;cases h
   okU:=λ_ h=>h,okL:=λ_ h=>.inl h}
  obtain⟨E1,h1,hok⟩:=C9 h0 ha hnd (λb hb=>⟨⟨hK b hb,.inr hb,ha.lt b hb⟩,(λq b' o h=>by rw[hr]at h;cases h),(λi k b' h=>by rw[ht]at h;exact(yH _ _ h).elim)⟩) (λj v hv=>by
   have hj:j<vs.length:=by
    rcases bH j vs.length with h|h
    ·exact h
    ·simp[bB h]at hv
   simp only[Rk,c8]
   rw[fi,Array.getElem?_append_left (by simpa using hj)]
   simp[hv]) (λj v x hv hx=>by
   simp only[Lw,c8,hv,hx]
   by_cases hg:j∈G
   ·exact .inr (aO λh=>h.2 hg)
   ·refine .inl ?_
    by_cases hj:j<1000
    ·rw[aJ ⟨hj,hg⟩,aJ hj]
    ·rw[aO λh=>hj h.1,aO hj]) he
  exact⟨E1,⟨h1,rfl⟩,hok⟩
 ·cases he
end
end Go.Ab
