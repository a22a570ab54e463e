/- The abstract interpreter and its soundness, third part. Conditions: none. -/
import Derived.Test.YtoifpbonojhjfaaGreatDoorG1
import Derived.Deep.MidRow
import Derived.Deep.AppendSrc
import Derived.Orders
set_option linter.unusedVariables false
set_option linter.unusedSimpArgs false
set_option linter.defProp false
open Array renaming ext'->aa7,getD_eq_getD_getElem? ->fZ,getElem?_eq_none->qd,getElem?_eq_some_iff->RA,getElem?_modify->Zm,getElem?_toList->rL,length_toList->ai4,range->aAo,replicate->YT,size_append->Tu
open Bool renaming and_eq_true->az,eq_iff_iff->awB,false->aA,false_eq_true->ar,false_or->Av,not_eq_true'->gj,not_true->aV,or_eq_true->mZ,true->aB
open Classical renaming choose->awV
open Decidable renaming decide->ao
open Eq renaming trans->Tv
open False renaming elim->aAq
open Go renaming Act->alk,Addr->afQ,Oper->Zp,Operand->ej,Program->bV,TypeId->bO,TypeInfo->WJ,Value->aL,World->aU,execOp->gS,grownCap->rP,growslice_fits->aJ5,run_firstCells_some->Ak,run_underlying->jN,size_zeroCells->aDd
open Go.Act renaming eval->aa8,put->aCq
open Go.Addr.mk renaming injEq->apa
open Go.Array renaming range_zero'->ai5
open Go.Builtin renaming append_->fH,firstCells->uo,nextslicecap->atZ,zeroCells->cG
open Go.Instr renaming buildSlice->AR,fill->afR,sureAddr->acQ
open Go.Oper renaming upon_skip->aIL,upon_value->xw,wp->Jf
open Go.Region renaming ready->atK,wanted->acI
open Go.Result renaming andThen_ok->cZ
open Go.Sem renaming run_bind->eP,run_ite->aGL,run_pure->mg
open Go.Src renaming ofSlice->aGM
open Go.Value renaming agg->vt
open Go.Value.slice renaming injEq->Cv
open Go.World renaming cell? ->b9,cell?_setCells_in->awG,cell?_setCells_out->TC,setCell->TD,setCells->ape
open List renaming all_eq_true->bz,any_eq_true->U8,append_assoc->df,cons_append->Am,contains_eq_mem->fP,drop_append_of_le_length->aqi,drop_zero->cL,eq_nil_of_length_eq_zero->fQ,eq_of_mem_replicate->V2,filterMap_cons->afT,flatMap_append->RH,flatMap_cons->cr,getElem?_append_left->dM,getElem?_append_right->fR,getElem?_drop->FD,getElem?_eq_getElem->aE,getElem?_eq_none->bU,getElem?_map->cC,getElem?_replicate->aDe,getElem?_set_ne->aDf,getElem?_set_self->aGn,getElem?_take->sq,length->ae,length_append->bg,length_cons->bl,length_nil->bQ,length_pos_iff->U9,length_replicate->LQ,length_take->cO,lookup_cons->aph,map->ky,map_congr_left->kx,map_cons->aY,mem_append->bt,mem_append_left->dZ,mem_append_right->bN,mem_cons->bP,mem_cons_of_mem->bm,mem_cons_self->cI,mem_filter->arV,mem_flatMap->wT,mem_iff_getElem? ->fO,mem_map->dF,mem_of_getElem? ->cq,mem_of_mem_drop->dk,mem_of_mem_take->jO,mem_or_eq_of_mem_set->WE,mem_range->at3,mem_singleton->aT,nil_append->cJ,nodup_append->dX,nodup_cons->Gu,nodup_nil->ib,pairwise_append->OP,pairwise_cons->kR,range->Ay,range'->ac5,range'_succ->apj,replicate->bK,size_toArray->aqk,tail_cons->at4,tail_nil->aJ8,take_append_drop->aGU,take_length->bc,take_zero->LS
open Nat renaming add_assoc->jS,add_mul->V3,le_refl->bx,le_trans->dQ,lt_irrefl->xB,lt_of_lt_of_le->bX,lt_or_ge->bL,min_eq_left->acK,mul_le_mul->afU,mul_le_mul_right->dh,succ_mul->eK,zero_add->dL,zero_le->jJ
open Ne renaming symm->arY
open Option renaming bind_eq_some_iff->aI,bind_some->ag,getD_some->jA,isNone_iff_eq_none->apl,isSome_iff_exists->iM,map_eq_some_iff->aM,map_map->aGr,map_some->aS,none->au,some->ai
open Option.some renaming inj->cA,injEq->aC
open Prod.mk renaming injEq->bS
open True renaming intro->cR
open _root_ renaming Array->kZ,Bool->aW,False->JW,List->ah,Nat->ax,Option->aq,absurd->bG,congrArg->wE,not_or->agG
namespace Go.Ab
section
variable {P:bV} {φ:ax->ax} {w0:aU} {L:nU} {E E':Env} {st st':St} {ev ev':ax->aL} {w w':aU} {r r':ax->aq eO} {a:alk}
def K5{z:ax}{w:aU}{b n:ax}{ad:afQ}{v:aL}(h:hZ z w b n):hZ z (w.setCell ad v) b n:=by
 obtain⟨C,e,fr,h1,h2,h3⟩:=h;by_cases hb:ad.block=b
 .refine⟨if ad.spot.isSome then C else C.setIfInBounds ad.off v,e,fr,?_,?_,λoff ho=> ?_⟩;·simp only[TD,hb];rw[Zm,h1];simp
  .split<;>simpa using h2
  .rw[World.frozen?_setCell];refine h3 off ?_;split at ho<;>simpa using ho
 .have:(w.setCell ad v).heap[b]? =w.heap[b]? :=by simp only[TD];rw[Zm];simp[hb]
  exact hZ.of_block this ⟨C,e,fr,h1,h2,h3⟩
def X7(b:ax):∀(vs:ah aL) (o:ax) (w:aU),(∀b',b'≠b->(w.setCells b o vs).heap[b']? =w.heap[b']?)/\(w.setCells b o vs).heap.size=w.heap.size/\
 ((w.setCells b o vs).os=w.os/\(w.setCells b o vs).output=w.output)/\(∀{z:ax} n,hZ z w b n->hZ z (w.setCells b o vs) b n)
 | [],o,w=>⟨λ_ _=>rfl,rfl,⟨rfl,rfl⟩,λ_ h=>h⟩
 |v::vs,o,w=>by
  obtain⟨h1,h2,h3,h4⟩:=X7 b vs (o+1) (w.setCell ⟨b,o,au⟩ v);refine⟨λb' hb=> ?_,?_,?_,λn hn=>h4 n (K5 hn)⟩;·rw[ape,h1 b' hb];simp only[TD];rw[Zm];have:¬b=b':=λe=>hb e.symm;simp[this]
  .rw[ape,h2];simp[TD]
  .rw[ape];exact h3
def Wr.cells{b o:ax}{vs:ah aL}(hn:¬E.ok b)(hz:ac8 w0 L b)(sh:∀q R',r' q=ai R'->∃R,r q=ai R/\R'.b=R.b/\R'.z=R.z/\R'.xs.length=ae R.xs): Wr w0 L E r r' w (w.setCells b o vs) b:=by obtain⟨h1,h2,h3,h4⟩:=X7 b vs o w;exact⟨h1,h2,h3,λoff=>World.frozen?_setCells b vs o w _,h4,hn,hz,sh⟩
def hZ.cell{z:ax}{b n:ax}(h:hZ z w b n){j:ax}(hj:j<n):(w.cell? ⟨b,j,au⟩).isSome=aB/\w.frozen? ⟨b,j,au⟩=aA:=by obtain⟨C,e,fr,h1,h2,h3⟩:=h;refine⟨?_,h3 j (by omega)⟩;simp only[b9,h1];simp;omega
def dw.write{z:ax}{b o:ax}{vs news:ah aL}{c:ax}(hv:dw w b o vs)(hr:hZ z w b (o+ae vs))(hc:c+ae news<=ae vs):
 dw (w.setCells b (o+c) news) b o (vs.take c++news++vs.drop (c+ae news)):=λj v hj=>by
 rcases bL j c with h1|h1
 .rw[TC b news (o+c) w ⟨b,o+j,au⟩ (λ_ _=>.inl (by simp;omega))]
  refine hv j v ?_
  rw[df,dM (by simp;omega)]at hj
  rw[sq,aQ h1]at hj
  exact hj
 .rcases bL j (c+ae news)with h2|h2
  .have hin:=awG b news (o+c) w (λi hi=>(hr.cell (by omega)).1) (j-c) (by omega)
   rw[show o+c+(j-c)=o+j from by omega]at hin
   rw[hin]
   rw[df,fR (by simp;omega),dM (by simp;omega)]at hj
   have:ae (vs.take c)=c:=by simp;omega
   rw[this,aE (by omega)]at hj
   exact hj
  .rw[TC b news (o+c) w ⟨b,o+j,au⟩ (λ_ _=>.inr (by simp;omega))]
   refine hv j v ?_
   have hl:ae (vs.take c++news)=c+ae news:=by simp;omega
   rw[fR (by rw[hl];exact h2),hl]at hj
   simpa[show c+ae news+(j-(c+ae news))=j from by omega]using hj
def Value.one_cell{v:aL}(h:(∀cs,v≠ .agg cs)/\∀vs,v≠ .tuple vs):v.oneCell'=aB:=by cases v<;>first|rfl|exact bG rfl (h.1 _)|exact bG rfl (h.2 _)
def ab5{z:ax}{t:bO}{b o n:ax}{v:aL}(ht:ayw P t n=aB)(hl:v.cells.size=n)(h1:∀u∈v.cells.toList,u.oneCell'=aB)(hr:hZ z w b (o+n)): (storeVar t ⟨b,o,au⟩ v).run P w=.ok () (w.setCells b o v.cells.toList):=by obtain⟨i,hi,hs⟩:=ahY ht;have hst:=run_storeCells_cells (P:=P) b o v.cells.toList 0 w (λj hj=>by simpa using (hr.cell (by simp at hj;omega)).1) (λj hj=>by simpa using (hr.cell (by simp at hj;omega)).2) h1;simp only[Nat.add_zero]at hst;simp[storeVar,sizeOf,typeInfo,hi,hl,hs,hst]
def mn{old:A}{cs:ah A}(hl:ae cs=ae old.cells)(hn:∀y∈cs,∀l,y≠ .agg l):(gh old cs).cells=cs:=by
 by_cases ho:∃l,old=.agg l;·obtain⟨l,rfl⟩:=ho;rfl
 .have ho':∀l,old≠ .agg l:=λl e=>ho ⟨l,e⟩;rw[A.Ly ho']at hl;have:gh old cs=cs.headD .any:=by cases old<;>first|rfl|exact bG rfl (ho' _)
  rw[this];match cs,hl with| [y],_=>exact A.Ly (hn y (aT.2 rfl))
def fT.asH{q c:ax}{v:aL}{x:A}(h:fT φ E r w q c v x)(l:ah A):x≠ .agg l:=by cases h with|data _ h ha=>exact ha l|any=>exactλe=>by cases e|view=>exactλe=>by cases e
def dC.aee(h:dC φ w0 L E st ev w){d:ax}(hd:d<1000):∀p' R',st.r p'=ai R'->R'.b=aB->∀x∈R'.xs,∀y∈x.cells,nM d y=aA:=λp' R' hp hb x hx y hy=>by cases hr:nM d y with|false=>rfl|true=>obtain⟨c,_,e,_⟩:=h.RQ hp hb hx hy hr;have:=YF p' c;omega
def dC.box(h:dC φ w0 L E st ev w){d z b o:ax}{x:A}{vs:ah aL}(hd:d<1000)(Md:∀p',L.pl d=ai p'->p'=(b,o))(hF:jZ w0 L E st ev w b)(hz:ae x.cells=z)(hl:ae vs=ae x.cells) (j7:∀(c:ax) (v:aL) (a:A),vs[c]? =ai v->x.cells[c]? =ai a->fT φ E st.r w d c v a) (hv:dw w b o vs) (hr:hZ z w b (o+z)): dC φ w0 L ⟨E.ok,λi=>if i=d then ai (b,o)else E.ρ i⟩ ((st.kill d).bj d (ai ⟨aB,z,[x]⟩)) ev w:=by
 have h1:=(h.kill d).YM d;rw[<-Bc];refine h1.root (p:=ai (b,o)) (by simp[St.bj]) (λi=>LH d _) (h1.aee hd) (λb' o' e=> ?_) (λp' e=>by rw[Md p' e]) ?_
 .cases e;refine⟨hF.z,λq' b' o' a1 a2=>hF.r q' b' o' ?_ a2,λi k b' a1=>hF.t i k b' (Tk.gn (OT d) a1).1⟩;simp only[St.bj]at a1;split at a1;·cases a1
  .exact a1
 .refine .box b o z x vs (by simp) hz hd hl (λc v a h2 h3=> ?_) hv hr;cases j7 c v a h2 h3 with|data _ h ha=>exact .data _ _ h ha|any h=>exact .any _ h|view off n hc h hv=>(have iS:sub d c≠d:=by have:=YF d c;omega);refine .view _ _ _ hc (h.afL λR hR=>⟨?_,aP iS⟩) hv;simpa[St.bj,St.kill,St.map,iS]using hR
def azJ(h:oR φ w0 L E st a w){d b:ax}{R:eO}(hR:st.r d=ai R)(hρ:E.ρ d=ai (b,0))(hd:d<a.tmps.size): oR φ w0 L E (st.put (ai d) (.loc d 0 0)) (a.put (ai d) (.pointer (ai ⟨b,0,au⟩))) w:=by
 have hrv:lL φ E st.r w (.pointer (ai ⟨b,0,au⟩)) (.loc d 0 0):=by have:=lL.loc (φ:=φ) (E:=E) (r:=st.r) (w:=w) b 0 d 0 0 R hR hρ;simpa using this
 exact h.put hd (.one _ _ hrv) ((LK.scalar aef).tok h)
section
variable {o:Zp} {next:alk->aU->Prop} {Q:Exit->alk->aU->Prop} {cf:CF} {io:ax->ah aW}
def aO4(h:oR φ w0 L E st a w){y:ej}{y':dI}(ho:o.op=.assign y)(hc:db φ y y'=aB)(hd:∀i,o.dst=ai i->i<a.tmps.size)(Zu:∀i,o.dst=ai i->L.pl i=au)(he:eN cf io o.dst st (.asg y')=ai st') (hn:∀E' v w',oR φ w0 L E' st' (a.put o.dst v) w'->next (a.put o.dst v) w'):o.wp P a w next Q:=by
 have hy:=eM h hc;have jn:(gS a.eval o).run P w=.ok (.value (a.eval y)) w:=by simp[gS,ho]
 unfold Jf;rw[jn,xw];simp only[eN]at he;split at he
 .rename_i d k z xs e1 e2;split at he;·rename_i dE;simp only[aC]at he;subst he;rw[e1]at hn⊢;rw[e2]at hy;obtain⟨E1,h1,_,h2⟩:=h.todC.as8 (q:=d) hy.1.Zh (λb ht=>hy.2 k b (.one _ _ _ _ ht)) (Zu d e1) (h.aee dE);have h3:oR φ w0 L E1 (((st.eW k).kill d).bj d (ai ⟨aA,z,xs⟩)) a w:=⟨h1,h.Gc⟩;exact hn E1 _ w (h3.put (hd d e1) (.one _ _ h2) ((LK.scalar GZ).tok h3))
  .cases he
 .rename_i d z e1 e2;split at he;·rename_i dE;simp only[aC]at he;subst he;rw[e1]at hn⊢;rw[e2]at hy;rw[hy.1.SN];have h1:=(h.todC.kill d).YM d;have h2:=h1.root (p:=au) (R:=⟨aA,z,[]⟩) (by simp[St.bj]) (λi=>LH d _) (h1.aee dE) (λ_ _ e=>by cases e) (λp' e=>by rw[Zu d e1]at e;cases e) (.empty z (by simp));rw[Bc]at h2;have h3:oR φ w0 L _ ((st.kill d).bj d (ai ⟨aA,z,[]⟩)) a w:=⟨h2,h.Gc⟩;exact hn _ _ w (h3.put (hd d e1) (.one _ _ (.pP au d 0 ⟨aA,z,[]⟩ (by simp[St.bj]) rfl (jJ _))) ((LK.scalar GZ).tok h3))
  .cases he
 .simp only[aC]at he;subst he;exact hn E _ w (h.iW hd hy.1 (hy.2.tok h))
def aqD(h:dC φ w0 L E st ev w){C:kZ aL}{e:bO}(hh:w'.heap=w.heap.push (.cells C e)):jZ w0 L E st ev w' w.heap.size:=
 ⟨⟨λhk=>xB _ (h.okz _ hk),.inl h.grow,by rw[hh];simp⟩,λq b' o a1 a2 e=>by have:=(h.rz q b' o a1 a2).2.2;omega,λi k b' a1 e=>by have:=(h.tz i k b' a1).1.2.2;omega⟩
def aIE(h:oR φ w0 L E st a w){t:bO}{z:ax}{zero:A}(ho:o.op=.alloc t)(hc:asa P t z zero=aB)(hd:∀i,o.dst=ai i->i<a.tmps.size)(Zu:∀i,o.dst=ai i->L.pl i=au)(he:eN cf io o.dst st (.alloc z zero)=ai st') (hn:∀E' v w',oR φ w0 L E' st' (a.put o.dst v) w'->next (a.put o.dst v) w'):o.wp P a w next Q:=by
 simp only[eN]at he;split at he
 .rename_i d e1;split at he;·rename_i gF;obtain⟨hzl,dE,hp⟩:=gF;simp only[aC]at he;subst he;obtain⟨i,v,hi,hs,ady,oz,hvz⟩:=YZ hc;(have jn:(gS a.eval o).run P w=.ok (.value (.pointer (ai ⟨w.heap.size,0,au⟩))) (w.alloc (.cells v.cells t)):=by simp[gS,ho,Instr.alloc,zeroValue,typeInfo,hi,ady,newVar,newRow]);unfold Jf;rw[jn,xw,e1];have hh:(w.alloc (.cells v.cells t)).heap=w.heap.push (.cells v.cells t):=rfl;have af8:=L9 hh ⟨rfl,rfl⟩;have h1:=h.todC.ext af8 (.refl E w _);have aJm:dp φ (w.alloc (.cells v.cells t)) E.ok v.cells.toList zero.cells:=Cx oz;have h2:=h1.box (d:=d) (z:=z) (o:=0) (x:=zero) (vs:=v.cells.toList) dE (λp' e=>by rw[Zu d e1]at e;cases e) (aqD h.todC hh) hzl aJm.length (λc u x hu hx=>by obtain⟨u',hu',hr⟩:=aJm.get hx;rw[hu]at hu';cases hu';exact .data _ _ hr (M8 (bz.1 hp x (cq hx)))) (uw hh) ((He hh).le (by omega));rw[e1]at hn;exact hn _ _ _ (azJ ⟨h2,h.Gc⟩ (R:=⟨aB,z,[zero]⟩) (by simp[St.bj]) (by simp) (hd d e1))
  .cases he
 .cases he
def aO5(h:oR φ w0 L E st a w){t:bO}{z:ax}{y:ej}{y':dI}(ho:o.op=.box t y)(hc:db φ y y'=aB)(hd:∀i,o.dst=ai i->i<a.tmps.size)(Zu:∀i,o.dst=ai i->L.pl i=au)(he:eN cf io o.dst st (.box z y')=ai st') (hn:∀E' v w',oR φ w0 L E' st' (a.put o.dst v) w'->next (a.put o.dst v) w'):o.wp P a w next Q:=by
 simp only[eN]at he;split at he
 .rename_i d e1;split at he;·rename_i gF;obtain⟨dE,aSN,hzl,aEp⟩:=gF;obtain⟨⟨cs,st1⟩,ha,he⟩:=aM.1 he;subst he;(have jn:(gS a.eval o).run P w=.ok (.value (.pointer (ai ⟨w.heap.size,0,au⟩))) (w.alloc (.cells (a.eval y).cells t)):=by simp[gS,ho,Instr.box,newVar,newRow]);unfold Jf;rw[jn,xw,e1];rw[e1]at hn;have hy:=eM h hc;(have Aq:(a.eval y).cells.size=z:=by have:=(X8 (a:=a) hy.1 hy.2 aEp).1;simp at this;omega);have hh:(w.alloc (.cells (a.eval y).cells t)).heap=w.heap.push (.cells (a.eval y).cells t):=rfl;have af8:=L9 hh ⟨rfl,rfl⟩;have h1:=((h.todC.aLp hy.1 hy.2 gs).kill d).YM d;obtain⟨E1,h2,hst,hl,lO⟩:=h1.jU ha (by omega) (λc' a1 a2 p' R' hp hb x hx y hy=>by cases hr:nM (sub d c') y with|false=>rfl|true=>obtain⟨c2,hc2,e2,_⟩:=h1.RQ hp hb hx hy hr;have e3:=(UW (by omega) hc2 e2).1;simp[St.bj,<-e3]at hp);have h3:=(h2.azk).ext af8 (.refl E1 w _);(have jy:∀(c:ax) (u:aL) (x:A),(a.eval y).cells.toList[c]? =ai u->cs[c]? =ai x->fT φ E1 (st1.iW gs .any).r (w.alloc (.cells (a.eval y).cells t)) d c u x:=λc u x hu hx=>by obtain⟨u',hu',Ao⟩:=lO c x hx;simp only[evG,aK,dL]at hu';(have:u'=u:=by(have h5:(a.eval y).cells.toList[c]? =(a.eval y).cells[c]? :=by simp);rw[h5,hu']at hu;exact cA hu);subst this;simp only[dL]at Ao;exact Ao.ext af8.same (λ_ h=>h) rfl h2.okz);(have hna:∀x∈cs,∀l,x≠ .agg l:=λx hx=>by obtain⟨c,hc⟩:=fO.1 hx;obtain⟨u',hu',Ao⟩:=lO c x hc;exact Ao.asH);have hrc:(gh (y'.v st) cs).cells=cs:=mn (by rw[hl,hzl]) hna;have h4:=h3.box (d:=d) (z:=z) (o:=0) (x:=gh (y'.v st) cs) (vs:=(a.eval y).cells.toList) dE (λp' e=>by rw[Zu d e1]at e;cases e) (aqD h2.azk hh) (by rw[hrc,hl]) (by rw[hrc,hl];simpa using Aq) (λc u x hu hx=>jy c u x hu (by rw[hrc]at hx;exact hx)) (uw hh) ((He hh).le (by omega));exact hn _ _ _ (azJ ⟨h4,h.Gc⟩ (R:=⟨aB,z,[gh (y'.v st) cs]⟩) (by simp[St.bj]) (by simp) (hd d e1))
  .cases he
 .cases he
end
end
end Go.Ab
namespace Go.Ab
section
variable {P:bV} {φ:ax->ax} {w0:aU} {L:nU} {E E':Env} {st st':St} {ev ev':ax->aL} {w w':aU} {r r':ax->aq eO} {a:alk}
def fT.one{q c:ax}{v:aL}{x:A}(h:fT φ E r w q c v x):(∀cs,v≠ .agg cs)/\(∀vs,v≠ .tuple vs):=by cases h with|data _ h ha=>exact h.Ul ha|any h=>exact h|view _ _ _ _ h=>exact h
def aea{α:Type}{l m k:ah α}{j:ax}:(l++m++k)[j]? =if j<ae l then l[j]? else if j<ae l+ae m then m[j-ae l]? else k[j-(ae l+ae m)]? :=by
 rw[df];split;·rename_i h;rw[dM h]
 .rename_i h;rw[fR (by omega)];split;·rename_i h2;rw[dM (by omega)]
  .rename_i h2;rw[fR (by omega)];congr 1;omega
def aui{e:A}{c n:ax}(hn:∀y∈e.cells,∀l,y≠ .agg l)(hc:c+n<=ae e.cells):(blank e c n).cells=e.cells.take c++bK n .any++e.cells.drop (c+n):=by
 refine mn (by simp;omega) λy hy l=> ?_;rcases bt.1 hy with hy|hy
 .rcases bt.1 hy with hy|hy
  .exact hn y (jO hy) l
  .rw[V2 hy];exactλe=>by cases e
 .exact hn y (dk hy) l
def dC.aFh(h:dC φ w0 L E st ev w){q b o:ax}{R R':eO}(hR:st.r q=ai R)(hρ:E.ρ q=ai (b,o))(hs:R'.b=R.b/\R'.z=R.z/\R'.xs.length=ae R.xs) (Ap:pS φ E (st.bj q (ai R')).r w q R'):dC φ w0 L E (st.bj q (ai R')) ev w:=by
 have hq:=h.rz q b o (by rw[hR];rfl) hρ;have W:Wr w0 L E st.r (st.bj q (ai R')).r w w b:=⟨λ_ _=>rfl,rfl,⟨rfl,rfl⟩,λ_=>rfl,λ_ h=>h,hq.1,hq.2.1,λp R1 hp=>by by_cases e:p=q;(·subst e;simp[St.bj]at hp;subst hp;exact⟨R,hR,hs⟩);·simp[St.bj,e]at hp;exact⟨R1,hp,rfl,rfl,rfl⟩⟩;refine h.write W (λi k ht=>(h.tz i k b ht).2 q b o (by rw[hR];rfl) hρ rfl) λp R1 hp=> ?_;by_cases e:p=q;·subst e;simp[St.bj]at hp;subst hp;exact .inr Ap
 .simp[St.bj,e]at hp;exact .inl ⟨hp,λo' iA=>h.inj p q b o' b o (by rw[hp];rfl) (by rw[hR];rfl) iA hρ e rfl⟩
def dC.arN(h:dC φ w0 L E st ev w){q b o o':ax}{R R':eO}{news:ah aL}(hR:st.r q=ai R)(hρ:E.ρ q=ai (b,o))(hs:R'.b=R.b/\R'.z=R.z/\R'.xs.length=ae R.xs) (Ap:Wr w0 L E st.r (st.bj q (ai R')).r w (w.setCells b o' news) b->pS φ E (st.bj q (ai R')).r (w.setCells b o' news) q R'):dC φ w0 L E (st.bj q (ai R')) ev (w.setCells b o' news):=by
 have hq:=h.rz q b o (by rw[hR];rfl) hρ;have W:Wr w0 L E st.r (st.bj q (ai R')).r w (w.setCells b o' news) b:=Wr.cells hq.1 hq.2.1 λp R1 hp=>by by_cases e:p=q;(·subst e;simp[St.bj]at hp;subst hp;exact⟨R,hR,hs⟩);·simp[St.bj,e]at hp;exact⟨R1,hp,rfl,rfl,rfl⟩
 refine h.write W (λi k ht=>(h.tz i k b ht).2 q b o (by rw[hR];rfl) hρ rfl) λp R1 hp=> ?_;by_cases e:p=q;·subst e;simp[St.bj]at hp;subst hp;exact .inr (Ap W)
 .simp[St.bj,e]at hp;exact .inl ⟨hp,λo' iA=>h.inj p q b o' b o (by rw[hp];rfl) (by rw[hR];rfl) iA hρ e rfl⟩
def aA0{xs:ah A}{z:ax}(hz:∀x∈xs,ae x.cells=z){i c:ax}{e e':A}{V:ah A}(he:xs[i]? =ai e)(hc:c+ae V<=z)(he':e'.cells=e.cells.take c++V++e.cells.drop (c+ae V)): (xs.set i e').flatMap A.cells=(xs.flatMap A.cells).take (i*z+c)++V++(xs.flatMap A.cells).drop (i*z+c+ae V):=by
 have hi:i<ae xs:=by(rcases bL i (ae xs)with h|h);(·exact h);·simp[bU h]at he
 have hez:ae e.cells=z:=hz e (cq he);have aRz:ae e'.cells=z:=by rw[he'];simp;omega
 have hat:=azq hz he;rw[hez]at hat;rw[amd hz aRz hi,he'];generalize xs.flatMap A.cells=F at hat⊢;have hln:ae ((F.drop (i*z)).take z)=z:=by rw[<-hat];exact hez
 rw[hat];have h1:((F.drop (i*z)).take z).take c=(F.drop (i*z)).take c:=by rw[List.take_take];congr 1;omega
 have h2:((F.drop (i*z)).take z).drop (c+ae V)++F.drop (i*z+z)=F.drop (i*z+c+ae V):=by rw[<-List.drop_drop (i:=z) (j:=i*z),<-aqi (by rw[hln];exact hc),aGU,List.drop_drop,jS]
 rw[h1,List.take_add];simp only[df];rw[h2]
section
variable {o:Zp} {next:alk->aU->Prop} {Q:Exit->alk->aU->Prop} {cf:CF} {io:ax->ah aW}
def aO7(h:oR φ w0 L E st a w){t:bO}{n:ax}{y v:ej}{y' v':dI}(ho:o.op=.store t y v)(hc:db φ y y'=aB)(hc2:db φ v v'=aB)(ht:ayw P t n=aB) (hd:∀i,o.dst=ai i->i<a.tmps.size) (he:eN cf io o.dst st (.sto n y' v')=ai st') (hn:∀E' v w',oR φ w0 L E' st' (a.put o.dst v) w'->next (a.put o.dst v) w'):o.wp P a w next Q:=by
 have hy:=eM h hc;have hv:=eM h hc2;simp only[eN]at he;split at he
 .rename_i hvl;split at he
  .rename_i q i c hyv;rw[hyv]at hy;obtain⟨R,hR,he⟩:=aI.1 he;obtain⟨b,o0,hρ,hye⟩:=hy.1.KW.abK hR;(have run:∀{m rz:ax},(a.eval v).cells.size=n->(∀u∈(a.eval v).cells.toList,u.oneCell'=aB)->hZ rz w b m->o0+i*R.z+c+n<=m->(gS a.eval o).run P w=.ok .skip (w.setCells b (o0+i*R.z+c) (a.eval v).cells.toList):=by intro m rz h1 h2 h3 h4;simp only[gS,ho,Instr.storeAt,acQ,hye,eP,mg,cZ,ab5 ht h1 h2 (h3.le h4)]);split at he
   .rename_i e hb LD _;split at he
    .rename_i gF;obtain⟨dE,hce,axv,aEp⟩:=gF;obtain⟨⟨cs,st1⟩,ha,he⟩:=aM.1 he;subst he;obtain⟨Rb,Rz,Rxs⟩:=R;simp only at hb LD run hR ha hn;subst hb;subst LD;(have Aq:(a.eval v).cells.size=n:=by have:=(X8 (a:=a) hv.1 hv.2 aEp).1;simp at this;omega);have hG:=h.todC.aLp hv.1 hv.2 gs;have hro:=hG.roots q _ hR;(have aKS:∀y∈e.cells,∀l,y≠ .agg l:=by cases hro with|box b o z _ vs hρ hz dE hl hh hv qP=>intro y hy l;obtain⟨j,hj⟩:=fO.1 hy;(have hjl:j<ae vs:=by(rw[hl];rcases bL j (ae e.cells)with h'|h');(·exact h');·simp[bU h']at hj);exact(hh j vs[j] y (by simp) hj).asH l);have hbc:=aui aKS hce;(have hzl:Rz=ae e.cells:=by cases hro with|box b o z x vs hρ hz dE hl hh hv qP=>exact hz.symm);(have aDY:(blank e c n).cells.length=ae e.cells:=by rw[hbc];simp;omega);(have hB:dC φ w0 L E ((st.iW gs (v'.v st)).bj q (ai ⟨aB,Rz,[blank e c n]⟩)) (evG (λi=>a.eval (.tmp i)) gs (a.eval v)) w:=by refine hG.aFh (b:=b) (o:=o0) hR hρ ⟨rfl,rfl,rfl⟩ ?_;cases hro with|box b1 o1 z x vs yY hz dE hl hh hv1 qP=>refine .box b1 o1 Rz (blank e c n) vs yY (by rw[aDY];exact hz) dE (by rw[aDY];exact hl) (λj u x hu hx=> ?_) hv1 qP;rw[hbc,aea]at hx;(have hj:j<ae e.cells:=by(rw[<-hl];rcases bL j (ae vs)with h'|h');(·exact h');·simp[bU h']at hu);(have old:∀{x},e.cells[j]? =ai x->fT φ E ((st.iW gs (v'.v st)).bj q (ai ⟨aB,Rz,[blank e c n]⟩)).r w q j u x:=λ{x} hx=>by cases hh j u x hu hx with|data _ h ha=>exact .data _ _ h ha|any h=>exact .any _ h|view off n hc h hv=>(have iS:sub q j≠q:=by have:=YF q j;omega);exact .view _ _ _ hc (h.afL λR hR=>⟨by simpa[St.bj,iS]using hR,rfl⟩) hv);have aBd:=(hh j u e.cells[j] hu (by simp)).one;simp only[cO,LQ]at hx;rw[acK (by omega)]at hx;split at hx;(·rename_i h1;rw[sq,aQ h1]at hx;exact old hx);·split at hx;(·rw[aDe]at hx;split at hx;(·cases hx;exact .any _ aBd);·cases hx);·rw[FD,show c+n+(j-(c+n))=j from by omega]at hx;exact old hx);obtain⟨E1,h2,hst,hl,lO⟩:=hB.jU ha (by omega) (λc' a1 a2 p' R' hp hb x hx y hy=>by cases hr:nM (sub q c') y with|false=>rfl|true=>obtain⟨c2,hc2,e2,hx2⟩:=hB.RQ hp hb hx hy hr;obtain⟨e3,e4⟩:=UW (by omega) hc2 e2;subst e3;subst e4;simp[St.bj]at hp;subst hp;rw[aT]at hx;subst hx;rw[hbc,aea]at hx2;simp only[cO,LQ]at hx2;rw[acK (by omega),aP (by omega),aQ (by omega),aDe,aQ (by omega)]at hx2;cases hx2;cases hr)
     (have hqS:¬∃c',c+0<=c'/\c'<c+0+n/\q=sub q c':=λ⟨c',_,_,e⟩=>by have:=YF q c';omega);have hq1:st1.r q=ai ⟨aB,Rz,[blank e c n]⟩:=hst.b q _ hqS (by simp[St.bj]) rfl;have yY:E1.ρ q=ai (b,o0):=(hst.ρ q hqS).trans hρ;(have aBd:∀u∈(a.eval v).cells.toList,u.oneCell'=aB:=λu hu=>by obtain⟨j,hj⟩:=fO.1 hu;(have hjl:j<ae cs:=by rw[hl,<-Aq];(rcases bL j (a.eval v).cells.size with h'|h');(·exact h');·simp[h']at hj);obtain⟨u',hu',Ao⟩:=lO j cs[j] (by simp);simp only[evG,aK,dL]at hu';(have:u'=u:=by(have h5:(a.eval v).cells.toList[j]? =(a.eval v).cells[j]? :=by simp);rw[h5,hu']at hj;exact cA hj);subst this;exact Value.one_cell Ao.one);have h3:=h2.azk;have aSo:=h3.roots q _ hq1;unfold Jf;cases aSo with|box b1 o1 z x vs Me hz dE hl2 hh hv1 qP=>rw[yY]at Me;cases Me;(have hi0:o0+0*Rz+c=o0+c:=by omega);rw[run Aq aBd qP (by omega),aIL,hi0];(have LC:(gh e (e.cells.take c++cs++e.cells.drop (c+n))).cells=e.cells.take c++cs++e.cells.drop (c+n):=by refine mn (by simp;omega) λy hy l=> ?_;(rcases bt.1 hy with hy|hy);(·(rcases bt.1 hy with hy|hy);(·exact aKS y (jO hy) l);·obtain⟨j,hj⟩:=fO.1 hy;obtain⟨u',hu',Ao⟩:=lO j y hj;exact Ao.asH l);·exact aKS y (dk hy) l);(have Gy:(a.eval v).cells.toList.length=n:=by simpa using Aq);(have aOl:ae vs=ae e.cells:=by rw[hl2,aDY]);have h4:=h3.arN (b:=b) (o:=o0) (o':=o0+c) (R':=⟨aB,Rz,[gh e (e.cells.take c++cs++e.cells.drop (c+n))]⟩) (news:=(a.eval v).cells.toList) hq1 yY ⟨rfl,rfl,rfl⟩ (λW=>by have hwr:=dw.write (news:=(a.eval v).cells.toList) (c:=c) hv1 (by rw[aOl,<-hzl];exact qP) (by rw[Gy,aOl];exact hce);refine .box b o0 Rz _ _ yY (by rw[LC];simp;omega) dE (by rw[LC];simp;omega) (λj u x hu hx=> ?_) hwr (W.room _ qP);rw[LC,aea]at hx;rw[aea]at hu;simp only[cO]at hx hu;rw[acK (by omega)]at hx hu;rw[Gy]at hu;rw[hl]at hx;(have old:∀{x},vs[j]? =ai u->e.cells[j]? =ai x->(j<c\/c+n<=j)->fT φ E1 st1.r w q j u x:=λ{x} h5 h6 h7=>by refine hh j u x h5 ?_;rw[hbc,aea];simp only[cO,LQ];rw[acK (by omega)];(rcases h7 with h7|h7);(·rw[aQ h7,sq,aQ h7];exact h6);·rw[aP (by omega),aP (by omega),FD,show c+n+(j-(c+n))=j from by omega];exact h6);split at hx;(·rename_i h5;rw[aQ h5]at hu;rw[sq,aQ h5]at hx hu;exact(old hu hx (.inl h5)).write W);·rename_i h5;rw[aP h5]at hu;split at hx;(·rename_i h6;rw[aQ h6]at hu;obtain⟨u',hu',Ao⟩:=lO (j-c) x hx;simp only[evG,aK,dL]at hu';(have:u'=u:=by(have h5:(a.eval v).cells.toList[j-c]? =(a.eval v).cells[j-c]? :=by simp);rw[h5,hu']at hu;exact cA hu);subst this;rw[show c+0+(j-c)=j from by omega]at Ao;exact Ao.write W);·rename_i h6;rw[aP h6]at hu;rw[FD,show c+n+(j-(c+n))=j from by omega]at hx hu;exact(old hu hx (.inr (by omega))).write W);have h5:oR φ w0 L E1 ((st1.iW gs .any).bj q (ai ⟨aB,Rz,[gh e (e.cells.take c++cs++e.cells.drop (c+n))]⟩)) a _:=⟨h4,h.Gc⟩;exact hn E1 _ _ (h5.iW hd (.one _ _ (.any _)) ((LK.scalar Et).tok h5))
    .cases he
   .rename_i i _ _ _ hb _;obtain⟨⟨v0,st1⟩,hp,he⟩:=aI.1 he;simp only at he;(split at he<;>(try(cases he;done)));rename_i aSA;obtain⟨R1,hR1,he⟩:=aI.1 he;obtain⟨e,hei,he⟩:=aI.1 he;obtain⟨cs,oz,he⟩:=aM.1 he;subst he;obtain⟨E1,h1,hρe,hst,Dx,hpc⟩:=h.todC.pin hv.1 hv.2 hp;(have hRR:R1=R:=by(rcases hst.r q id with h2|h2);(·rw[h2,hR]at hR1;exact(cA hR1).symm);·rw[h2]at hR1;cases hR1);subst hRR;(have yY:E1.ρ q=ai (b,o0):=by rw[hρe];exact hρ);have hro:=h1.roots q _ hR1;unfold setCells at oz;split at oz;·rename_i wi;simp only[aC]at oz;subst oz;unfold Jf;cases hro with|empty z h=>simp at hei|box=>cases hb|sl b1 o1 z xs vs Me hz hh hv1 qP=>rw[yY]at Me;cases Me;simp only at hei run hn;have Ao:=Dx.cells;have hez:ae e.cells=z:=hz e (cq hei);(have hvn:ae v0.cells=(a.eval v).cells.size:=by have:=Ao.length;simpa using this.symm);(have hi:i<ae xs:=by(rcases bL i (ae xs)with h|h);(·exact h);·simp[bU h]at hei);(have hiz:i*z+z<=ae xs*z:=by have:=dh z (show i+1<=ae xs from hi);rw[eK]at this;exact this);have hfl:=ke hz;(have hvs:ae vs=ae xs*z:=by rw[<-hfl];exact hh.length);(have aBd:∀u∈(a.eval v).cells.toList,u.oneCell'=aB:=λu hu=>by obtain⟨j,hj⟩:=fO.1 hu;obtain⟨x,hx,hr⟩:=Ao.aDS hj;exact Value.one_cell (hr.Ul (M8 (bz.1 hpc x (cq hx)))));(have Aq:(a.eval v).cells.size=n:=by rw[<-hvn];exact aSA);(have Gy:(a.eval v).cells.toList.length=n:=by simpa using Aq);rw[run Aq aBd qP (by omega),aIL];(have LC:(gh e (e.cells.take c++v0.cells++e.cells.drop (c+ae v0.cells))).cells=e.cells.take c++v0.cells++e.cells.drop (c+ae v0.cells):=by by_cases hx:∃l,e=.agg l;(·obtain⟨l,rfl⟩:=hx;rfl);·have TL:∀l,e≠ .agg l:=λl h=>hx ⟨l,h⟩;refine mn (by simp;omega) λy hy l=> ?_;have hec:=A.Ly TL;(rcases bt.1 hy with hy|hy);(·(rcases bt.1 hy with hy|hy);(·have:=jO hy;rw[hec,aT]at this;subst this;exact TL l);·exact M8 (bz.1 hpc y hy) l);·have:=dk hy;rw[hec,aT]at this;subst this;exact TL l);have hfc:=aA0 hz (e':=gh e (e.cells.take c++v0.cells++e.cells.drop (c+ae v0.cells))) hei (by omega) LC;have h4:=h1.arN (b:=b) (o:=o0) (o':=o0+i*z+c) (R':=⟨aA,z,xs.set i (gh e (e.cells.take c++v0.cells++e.cells.drop (c+ae v0.cells)))⟩) (news:=(a.eval v).cells.toList) hR1 yY ⟨rfl,rfl,by simp⟩ (λW=>by have hwr:=dw.write (news:=(a.eval v).cells.toList) (c:=i*z+c) hv1 (by rw[hvs];exact qP) (by rw[Gy,hvs];omega);rw[<-jS]at hwr;refine .sl b o0 z _ _ yY (λx hx=> ?_) ?_ hwr (by simpa using W.room _ qP);(·(rcases WE hx with h'|rfl);(·exact hz x h');·rw[LC];simp;omega);·rw[hfc,Gy];refine W.ahn (((hh.take _).append Ao).append ?_);rw[show i*z+c+ae v0.cells=i*z+c+n from by omega];exact hh.drop _);have h5:oR φ w0 L E1 (st1.bj q (ai ⟨aA,z,xs.set i (gh e (e.cells.take c++v0.cells++e.cells.drop (c+ae v0.cells)))⟩)) a _:=⟨h4,h.Gc⟩;exact hn E1 _ _ (h5.iW hd (.one _ _ (.any _)) ((LK.scalar Et).tok h5))
    .cases oz
   .cases he
  .cases he
 .cases he
end
end
end Go.Ab
namespace Go.Ab
section
variable {P:bV} {φ:ax->ax} {w0:aU} {L:nU} {E E':Env} {st st':St} {ev ev':ax->aL} {w w':aU} {r r':ax->aq eO} {a:alk}
def am5{x:A}(h:avp x=aB)(l:ah A):x≠ .agg l:=by rintro rfl;simp[avp]at h
def aLv{z:ax}{tx e':bO}(hk:P.underlying tx=ai (.slice e')){u:aL}{ys:ah A}{ad:aq afQ}{cap:ax}(hu:u=.slice ad (ae ys) cap) (hc:ys=[]\/∃b o vs,ad=ai ⟨b,o,au⟩/\dp φ w E.ok vs (ys.flatMap A.cells)/\dw w b o vs/\∀y∈ys,ae y.cells=z) (hf:ys.all Vf=aB): ∃news,Src P z tx u (ae ys) news w/\dp φ w E.ok news (ys.flatMap A.cells)/\∀y∈ys,ae y.cells=z:=by
 subst hu;rcases hc with rfl|⟨b,o,vs,rfl,h1,h2,h3⟩
 .refine⟨[],?_,.nil,λy hy=>by cases hy⟩;cases ad with|none=>exact Src.ofNil w hk cap|some ad=>exact aGM w hk ad 0 cap [] (by simp) (λj u h=>by simp at h) (λu h=>by cases h)
 .have hl:=h1.length;rw[ke h3]at hl;refine⟨vs,aGM w hk ⟨b,o,au⟩ (ae ys) cap vs hl (λj u hj=>by rw[World.nf];exact h2 j u hj) (λu hu=> ?_),h1,h3⟩;obtain⟨j,hj⟩:=fO.1 hu;obtain⟨x,hx,hr⟩:=h1.aDS hj;obtain⟨y,hy,hxy⟩:=wT.1 (cq hx);have:=bz.1 hf y hy;exact Value.one_cell (hr.Ul (am5 (bz.1 this x hxy)))
def abM{k z:ax}{ad:aq afQ}(k' b:ax):¬Tk (.slice ad 0 0) (.tok k z []) k' b:=by intro h;cases h with|one _ _ _ _ h=>cases h;contradiction
def aDz(h0:oR φ w0 L E st a w){v u:aL}{z:ax}{xs ys:ah A}{ob:aq ax}(hO:eL φ w E.ok v z xs ob)(hF:∀b,ob=ai b->jZ w0 L E st (λi=>a.eval (.tmp i)) w b) {t tx ty e e':bO} (ht:P.underlying t=ai (.slice e)) (hk:P.underlying tx=ai (.slice e')) {i:WJ} (hi:P.info? e=ai i) (hz:i.size=z) {zv:aL} (hzv:i.zero=ai zv) (hzs:zv.cells.size=z) (hb:i.bytes<=128) (fm:ae xs+ae ys<lim) {ad:aq afQ} {cap:ax} (hu:u=.slice ad (ae ys) cap) (hc:ys=[]\/∃b o vs,ad=ai ⟨b,o,au⟩/\dp φ w E.ok vs (ys.flatMap A.cells)/\dw w b o vs/\∀y∈ys,ae y.cells=z) (hf:ys.all Vf=aB) (k:ax): ∃v' w',(fH #[t,tx] ty #[v,u]).run P w=.ok v' w'/\oR φ w0 L E st a w'/\RV φ E st.r w' v' (.tok k z (xs++ys))/\WM w0 L E st a w' v' (.tok k z (xs++ys)):=by
 obtain⟨news,hs,hnr,hyz⟩:=aLv (z:=z) hk hu hc hf;have aUB:ae xs+ae ys<1099511627776:=by simpa[lim]using fm
 have aD5:∀c,c<ae xs+ae ys->atZ (ae xs+ae ys) c*i.bytes<=281474976710656:=λc hc=> aJ5 hc (by have:=afU (show ae xs+ae ys<=1099511627776 by omega) hb;omega);have Gy:ae news=ae ys*z:=by have:=hnr.length;rwa[ke hyz]at this
 have grow:∀{base:aq afQ} {c:ax} {asR:ah aL},v=.slice base (ae xs) c->c<ae xs+ae ys->(uo i.size (ae xs) (.slice base (ae xs) c)).run P w.drew=.ok asR.toArray w.drew-> dp φ w E.ok asR (xs.flatMap A.cells)->(∀y∈xs,ae y.cells=z)-> ∃v' w',(fH #[t,tx] ty #[v,u]).run P w=.ok v' w'/\oR φ w0 L E st a w'/\RV φ E st.r w' v' (.tok k z (xs++ys))/\WM w0 L E st a w' v' (.tok k z (xs++ys)):=by intro base c asR hv dE adu hor hxz;subst hv;subst hz;have jn:=run_append_grow_src (P:=P) w t tx ty e i zv ht hi hzv base (ae xs) c asR adu u (ae ys) news hs dE (by omega) (aD5 c dE);(have hol:ae asR=ae xs*i.size:=by have:=hor.length;rwa[ke hxz]at this);have hge:=grownCap_ge w (ae xs+ae ys) c e;have hh:(w.drew.alloc (.cells ((asR++news).toArray++cG zv.cells (rP w (ae xs+ae ys) c e-(ae xs+ae ys))) e)).heap= w.heap.push (.cells ((asR++news).toArray++cG zv.cells (rP w (ae xs+ae ys) c e-(ae xs+ae ys))) e):=rfl;have hcp:=uw hh;(have htl:((asR++news).toArray++cG zv.cells (rP w (ae xs+ae ys) c e-(ae xs+ae ys))).toList=(asR++news)++(cG zv.cells (rP w (ae xs+ae ys) c e-(ae xs+ae ys))).toList:=by simp);rw[htl]at hcp;have Oq:=asI (k:=k) (z:=i.size) (cap:=rP w (ae xs+ae ys) c e) (xs:=xs++ys) h0 hh ⟨rfl,rfl⟩ (λy hy=>(bt.1 hy).elim (hxz y) (hyz y)) (by rw[RH];exact hor.append hnr) hcp.left (by simpa using hge) (by simp only[Tu,aqk,bg,aDd,hzs,hol,Gy];rw[<-V3,<-V3];exact dh _ (by omega));rw[bg]at Oq;exact⟨_,_,jn,h0.ext (L9 hh ⟨rfl,rfl⟩) (.refl E w _),Oq.1,Oq.2⟩
 cases hO with|empty ad0 z=>(by_cases hy0:ys=[];(·subst hy0;have hn0:news=[]:=fQ (by simpa using Gy);subst hn0;refine⟨.slice ad0 0 0,w,?_,h0,.one _ _ (.Ls _ _ _),⟨λk b h=>(abM _ _ h).elim,λi k k' b b' h=>(abM _ _ h).elim,λk k' b b' h=>(abM _ _ h).elim⟩⟩;have hsc:∀A:afQ,(storeCells A ([]:ah aL)).run P w=.ok () w:=λA=>rfl;(have oz:(uo i.size 0 u).run P w=.ok #[] w:=by rw[hz];exact hs.cells);have hln:=hs.len;rcases hs.kind with ⟨e2,hk2⟩|hk2<;>cases ad0<;> simp[fH,jN ht,jN hk2,sizeOf,typeInfo,hi,hln,oz,hsc]);·refine grow rfl (by have:=U9.2 hy0;simp;omega) ?_ .nil (λy hy=>by cases hy);cases ad0 with|none=>exact run_firstCells_none w.drew i.size 0 0 0|some ad0=>exact Ak w.drew i.size 0 ad0 0 0 [] (by simp) (λj u h=>by simp at h))|mk b o c z xs vs ajb hc0 hxz hxr hxv qP=>(have hvl:ae vs=ae xs*z:=by have:=hxr.length;rwa[ke hxz]at this);by_cases gM:ae xs+ae ys<=c;(·(have wi:ae xs*z+ae ys*z<=c*z:=by rw[<-V3];exact dh _ gM);subst hz;have asp:∀j,j<ae news->(w.cell? ⟨b,o+ae xs*i.size+j,au⟩).isSome=aB/\w.frozen? ⟨b,o+ae xs*i.size+j,au⟩=aA:=λj hj=>qP.cell (by omega);have jn:=run_append_room_src (P:=P) w t tx ty e i ht hi b o (ae xs) c u (ae ys) news hs gM (λj hj=>(asp j hj).1) (λj hj=>(asp j hj).2);have hFb:=hF b rfl;have W:Wr w0 L E st.r st.r w (w.setCells b (o+ae xs*i.size) news) b:=Wr.cells hFb.z.1 hFb.z.2.1 λq R' h=>⟨R',h,rfl,rfl,rfl⟩;have h1:=h0.todC.write W (λi k ht=>hFb.t i k b ht rfl) λq R' hq=>.inl ⟨hq,λo' hρ=>hFb.r q b o' (by rw[hq];rfl) hρ rfl⟩;have Aq:=W.size;(have j7:dw (w.setCells b (o+ae xs*i.size) news) b o (vs++news):=by refine dw.append (λj v hj=> ?_) (λj v hj=> ?_);(·(have hjl:j<ae vs:=by(rcases bL j (ae vs)with h|h);(·exact h);·simp[bU h]at hj);rw[TC b news _ w ⟨b,o+j,au⟩ (λ_ _=>.inl (by simp;omega))];exact hxv j v hj);·(have hjl:j<ae news:=by(rcases bL j (ae news)with h|h);(·exact h);·simp[bU h]at hj);rw[hvl,awG b news (o+ae xs*i.size) w (λj hj=>(asp j hj).1) j hjl,<-hj];simp);have hrv:=lL.tok (φ:=φ) (E:=E) (r:=st.r) (w:=w.setCells b (o+ae xs*i.size) news) b o c k i.size (xs++ys) (vs++news) (by simpa using gM) hc0 (λy hy=>(bt.1 hy).elim (hxz y) (hyz y)) (by rw[RH];exact W.ahn (hxr.append hnr)) j7 (W.room _ qP);rw[bg]at hrv;(have htb:∀k' b',Tk (.slice (ai ⟨b,o,au⟩) (ae xs+ae ys) c) (.tok k i.size (xs++ys)) k' b'->b'=b/\k'=k:=by intro k' b' h;cases h with|one _ _ _ _ h=>cases h;exact⟨rfl,rfl⟩);refine⟨_,_,jn,⟨h1,h0.Gc⟩,.one _ _ hrv,⟨λk' b' h=> ?_,λi' k1 k2 b1 b2 h h' _=> ?_,λk1 k2 b1 b2 h h' iS=> ?_⟩⟩;(·obtain⟨rfl,_⟩:=htb _ _ h;exact⟨⟨hFb.z.1,hFb.z.2.1,by rw[Aq];exact hFb.z.2.2⟩,hFb.r⟩);(·obtain⟨rfl,_⟩:=htb _ _ h;exactλe=>hFb.t i' k2 b2 h' e.symm);·exact bG ((htb _ _ h).2.trans (htb _ _ h').2.symm) iS);·refine grow rfl (by omega) ?_ hxr hxz;exact Ak w.drew i.size (ae xs) ⟨b,o,au⟩ (ae xs) c vs (by rw[hvl,hz]) (λj u hj=>by rw[World.nf];exact hxv j u hj)
section
variable {o:Zp} {next:alk->aU->Prop} {Q:Exit->alk->aU->Prop} {cf:CF} {io:ax->ah aW}
def aO3(h:oR φ w0 L E st a w){s x:ej}{s' x':dI}{t u e e2:bO}{z bytes:ax}(ho:o.op=.call ⟨.builtin .append,#[s,x],#[t,u]⟩)(hs:db φ s s'=aB)(hx:db φ x x'=aB) (ht:P.underlying t=ai (.slice e)) (hk:P.underlying u=ai (.slice e2)) {i:WJ} (hi:P.info? e=ai i) (hz:i.size=z) (hby:i.bytes=bytes) {zv:aL} (hzv:i.zero=ai zv) (hzs:zv.cells.size=z) (hd:∀i,o.dst=ai i->i<a.tmps.size) (he:eN cf io o.dst st (.app z bytes s' x')=ai st') (hn:∀E' v w',oR φ w0 L E' st' (a.put o.dst v) w'->next (a.put o.dst v) w'):o.wp P a w next Q:=by
 have hsv:=eM h hs;have hxv:=eM h hx;simp only[eN]at he;split at he;·cases he
 .rename_i d axx;obtain⟨⟨z2,ys⟩,hel,he⟩:=aI.1 he;simp only at he;obtain⟨ad,cap,hu,ajb,Mc⟩:=auz h.roots hxv.1 hel;have fin:∀{st0:St} {xs:ah A} {ob:aq ax},dC φ w0 L E st0 (λi=>a.eval (.tmp i)) w->eL φ w E.ok (a.eval s) z xs ob->(∀b,ob=ai b->jZ w0 L E st0 (λi=>a.eval (.tmp i)) w b)-> z2=z->ae xs+ae ys<lim->bytes<=128->ys.all Vf=aB->st'=st0.put (ai d) (.tok (8*d) z (xs++ys))->o.wp P a w next Q:=by intro st0 xs ob h0 hO hF hz2 hl hb hf hst;subst hz2;obtain⟨v',w',jn,h1,h2,h3⟩:=aDz (ty:=o.type) ⟨h0,h.Gc⟩ hO hF ht hk hi hz hzv hzs (by rw[hby];exact hb) hl hu Mc hf (8*d);(have hex:(gS a.eval o).run P w=.ok (.value v') w':=by simp[gS,ho,resolve,invoke,builtin,jn]);unfold Jf;rw[hex,xw];refine hn E v' w' ?_;rw[hst,axx];exact h1.put (hd d axx) h2 h3
  split at he;·rename_i k z1 xs e1;split at he;(·rename_i gF;obtain⟨hz1,hz2,hl,hb,hf⟩:=gF;simp only[aC]at he;rw[e1]at hsv;subst hz1;have hkt:=h.todC.eW k;obtain⟨aEr,aHt⟩:=hsv;generalize hev:a.eval s=sv at aEr aHt;cases aEr.Zh with|data _ _ h=>cases h|Ls ad0=>exact fin hkt (by rw[hev];exact .empty ad0 z1) (λb e=>by cases e) hz2 hl hb hf he.symm|tok b o0 c k z1 xs vs LC h0 Qz hh rW qP=>obtain⟨i0,hi0⟩:=aHt k b (.one _ _ _ _ (.mk ⟨b,o0,au⟩ _ _ _ _ _ h0));have hf0:=h.tz i0 k b hi0;refine fin hkt (by rw[hev];exact .mk b o0 c z1 xs vs LC h0 Qz hh rW qP) (λb' e=> ?_) hz2 hl hb hf he.symm;cases e;refine⟨hf0.1,hf0.2,λi' k' b' a1=> ?_⟩;have h3:=Tk.gn (Ma k) a1;exact h.td i' i0 k' k b' b h3.1 hi0 h3.2);·cases he
  .rename_i z1 e1;split at he;(·rename_i gF;obtain⟨hz1,hz2,hl,hb,hf⟩:=gF;simp only[aC]at he;rw[e1]at hsv;exact fin h.todC (xs:=[]) (by rw[hsv.1.SN];exact .empty au z) (λb e=>by cases e) hz2 (by simpa using hl) hb hf he.symm);·cases he
  .rename_i q off n e1;obtain⟨R,hR,he⟩:=aI.1 he;split at he;(·rename_i gF;obtain⟨hz1,hz2,hl,hb,hf⟩:=gF;simp only[aC]at he;rw[e1]at hsv;subst hz1;have hkq:=(h.todC.kill q).YM q;obtain⟨aEr,aHt⟩:=hsv;generalize hev:a.eval s=sv at aEr aHt;cases aEr.FB with|data _ _ h=>cases h|pz _ _ _ _ h1=>rw[h1]at hR;cases hR|pP ad0 q off R' h1 hb' hn'=>rw[LS]at he;exact fin hkq (xs:=[]) (by rw[hev];exact .empty ad0 _) (λb e=>by cases e) hz2 (by simpa using hl) hb hf he.symm|view b o0 c q off n R' h1 hb' hn' LC h0 hρ qP=>rw[h1]at hR;cases hR;(have eJ:ae ((R.xs.drop off).take n)=n:=by simp;omega);have hf0:=h.rz q b o0 (by rw[h1];rfl) hρ;(have Vh:jZ w0 L E ((st.kill q).bj q au) (λi=>a.eval (.tmp i)) w b:=by refine⟨hf0,λq' b' o' a1 a2=> ?_,λi k b' a1=> ?_⟩;(·simp only[St.bj]at a1;split at a1;(·cases a1);·rename_i iS;exact h.inj q' q b' o' b o0 a1 (by rw[h1];rfl) a2 hρ iS);·have h3:=Tk.gn (OT q) a1;exactλe=>(h.tz i k b' h3.1).2 q b o0 (by rw[h1];rfl) hρ e.symm);(have hO:eL φ w E.ok (a.eval s) R.z ((R.xs.drop off).take n) (ai b):=by cases h.roots q R h1 with|empty z hh=>rw[hh]at hρ;cases hρ|box=>cases hb'|sl b1 o1 z xs vs yY Qz hh rW aOa=>rw[hρ]at yY;cases yY;have:=eL.mk (φ:=φ) (w:=w) (K:=E.ok) b (o0+off*z) c z ((xs.drop off).take n) ((vs.drop (off*z)).take (n*z)) (by simp only at eJ;rw[eJ];exact LC) h0 (λy hy=>Qz y (dk (jO hy))) (by rw[Dc (λx hx=>Qz x (dk hx)),su Qz];exact(hh.drop _).take _) ((rW.drop _).take _) (by rw[V3,<-jS]at qP;exact qP);simp only at eJ;rw[eJ]at this;rw[hev];exact this);exact fin hkq hO (λb' e=>by cases e;exact Vh) hz2 (by rw[eJ];exact hl) hb hf he.symm);·cases he
  .cases he
end
end
end Go.Ab
namespace Go.Ab
section
variable {P:bV} {φ:ax->ax} {w0:aU} {L:nU} {E E':Env} {st st':St} {ev ev':ax->aL} {w w':aU} {r r':ax->aq eO} {a:alk}
variable {o:Zp} {next:alk->aU->Prop} {Q:Exit->alk->aU->Prop} {cf:CF} {io:ax->ah aW}
def aBO{z:ax}:∀(l:ah (ax×ej)) (m:ah (ax×dI)) (cells:kZ aL) (xs xs':ah A) (E:Env) (st st':St),oR φ w0 L E st a w->pW φ l m=aB->(∀x∈xs,ae x.cells=z)-> dp φ w E.ok cells.toList (xs.flatMap A.cells)->eN.Ve st z xs m=ai (xs',st')-> ∃jq E',afR (λi=>ai (i*z,z)) cells (l.map λp=>(p.1,a.eval p.2))=ai jq/\oR φ w0 L E' st' a w/\dp φ w E'.ok jq.toList (xs'.flatMap A.cells)/\(∀x∈xs',ae x.cells=z)/\ae xs'=ae xs:=by intro l;induction l with|nil=>(intro m cells xs xs' E st st' h hc hz hv hf;cases m with|nil=>simp[eN.Ve]at hf;obtain⟨rfl,rfl⟩:=hf;exact⟨cells,E,rfl,h,hv,hz,rfl⟩|cons=>simp[pW]at hc)|cons p l ih=>intro m cells xs xs' E st st' h hc hz hv hf;obtain⟨i,x⟩:=p;cases m with|nil=>simp[pW]at hc|cons q m=>obtain⟨j,y⟩:=q;simp only[pW,az,cS]at hc;obtain⟨⟨rfl,hx⟩,hc⟩:=hc;simp only[eN.Ve]at hf;obtain⟨⟨v,st1⟩,hd,hf⟩:=aI.1 hf;simp only at hf;split at hf;(·rename_i gF;obtain⟨hvz,dE⟩:=gF;have hop:=eM h hx;obtain⟨E1,h1,hρ,hst,Dx,_⟩:=h.todC.pin hop.1 hop.2 hd;have j7:=Dx.cells;(have Aq:(a.eval x).cells.size=z:=by have:=j7.length;simp at this;omega);have hfl:=ke hz;(have Ao:cells.size=ae xs*z:=by have:=hv.length;rw[hfl]at this;simpa using this);(have wi:i*z+z<=ae xs*z:=by have:(i+1)*z<=ae xs*z:=dh z dE;rw[eK]at this;exact this);obtain⟨jq,hc1,hc2⟩:=Q3 (place:=λi=>ai (i*z,z)) (cells:=cells) (i:=i) (v:=a.eval x) (rest:=l.map λp=>(p.1,a.eval p.2)) (by rw[Aq]) (by rw[Aq,Ao];exact wi);simp only[aY];rw[hc2];(have hz':∀y∈xs.set i v,ae y.cells=z:=by intro y hy;(rcases WE hy with h'|rfl);(·exact hz y h');·exact hvz);have rW:=hv.mono (w':=w) (ok':=E1.ok) (λ_ _=>rfl) hst.ok;obtain⟨c2,E2,a1,a2,a3,a4,a5⟩:=ih m jq (xs.set i v) xs' E1 st1 st' ⟨h1,h.Gc⟩ hc hz' (by rw[hc1,Aq,amd hz hvz dE];exact((rW.take _).append j7).append (rW.drop _)) hf;exact⟨c2,E2,a1,a2,a3,a4,by simpa using a5⟩);·cases hf
def aO6(h:oR φ w0 L E st a w){t e:bO}{n z:ax}{parts:kZ (ax×ej)}{zero:A}{ps:ah (ax×dI)}(ho:o.op=.buildSlice t n parts)(ht:P.underlying t=ai (.slice e))(hz:asa P e z zero=aB) (hc:pW φ parts.toList ps=aB) (hd:∀i,o.dst=ai i->i<a.tmps.size) (he:eN cf io o.dst st (.bsl z zero n ps)=ai st') (hn:∀E' v w',oR φ w0 L E' st' (a.put o.dst v) w'->next (a.put o.dst v) w'):o.wp P a w next Q:=by
 simp only[eN]at he;split at he
 .rename_i d axx;split at he;·rename_i gF;obtain⟨⟨xs,st1⟩,hf,rfl⟩:=aM.1 he;obtain⟨i,v,hi,Aq,ady,oz,hvz⟩:=YZ hz;(have auW:(madeCells v.cells (n*z)).toList=(bK n v.cells.toList).flatten:=by rw[<-hvz];exact se _ _);(have h0:dp φ w E.ok (madeCells v.cells (n*z)).toList ((bK n zero).flatMap A.cells):=by rw[auW];exact EI (Cx oz) n);obtain⟨jq,E1,h1,hS,h2,h3,h4⟩:=aBO parts.toList ps _ _ xs E st st1 h hc (λx hx=>by rw[V2 hx];exact gF.2) h0 hf;(have hxl:ae xs=n:=by simpa using h4);(have WX:(parts.map λp=>(p.1,a.eval p.2)).toList=parts.toList.map λp=>(p.1,a.eval p.2):=by simp);(have fm:¬n*z>16777216:=by omega);(have Ao:jq.size=n*z:=by have:=h2.length;rw[ke h3,hxl]at this;simpa using this);(have jn:(AR t n (parts.map λp=>(p.1,a.eval p.2))).run P w=.ok (.slice (ai ⟨w.heap.size,0,au⟩) n n) {w with heap:=w.heap.push (.cells jq e)}:=by(have e1:(sizeOf e).run P w=.ok z w:=by simp[sizeOf,typeInfo,hi,Aq]);(have hzv:(zeroValue e).run P w=.ok v w:=by simp[zeroValue,typeInfo,hi,ady]);by_cases hn:n*z=0;(·(have hm0:madeCells v.cells (n*z)= #[]:=by rw[hn];simp[madeCells,ai5]);rw[hm0]at h1;(have hm1:((aAo (n*z)).map ((#[]:kZ aL)[· %(#[]:kZ aL).size]!))= #[]:=by rw[hn];simp[ai5]);simp only[AR,eP,jN ht,cZ,e1,aGL,hn,aK,mg,WX,show¬(0>2^24)from by decide,aJ];simp only[hn]at hm1;simp only[hm1,h1];simp[newRow]);·simp only[AR,eP,jN ht,cZ,e1,fm,aGL,aJ,hn,hzv,mg,WX];have hm1:((aAo (n*z)).map (v.cells[· %v.cells.size]!))=madeCells v.cells (n*z):=rfl;simp only[hm1,h1];simp[newRow]);(have hex:(gS a.eval o).run P w=.ok (.value (.slice (ai ⟨w.heap.size,0,au⟩) n n)) {w with heap:=w.heap.push (.cells jq e)}:=by simp only[gS,ho,eP,jn,cZ,mg]);have hh:({w with heap:=w.heap.push (.cells jq e)}:aU).heap=w.heap.push (.cells jq e):=rfl;have Oq:=asI (k:=8*d) (cap:=n) hS hh ⟨rfl,rfl⟩ h3 h2 (uw hh) (by omega) (by rw[Ao];exact bx _);rw[hxl]at Oq;unfold Jf;rw[hex,xw];refine hn E1 _ _ ?_;rw[axx];exact(hS.ext (L9 hh ⟨rfl,rfl⟩) (.refl E1 w _)).put (hd d axx) Oq.1 Oq.2
  .cases he
 .cases he
end
end Go.Ab
namespace Go.Ab
section
variable {P:bV} {φ:ax->ax} {w0:aU} {L:nU} {E E':Env} {st st':St} {ev ev':ax->aL} {w w':aU} {r r':ax->aq eO} {a:alk}
structure Wm(w0:aU)(L:nU)(E E':Env)(r r':ax->aq eO)(w w':aU)(B:ax->Prop):Prop where
 same:∀b,b<w.heap.size->¬B b->w'.heap[b]? =w.heap[b]?
 size:w.heap.size<=w'.heap.size
 env:w'.os=w.os/\w'.output=w.output
 fr:∀b off,b<w.heap.size->w'.frozen? ⟨b,off,au⟩=w.frozen? ⟨b,off,au⟩
 room:∀{z:ax} b n,hZ z w b n->hZ z w' b n
 ρ:E'.ρ=E.ρ
 ok:∀b,E.ok b->E'.ok b
 new:∀b,E'.ok b->E.ok b\/(B b/\b<w'.heap.size)\/(w.heap.size<=b/\b<w'.heap.size)
 nok:∀b,B b->¬E.ok b
 aCp:∀b,B b->ac8 w0 L b
 sh:∀q R',r' q=ai R'->∃R,r q=ai R/\R'.b=R.b/\R'.z=R.z/\R'.xs.length=ae R.xs
section
variable {B:ax->Prop} (W:Wm w0 L E E' r r' w w' B) (hz:∀b,E.ok b->b<w.heap.size)
include W
def Wm.rep(hz:∀b,E.ok b->b<w.heap.size){v:aL}{x:A}(h:gY φ w E.ok v x):gY φ w' E'.ok v x:=h.mono (λb hk=>W.same b (hz b hk) λe=>W.nok b e hk) W.ok
def Wm.ahn(hz:∀b,E.ok b->b<w.heap.size){v:ah aL}{x:ah A}(h:dp φ w E.ok v x):dp φ w' E'.ok v x:=h.mono (λb hk=>W.same b (hz b hk) λe=>W.nok b e hk) W.ok
def Wm.Hf{q:ax}(hq:(r' q).isSome):(r q).isSome:=by obtain⟨R,hR⟩:=iM.1 hq;obtain⟨R1,h1,_⟩:=W.sh q R hR;rw[h1];rfl
def Wm.am9{q:ax}(hq:r q=au):r' q=au:=by cases e:r' q with|none=>rfl|some R=>have:=W.Hf (q:=q) (by rw[e];rfl);rw[hq]at this;cases this
def lL.back(hz:∀b,E.ok b->b<w.heap.size){v:aL}{x:A}(Oq:∀k b,RJ v x k b->¬B b)(h:lL φ E r w v x):lL φ E' r' w' v x:=by
 have FR:∀q R,r q=ai R->r' q=au\/∃R',r' q=ai R'/\R'.b=R.b/\R'.z=R.z/\R'.xs.length=ae R.xs:=λq R hq=>by cases e:r' q with|none=>exact .inl rfl|some R'=>obtain⟨R1,h1,h2⟩:=W.sh q R' e;rw[hq]at h1;cases h1;exact .inr ⟨R',rfl,h2⟩
 cases h with|any=>exact .any _|undef=>exact .undef|data _ _ h=>exact .data _ _ (W.rep hz h)|Ls=>exact .Ls _ _ _|tok b' o cap k z xs vs hc h0 Qz h hv qP=>have hb:¬B b':=Oq k b' (.mk ⟨b',o,au⟩ _ _ _ _ _ h0);exact .tok b' o cap k z xs vs hc h0 Qz (W.ahn hz h) (hv.of_block (W.same b' qP.lt hb)) (W.room _ _ qP)|pz _ q off n h=>exact .pz _ _ _ _ (W.am9 h)|pP ad q off R h hb hn=>(rcases FR q R h with h1|⟨R',h1,h2,h3,h4⟩);(·exact .pz _ _ _ _ h1);·exact .pP ad q off R' h1 (h2.trans hb) (h4▸hn)|view b' o cap q off n R h hb hn hc h0 hq qP=>(rcases FR q R h with h1|⟨R',h1,h2,h3,h4⟩);(·exact .pz _ _ _ _ h1);·rw[<-h3]at qP⊢;exact .view b' o cap q off n R' h1 (h2.trans hb) (h4▸hn) hc h0 (W.ρ▸hq) (W.room _ _ qP)|Uf _ q i c h=>exact .Uf _ _ _ _ (W.am9 h)|loc b' o q i c R h hq=>(rcases FR q R h with h1|⟨R',h1,h2,h3,h4⟩);(·exact .Uf _ _ _ _ h1);·rw[<-h3];exact .loc b' o q i c R' h1 (W.ρ▸hq)
def RV.back(hz:∀b,E.ok b->b<w.heap.size){v:aL}{x:A}(Oq:∀k b,Tk v x k b->¬B b)(h:RV φ E r w v x):RV φ E' r' w' v x:=by cases h with|one _ _ h=>exact .one _ _ (h.back W hz λk b ht=>Oq k b (.one _ _ _ _ ht))|xv vs xs h=>exact .xv vs xs ⟨h.1,λj v x hv hx=>(h.2 j v x hv hx).back W hz λk b ht=>Oq k b (.xv vs xs j k b v x hv hx ht)⟩|agg vs xs h=>exact .agg vs xs ⟨h.1,λj v x hv hx=>(h.2 j v x hv hx).back W hz λk b ht=>Oq k b (.agg vs xs j k b v x hv hx ht)⟩|fn f vs xs h hn=>refine .fn f vs xs ⟨h.1,λj v x hv hx=>(h.2 j v x hv hx).back W hz λk b ht=> ?_⟩ hn;have:=hn x (cq hx);cases ht;cases this
def fT.back(hz:∀b,E.ok b->b<w.heap.size){q c:ax}{v:aL}{x:A}(h:fT φ E r w q c v x):fT φ E' r' w' q c v x:=by cases h with|data _ h ha=>exact .data _ _ (W.rep hz h) ha|any h=>exact .any _ h|view off n hc h hv=>exact .view _ _ _ hc (h.back W hz λk b ht=>by cases ht) hv
end
def dC.back(h:dC φ w0 L E st ev w){B:ax->Prop}{r':ax->aq eO}(W:Wm w0 L E E' st.r r' w w' B)(htk:∀i k b,Tk (ev i) (st.t i) k b->¬B b)(hnk:∀q b o,(r' q).isSome->E.ρ q=ai (b,o)->B b->¬E'.ok b) (hr:∀q R',r' q=ai R'->(st.r q=ai R'/\∀b o,E.ρ q=ai (b,o)->¬B b)\/pS φ E' r' w' q R'):dC φ w0 L E' {st with r:=r'} ev w':=by
 have nok:∀b,¬E.ok b->b<w.heap.size->¬B b->¬E'.ok b:=λb h1 h2 hB h3=>by(rcases W.new b h3 with h4|h4|h4);(·exact h1 h4);(·exact hB h4.1);·omega
 exact{
  me:=λi=>(h.me i).back W h.okz (htk i)
  roots:=λq R' hq=>by
   rcases hr q R' hq with ⟨h1,h5⟩|h5
   .cases h.roots q R' h1 with
    |empty z h=>exact .empty z (W.ρ▸h)
    |sl b' o z xs vs hρ hz hh hv qP=>exact .sl b' o z xs vs (W.ρ▸hρ) hz (W.ahn h.okz hh) (hv.of_block (W.same _ qP.lt (h5 _ _ hρ))) (W.room _ _ qP)
    |box b' o z x vs hρ hz dE hl hh hv qP=>exact .box b' o z x vs (W.ρ▸hρ) hz dE hl (λc v a h1 h2=>(hh c v a h1 h2).back W h.okz) (hv.of_block (W.same _ qP.lt (h5 _ _ hρ))) (W.room _ _ qP)
   .exact h5
  inj:=λq q' b o b' o' a1 a2 a3 a4=>h.inj q q' b o b' o' (W.Hf a1) (W.Hf a2) (W.ρ▸a3) (W.ρ▸a4)
  rz:=λq b o a1 a2=>by
   have:=h.rz q b o (W.Hf a1) (W.ρ▸a2)
   refine⟨λhk=> ?_,this.2.1,bX this.2.2 W.size⟩
   by_cases hB:B b
   .exact hnk q b o a1 (W.ρ▸a2) hB hk
   .exact nok b this.1 this.2.2 hB hk
  tz:=λi k b a1=>by
   have:=h.tz i k b a1
   exact⟨⟨nok b this.1.1 this.1.2.2 (htk i k b a1),this.1.2.1,bX this.1.2.2 W.size⟩,λq b' o a2 a3=>this.2 q b' o (W.Hf a2) (W.ρ▸a3)⟩
  td:=h.td
  okz:=λb hk=>by
   rcases W.new b hk with h1|h1|h1
   .exact bX (h.okz b h1) W.size
   .exact h1.2
   .exact h1.2
  grow:=dQ h.grow W.size
  frame:=λb h1 h2=>by
   have hb:¬B b:=λhb=>(W.aCp b hb).elim (λh3=>by omega) h2
   exact(W.same b (bX h1 h.grow) hb).trans (h.frame b h1 h2)
  env:=⟨W.env.1.trans h.env.1,W.env.2.trans h.env.2⟩
  fr:=λb off hb=>(W.fr b off (bX hb h.grow)).trans (h.fr b off hb)
  room:=λb n hr=>W.room b n (h.room b n hr)
  ZO:=λi p a1 a2=>by rw[W.ρ];exact h.ZO i p a1 (W.Hf a2)
  okU:=λb hb=>W.ok b (h.okU b hb)
  okL:=λb hk=>by
   rcases W.new b hk with h1|h1|h1
   .exact h.okL b h1
   .exact .inr (W.aCp b h1.1)
   .exact .inr (.inl (dQ h.grow h1.1))}
def eL.one{K:ax->Prop}{v:aL}{z:ax}{xs:ah A}{b:aq ax}(h:eL φ w K v z xs b):(∀cs,v≠ .agg cs)/\(∀vs,v≠ .tuple vs):=by cases h<;>exact⟨(λ_ h=>by cases h),(λ_ h=>by cases h)⟩
def BB.one{K:ax->Prop}{v:aL}{x:A}{b:aq ax}(h:BB φ w K v x b):(∀cs,v≠ .agg cs)/\(∀vs,v≠ .tuple vs):=by cases h with|data _ h ha=>exact h.Ul ha|own z xs _ h=>exact h.one
def BB.asH{K:ax->Prop}{v:aL}{x:A}{b:aq ax}(h:BB φ w K v x b)(l:ah A):x≠ .agg l:=by cases h with|data _ h ha=>exact ha l|own=>exactλe=>by cases e
def dK.length{K:ax->Prop}:∀{vs:ah aL} {xs:ah A} {bs:ah ax},dK φ w K vs xs bs->vs.length=xs.length |_,_,_,.nil=>rfl |_,_,_,.cons _ _ _ _ _ _ _ t=>wE (· +1) t.length
def dK.get{K:ax->Prop}:∀{vs:ah aL} {xs:ah A} {bs:ah ax},dK φ w K vs xs bs->∀{j:ax} {v:aL} {x:A},vs[j]? =ai v->xs[j]? =ai x->∃b,BB φ w K v x b
 |_,_,_,.nil,j,_,_,h,_=>by simp at h
 |_,_,_,.cons _ _ _ _ _ _ h t,0,v,x,hv,hx=>by simp at hv hx;subst hv;subst hx;exact⟨_,h⟩
 |_,_,_,.cons _ _ _ _ _ _ h t,j+1,v,x,hv,hx=>t.get (by simpa using hv) (by simpa using hx)
def dC.az2(h:dC φ w0 L E st ev w){v:aL}{z:ax}{xs:ah A}{ob:aq ax}(hv:eL φ w E.ok v z xs ob)(hF:∀b,ob=ai b->jZ w0 L E st ev w b){q:ax}(Md:L.pl q=au\/∃b o n cap,v=.slice (ai ⟨b,o,au⟩) n cap/\cap≠0/\L.pl q=ai (b,o)) (hc:∀p' R',st.r p'=ai R'->R'.b=aB->∀x∈R'.xs,∀y∈x.cells,nM q y=aA): ∃E',dC φ w0 L E' ((st.kill q).bj q (ai ⟨aA,z,xs⟩)) ev w/\Step (· =q) E st E' ((st.kill q).bj q (ai ⟨aA,z,xs⟩))/\E'.ok=E.ok/\ lL φ E' ((st.kill q).bj q (ai ⟨aA,z,xs⟩)).r w v (.view q 0 (ae xs))/\∀b,ob≠ai b->jZ w0 L E st ev w b->jZ w0 L E' ((st.kill q).bj q (ai ⟨aA,z,xs⟩)) ev w b:=by
 have h1:=((h.kill q).YM q);rw[<-Bc];have hn:∀i,refs q (((st.kill q).bj q au).t i)=aA:=λi=>LH q _;have hq0:(((st.kill q).bj q au).r q)=au:=by simp[St.bj]
 have hc':∀p' R',((st.kill q).bj q au).r p'=ai R'->R'.b=aB->∀x∈R'.xs,∀y∈x.cells,nM q y=aA:=λp' R' hp hb=>by simp only[St.bj]at hp;split at hp;(·cases hp);·exact hc p' R' hp hb
 have step:∀p,Step (· =q) E st ⟨E.ok,λi=>if i=q then p else E.ρ i⟩ (((st.kill q).bj q au).bj q (ai ⟨aA,z,xs⟩)):=λp=>by refine⟨λ_ h=>h,λp' hp=>aP hp,λp' hp=>.inl ?_,λp' R hp hR _=> ?_,λp' R hp hR=>.inl ?_⟩;(·simp[St.bj,St.kill,St.map,hp]);(·simpa[St.bj,St.kill,St.map,hp]using hR);·simp[St.bj,hp]at hR;rw[<-hR]
 have amg:∀(p:aq (ax×ax)) b,(∀o,p≠ai (b,o))->jZ w0 L E st ev w b->jZ w0 L ⟨E.ok,λi=>if i=q then p else E.ρ i⟩ (((st.kill q).bj q au).bj q (ai ⟨aA,z,xs⟩)) ev w b:=by intro p b iS hf;refine⟨hf.z,λq' b' o' a1 a2 e=> ?_,λi k b' a1=>hf.t i k b' (Tk.gn (OT q) a1).1⟩;subst e;by_cases e:q'=q;(·simp[e]at a2;exact iS _ a2);·simp[e]at a2;exact hf.r q' b' o' (by simpa[St.bj,St.kill,St.map,e]using a1) a2 rfl
 cases hv with|empty ad z=>refine⟨_,h1.root (p:=au) (R:=⟨aA,z,[]⟩) hq0 hn hc' (λb o e=>by cases e) (λp' e=>by(rcases Md with h1|⟨b,o,n,cap,h1,h2,h3⟩);(·rw[h1]at e;cases e);·simp only[Cv]at h1;exact bG h1.2.2.symm h2) (.empty z (by simp)),step au,rfl,?_,λb _ hf=>amg au b (λo e=>by cases e) hf⟩;exact .pP ad q 0 ⟨aA,z,[]⟩ (by simp[St.bj]) rfl (jJ _)|mk b o cap z xs vs LC h0 hz hh rW qP=>have hf:=hF b rfl;refine⟨_,h1.root (p:=ai (b,o)) (R:=⟨aA,z,xs⟩) hq0 hn hc' (λb' o' e=> ?_) (λp' e=>by(rcases Md with h1|⟨b2,o2,n2,aQk,h1,h2,h3⟩);(·rw[h1]at e;cases e);·simp only[Cv,aC,apa]at h1;rw[h3]at e;rw[h1.1.1,h1.1.2.1];exact e) (.sl b o z xs vs (by simp) hz hh rW (qP.le ?_)),step _,rfl,?_,λb' iS hf'=>amg _ b' (λo' e=>iS (by cases e;rfl)) hf'⟩;(·cases e;refine⟨hf.z,λq' b' o' a1 a2=>hf.r q' b' o' ?_ a2,λi' k' b' a1=>hf.t i' k' b' (Tk.gn (OT q) a1).1⟩;simp only[St.bj]at a1;split at a1;(·cases a1);·exact a1);(·have:=dh z LC;omega);·have:=lL.view (φ:=φ) (E:=⟨E.ok,λi=>if i=q then ai (b,o)else E.ρ i⟩) (r:=(((st.kill q).bj q au).bj q (ai ⟨aA,z,xs⟩)).r) (w:=w) b o cap q 0 (ae xs) ⟨aA,z,xs⟩ (by simp[St.bj]) rfl (by simp) LC h0 (by simp) (by simpa using qP);simpa using this
def dC.Ob{q:ax}:∀{vs:ah aL} {xs:ah A} {bs:ah ax} {c:ax} {E:Env} {st:St} {ys:ah A} {st1:St} (h:dC φ w0 L E st ev w) (ha:Ab.Ob q c st xs=ai (ys,st1)) (hv:dK φ w E.ok vs xs bs) (Jg:bs.Nodup) (hF:∀b∈bs,jZ w0 L E st ev w b) (dE:c+ae xs<=1000) (hc:∀c',c<=c'->c'<c+ae xs->∀p' R',st.r p'=ai R'->R'.b=aB->∀x∈R'.xs,∀y∈x.cells,nM (sub q c') y=aA), ∃E',dC φ w0 L E' st1 ev w/\Step (λp=>∃c',c<=c'/\c'<c+ae xs/\p=sub q c') E st E' st1/\E'.ok=E.ok/\ae ys=ae xs/\ (∀i v y,vs[i]? =ai v->ys[i]? =ai y->fT φ E' st1.r w q (c+i) v y)/\∀b,b∉bs->jZ w0 L E st ev w b->jZ w0 L E' st1 ev w b:=by intro vs xs;induction xs generalizing vs with|nil=>intro bs c E st ys st1 h ha hv _ _ _ _;simp[Ab.Ob]at ha;obtain⟨rfl,rfl⟩:=ha;exact⟨E,h,.refl _,rfl,rfl,λi v y _ hy=>by simp at hy,λb _ hf=>hf⟩|cons x xs ih=>intro bs c E st ys st1 h ha hv Jg hF dE hc;simp only[Ab.Ob]at ha;obtain⟨⟨y,s⟩,hs,ha⟩:=aI.1 ha;obtain⟨⟨ys',s2⟩,OU,ha⟩:=aM.1 ha;simp only[bS]at ha;obtain⟨rfl,rfl⟩:=ha;simp only[bl]at dE hc;cases hv with|cons v _ b vs _ bs hv0 ht=>obtain⟨hn1,hn2,hn3⟩:=dX.1 Jg;(have first:∃E1,dC φ w0 L E1 s ev w/\Step (· =sub q c) E st E1 s/\E1.ok=E.ok/\fT φ E1 s.r w q c v y/\∀b',b≠ai b'->jZ w0 L E st ev w b'->jZ w0 L E1 s ev w b':=by cases hv0 with|data _ hr hna=>(have hp:YG q c st x=if Ab.ek x then ai (x,st)else au:=by cases hr<;>rfl);rw[hp]at hs;split at hs;(·simp only[aC,bS]at hs;obtain⟨rfl,rfl⟩:=hs;exact⟨E,h,.refl _,rfl,.data _ _ hr hna,λ_ _ hf=>hf⟩);·cases hs|own z xs' _ ho=>simp only[YG]at hs;split at hs;(·rename_i hc1;simp only[aC,bS]at hs;obtain⟨rfl,rfl⟩:=hs;obtain⟨E1,a1,a2,a3,a4,a5⟩:=h.az2 (q:=sub q c) ho (λb' e=>hF b' (dZ _ (by simp[e]))) (.inl nU.sub) (hc c (bx _) (by omega));exact⟨E1,a1,a2,a3,.view _ _ _ hc1 a4 ho.one,a5⟩);·cases hs);obtain⟨E1,h1,hst,Ap,jy,Vh⟩:=first;(have hK:dK φ w E1.ok vs xs bs:=by rw[Ap];exact ht);obtain⟨E2,h2,abl,adt,hl,lO,aBb⟩:=ih h1 OU hK hn2 (λb' hb'=>Vh b' (λe=>hn3 b' (by simp[e]) b' hb' rfl) (hF b' (bN _ hb'))) (by omega) (λc' a1 a2 p' R' hp hb=>hc c' (by omega) (by omega) p' R' (hst.box hp hb) hb);(have aKM:∀c',c+1<=c'->sub q c≠sub q c':=λc' a1 e=>by simp only[sub]at e;omega);refine⟨E2,h2,?_,adt.trans Ap,by simp[hl],λi v' y' rW hy'=> ?_,λb' hb' hf=>aBb b' (λhm=>hb' (bN _ hm)) (Vh b' (λe=>hb' (dZ _ (by simp[e]))) hf)⟩;(·refine Step.trans (E1:=E1) (st1:=s) ⟨hst.ok,λp hp=>hst.ρ p λe=>hp ⟨c,by omega,by simp,e⟩,λp hp=>hst.r p λe=>hp ⟨c,by omega,by simp,e⟩,λp R hp=>hst.b p R λe=>hp ⟨c,by omega,by simp,e⟩,λp R _ hR=> ?_⟩ ⟨abl.ok,λp hp=>abl.ρ p ?_,λp hp=>abl.r p ?_,λp R hp=>abl.b p R ?_,λp R _ hR=> ?_⟩;(·by_cases e:p=sub q c;(·exact hst.s p R e hR);·(rcases hst.r p e with h3|h3);(·exact .inr (h3▸hR));·rw[h3]at hR;cases hR);(·rintro⟨c',a1,a2,e⟩;exact hp ⟨c',by omega,by simp;omega,e⟩);(·rintro⟨c',a1,a2,e⟩;exact hp ⟨c',by omega,by simp;omega,e⟩);(·rintro⟨c',a1,a2,e⟩;exact hp ⟨c',by omega,by simp;omega,e⟩);·by_cases e:∃c',c+1<=c'/\c'<c+1+ae xs/\p=sub q c';(·exact abl.s p R e hR);·(rcases abl.r p e with h3|h3);(·exact .inr (h3▸hR));·rw[h3]at hR;cases hR);·cases i with|zero=>simp at rW hy';subst rW;subst hy';exact jy.step abl (λ⟨c',a1,a2,e⟩=>aKM c' a1 e)|succ i=>have:=lO i v' y' (by simpa using rW) (by simpa using hy');rwa[show c+(i+1)=c+1+i from by omega]
def dC.vm(h:dC φ w0 L E st ev w){q z:ax}{x:A}{v:aL}{bs:ah ax}{st1:St}(ha:Ab.vm st q z x=ai st1)(hv:kE φ w E.ok v z x bs)(Jg:bs.Nodup) (hF:∀b∈bs,jZ w0 L E st ev w b) (Md:∀p',L.pl q=ai p'->v=.pointer (ai ⟨p'.1,p'.2,au⟩)): ∃E',dC φ w0 L E' st1 ev w/\E'.ok=E.ok/\lL φ E' st1.r w v (.loc q 0 0)/\(∀b,b∉bs->jZ w0 L E st ev w b->jZ w0 L E' st1 ev w b):=by
 unfold Ab.vm at ha;split at ha;·rename_i hq;obtain⟨hq,dE⟩:=hq;obtain⟨⟨cs,s⟩,hs,ha⟩:=aM.1 ha;simp only at ha;subst ha;cases hv with|mk b o z x vs bs hcr Ao qP hz=>have h1:=(h.kill q).YM q;have aKK:∀b,jZ w0 L E st ev w b->jZ w0 L E ((st.kill q).bj q au) ev w b:=λb hf=>⟨hf.z,λq' b' o' a1 a2=>hf.r q' b' o' (by simp only[St.bj]at a1;split at a1;(·cases a1);·exact a1) a2,λi k b' a1=>hf.t i k b' (Tk.gn (OT q) a1).1⟩;obtain⟨hb1,hb2⟩:=Gu.1 Jg;obtain⟨E1,h2,hst,Ap,hl,lO,Vh⟩:=h1.Ob hs hcr hb2 (λb' hb'=>aKK b' (hF b' (bm _ hb'))) (by omega) (λc' a1 a2 p' R' hp hb x hx y hy=>by cases hr:nM (sub q c') y with|false=>rfl|true=>obtain⟨c2,hc2,e2,_⟩:=h1.RQ hp hb hx hy hr;have e3:=(UW (by omega) hc2 e2).1;simp[St.bj,<-e3]at hp);have hlv:=hcr.length;(have hna:∀y∈cs,∀l,y≠ .agg l:=λy hy=>by obtain⟨c,hc⟩:=fO.1 hy;(have Ao:c<ae vs:=by(rcases bL c (ae cs)with h|h);(·omega);·simp[bU h]at hc);exact(lO c vs[c] y (by simp) hc).asH);have hrc:(gh x cs).cells=cs:=mn hl hna;have h3:=h2.box (d:=q) (z:=z) (o:=o) (b:=b) (x:=gh x cs) (vs:=vs) hq (λp' e=>by have:=Md p' e;simp only[Value.pointer.injEq,aC,apa]at this;exact Prod.ext this.1.symm this.2.1.symm) (Vh b hb1 (aKK b (hF b (cI ..)))) (by rw[hrc,hl,hz]) (by rw[hrc,hl,hlv]) (λc u y hu hy=>by have:=lO c u y hu (by rw[hrc]at hy;exact hy);rwa[dL]at this) Ao qP;refine⟨_,h3,Ap,?_,λb' hb' hf=> ?_⟩;(·have:=lL.loc (φ:=φ) (E:=⟨E1.ok,λi=>if i=q then ai (b,o)else E1.ρ i⟩) (r:=((s.kill q).bj q (ai ⟨aB,z,[gh x cs]⟩)).r) (w:=w) b o q 0 0 ⟨aB,z,[gh x cs]⟩ (by simp[St.bj]) (by simp);simpa using this);·have hf2:=Vh b' (λhm=>hb' (bm _ hm)) (aKK b' hf);refine⟨hf2.z,λq' b2 o' a1 a2 e=> ?_,λi k b2 a1=>hf2.t i k b2 (Tk.gn (OT q) a1).1⟩;subst e;by_cases e:q'=q;(·simp[e]at a2;exact hb' (by rw[<-a2.1];exact cI ..));·simp[e]at a2;exact hf2.r q' b2 o' (by simpa[St.bj,St.kill,St.map,e]using a1) a2 rfl
 .cases ha
end
end Go.Ab
namespace Go.Ab
section
variable {P:bV} {φ:ax->ax} {w0:aU} {L:nU} {E E':Env} {st st':St} {ev ev':ax->aL} {w w':aU} {r r':ax->aq eO} {a:alk}
def NB(E:Env)(st:St)(bs ns:ah ax):Prop:=(∀b∈bs,∃p∈ns,(st.r p).isSome=aB/\∃o,E.ρ p=ai (b,o))/\(ns.Nodup->bs.Nodup)
def NB.nil:NB E st [] []:=⟨(λb h=>by cases h),(λ_=>ib)⟩
def NB.none(ns:ah ax):NB E st [] ns:=⟨(λb h=>by cases h),(λ_=>ib)⟩
def NB.one{b o p:ax}(hl:(st.r p).isSome=aB)(hρ:E.ρ p=ai (b,o)):NB E st [b] [p]:=
 ⟨λc hc=>by rw[aT]at hc;subst hc;exact⟨p,aT.2 rfl,hl,o,hρ⟩,λ_=>by simp⟩
def NB.append(h:dC φ w0 L E st ev w){bs cs ns ms:ah ax}(h1:NB E st bs ns)(h2:NB E st cs ms):NB E st (bs++cs) (ns++ms):=by
 refine⟨λb hb=> ?_,λhn=> ?_⟩
 .rcases bt.1 hb with hb|hb
  .obtain⟨p,hp,hx⟩:=h1.1 b hb;exact⟨p,dZ _ hp,hx⟩
  .obtain⟨p,hp,hx⟩:=h2.1 b hb;exact⟨p,bN _ hp,hx⟩
 .obtain⟨n1,n2,n3⟩:=dX.1 hn;refine dX.2 ⟨h1.2 n1,h2.2 n2,λb hb c hc e=> ?_⟩;subst e;obtain⟨p,hp,hl,o,hρ⟩:=h1.1 b hb;obtain⟨p',hp',hl',o',iA⟩:=h2.1 b hc;exact h.inj p p' b o b o' hl hl' hρ iA (n3 p hp p' hp') rfl
def afE{q off n:ax}{R:eO}(hro:pS φ E r w q R)(hR:r q=ai R){v:aL}(hv:lL φ E r w v (.view q off n)): ∃ob,eL φ w E.ok v R.z ((R.xs.drop off).take n) ob/\(∀b,ob=ai b->∃o,E.ρ q=ai (b,o)):=by cases hv with|data _ _ h=>cases h|pz _ _ _ _ h1=>rw[h1]at hR;cases hR|pP ad q off R' h1 hb hn=>rw[LS];exact⟨au,.empty _ _,λb e=>by cases e⟩|view b o cap q off n R' h1 hb hn LC h0 hρ qP=>rw[h1]at hR;cases hR;(have eJ:ae ((R.xs.drop off).take n)=n:=by simp;omega);cases hro with|empty z h=>rw[h]at hρ;cases hρ|box=>cases hb|sl b1 o1 z xs vs yY Qz hh rW aOa=>rw[hρ]at yY;cases yY;have:=eL.mk (φ:=φ) (w:=w) (K:=E.ok) b (o+off*z) cap z ((xs.drop off).take n) ((vs.drop (off*z)).take (n*z)) (by simp only at eJ;rw[eJ];exact LC) h0 (λy hy=>Qz y (dk (jO hy))) (by rw[Dc (λx hx=>Qz x (dk hx)),su Qz];exact(hh.drop _).take _) ((rW.drop _).take _) (by rw[V3,<-jS]at qP;exact qP);simp only at eJ;rw[eJ]at this;exact⟨ai b,this,λb' e=>by cases e;exact⟨o,hρ⟩⟩
def Uc(h:dC φ w0 L E st ev w){q:ax}:∀{xs ys:ah A} {vs:ah aL} {c:ax},ae vs=ae xs->(∀(j:ax) (v:aL) (x:A),vs[j]? =ai v->xs[j]? =ai x->fT φ E st.r w q (c+j) v x)->SK st.r xs=ai ys->
 ∃bs,dK φ w E.ok vs ys bs/\NB E st bs (xs.flatMap fE)/\ae ys=ae xs
 | [],ys,vs,c,hl,_,hc=>by simp[SK]at hc;subst hc;obtain rfl:vs=[]:=fQ (by simpa using hl);exact⟨[],.nil,NB.nil,rfl⟩
 |x::xs,ys,[],c,hl,_,_=>by simp at hl
 |x::xs,ys,v::vs,c,hl,jy,hc=>by
  simp only[SK]at hc
  obtain⟨y,hy,hc⟩:=aI.1 hc
  obtain⟨ys',OU,rfl⟩:=aM.1 hc
  obtain⟨bs,h1,h2,h3⟩:=Uc h (c:=c+1) (by simpa using hl) (λj v' x' hv hx=>by have:=jy (j+1) v' x' (by simpa using hv) (by simpa using hx);rwa[show c+(j+1)=c+1+j from by omega]at this) OU
  have h0:=jy 0 v x rfl rfl
  have first:∃b:aq ax,BB φ w E.ok v y b/\NB E st b.toList (fE x):=by
   cases h0 with
   |data _ hr hna=>
    have hp:ad9 st.r x=if Ab.ek x then ai x else au:=by cases hr<;>rfl
    rw[hp]at hy
    split at hy
    .simp only[aC]at hy;subst hy
     exact⟨au,.data _ _ hr hna,NB.none _⟩
    .cases hy
   |any=>simp[ad9,Ab.ek]at hy
   |view off n hc' hrv aBd=>
    simp only[ad9]at hy
    obtain⟨R,hR,rfl⟩:=aM.1 hy
    obtain⟨ob,ho,hρ⟩:=afE (h.roots _ R hR) hR hrv
    refine⟨ob,.own _ _ _ _ ho,?_⟩
    cases ob with
    |none=>exact NB.none _
    |some b=>obtain⟨o,iA⟩:=hρ b rfl;exact NB.one (by rw[hR];rfl) iA
  obtain⟨b,h4,h5⟩:=first
  exact⟨b.toList++bs,.cons _ _ _ _ _ _ h4 h1,by rw[cr];exact h5.append h h2,by simp[h3]⟩
def eL.cap{K:ax->Prop}{v:aL}{z:ax}{xs:ah A}{ob:aq ax}(h:eL φ w K v z xs ob):ob=au\/∃b o n cap,v=.slice (ai ⟨b,o,au⟩) n cap/\cap≠0:=by cases h with|empty=>exact .inl rfl|mk b o cap z xs vs hc h0=>exact .inr ⟨b,o,_,cap,rfl,h0⟩
inductive LO(φ:ax->ax)(E:Env)(st:St)(w w':aU)(K':ax->Prop):ah ax->ah A->ah ax->ah ax->ah ax->Prop
 |nil:LO φ E st w w' K' [] [] [] [] []
 |iU (q z b o:ax) (e y:A) (bs qs os ns ob em:_) (hR:st.r q=ai ⟨aB,z,[e]⟩) (hρ:E.ρ q=ai (b,o)) (hB:kE φ w' K' (.pointer (ai ⟨b,o,au⟩)) z y (b::bs))
   (t:LO φ E st w w' K' qs os ns ob em):LO φ E st w w' K' (q::qs) (.iU z [y]::os) (q::e.cells.flatMap fE++ns) (b::bs++ob) em
 |l7 (q z:ax) (v:aL) (xs ys:ah A) (b:aq ax) (qs os ns ob em:_) (hR:st.r q=ai ⟨aA,z,xs⟩) (hv:lL φ E st.r w v (.view q 0 (ae xs))) (ho:eL φ w' K' v z ys b) (hl:ae ys=ae xs)
   (t:LO φ E st w w' K' qs os ns ob em):LO φ E st w w' K' (q::qs) (.l7 z ys::os) (q::ns) (b.toList++ob) (if b.isNone then q::em else em)
 |gone (q z:ax) (xs:ah A) (qs os ns ob em:_) (hR:st.r q=ai ⟨aA,z,xs⟩) (t:LO φ E st w w' K' qs os ns ob em):LO φ E st w w' K' (q::qs) (.any::os) (q::ns) ob em
def ar4(h:dC φ w0 L E st ev w){Ns:ah ax}:∀{xs:ah A} {vs:ah aL} {io:ah aW} {ls:ah (aq A)} {qs ns:ah ax} {ab:ah A},hJ (RV φ E st.r w) vs xs->xe st io xs=ai (ls,qs,ns)->
 OR {st with r:=less st.r Ns} ls xs=ai ab->
 ∃bs,gy φ w E.ok vs ab bs/\NB E st bs ns/\∀{w':aU} {K':ax->Prop} {outs:ah A} {ob:ah ax},jF φ w' K' vs ab outs ob->∃em,LO φ E st w w' K' qs outs ns ob em/\
  (∀q∈em,q∈ns/\(st.r q).isSome=aB)/\(ns.Nodup->∀q∈em,∀b o,E.ρ q=ai (b,o)->b∉bs)
 | [],vs,io,ls,qs,ns,ab,hv,hl,ha=>by obtain rfl:vs=[]:=fQ hv.1;simp[xe]at hl;obtain⟨rfl,rfl,rfl⟩:=hl;simp[OR]at ha;subst ha;exact⟨[],.nil,NB.nil,λho=>by cases ho;exact⟨[],.nil,(λ_ h=>by cases h),(λ_ _ h=>by cases h)⟩⟩
 |x::xs,vs,io,ls,qs,ns,ab,hv,hl,ha=>by
  obtain⟨v,vs,rfl,hx,hvs⟩:=hv.YL
  have plain:∀{ls' qs' ns'},xe st io.tail xs=ai (ls',qs',ns')->ls=au::ls'->qs=qs'->ns=ns'->
   ∃bs,gy φ w E.ok (v::vs) ab bs/\NB E st bs ns/\∀{w':aU} {K':ax->Prop} {outs:ah A} {ob:ah ax},jF φ w' K' (v::vs) ab outs ob->∃em,LO φ E st w w' K' qs outs ns ob em/\
    (∀q∈em,q∈ns/\(st.r q).isSome=aB)/\(ns.Nodup->∀q∈em,∀b o,E.ρ q=ai (b,o)->b∉bs):=by
   intro ls' qs' ns' hl' e1 e2 e3
   subst e1;subst e2;subst e3
   simp only[OR]at ha
   split at ha
   .cases ha
   .rename_i how
    obtain⟨y,hy,ha⟩:=aI.1 ha
    obtain⟨ys,OU,rfl⟩:=aM.1 ha
    obtain⟨bs,h1,h2,h3⟩:=ar4 h (Ns:=Ns) hvs hl' OU
    have hxw:RV φ E (less st.r Ns) w v x:=hx.imp λv x hx=>hx.od (λ_ h=>h) (λq R hq=>by simp only[less]at hq;split at hq;(·cases hq);·exact⟨hq,rfl⟩)
    have Dx:gY φ w E.ok v y:=hxw.free (by simpa using how) hy
    refine⟨bs,by have:=gy.cons _ _ _ _ _ _ (.data _ _ Dx) h1;simpa using this,h2,λho=> ?_⟩
    cases ho with
    |data _ _ _ _ _ _ _ t=>exact h3 t
    |iU=>cases Dx
    |l7=>cases Dx
    |gone=>cases Dx
  match io,hl with
  | [],hl=>
    simp only[xe]at hl
    obtain⟨⟨ls',qs',ns'⟩,hl',hl⟩:=aM.1 hl
    simp only[bS]at hl
    exact plain hl' hl.1.symm hl.2.1.symm hl.2.2.symm
  |false::io,hl=>
   simp only[xe]at hl
   obtain⟨⟨ls',qs',ns'⟩,hl',hl⟩:=aM.1 hl
   simp only[bS]at hl
   exact plain hl' hl.1.symm hl.2.1.symm hl.2.2.symm
  |true::io,hl=>
   simp only[xe]at hl
   obtain⟨⟨q,y⟩,hq,hl⟩:=aI.1 hl
   obtain⟨⟨ls',qs',ns'⟩,hl',hl⟩:=aM.1 hl
   simp only[bS]at hl
   obtain⟨rfl,rfl,rfl⟩:=hl
   simp only[OR]at ha
   obtain⟨ys,OU,rfl⟩:=aM.1 ha
   obtain⟨bs,h1,h2,h3⟩:=ar4 h (Ns:=Ns) hvs hl' OU
   have aD1:∀{bs1 ns1:ah ax},NB E st bs1 ns1->(ns1++ns').Nodup->∀p∈ns',∀b o,(st.r p).isSome=aB->E.ρ p=ai (b,o)->b∉bs1:=by
    intro bs1 ns1 hnb hn p hp b o hlv hρ hb
    obtain⟨p',hp',aEc,o',iA⟩:=hnb.1 b hb
    exact h.inj p' p b o' b o aEc hlv iA hρ ((dX.1 hn).2.2 p' hp' p hp) rfl
   unfold QW at hq
   split at hq
   ·
    rename_i q0 _ _
    obtain⟨R,hR,hq⟩:=aI.1 hq
    split at hq
    .rename_i e hb LD
     obtain⟨cs,oz,hq⟩:=aM.1 hq
     simp only[bS]at hq
     obtain⟨rfl,rfl⟩:=hq
     obtain⟨Rb,Rz,Rxs⟩:=R
     simp only at hb LD
     subst hb;subst LD
     obtain⟨b,o,hρ,hve⟩:=hx.KW.abK hR
     subst hve
     cases h.roots _ _ hR with
     |box b1 o1 z _ us yY hz dE eJ j7 Ao qP=>
      rw[hρ]at yY;cases yY
      obtain⟨bs1,h4,h5,h6⟩:=Uc h (c:=0) eJ (λj v x hv hx=>by have:=j7 j v x hv hx;rwa[dL]) oz
      have hna:∀y∈cs,∀l,y≠ .agg l:=λy hy=>by
       obtain⟨c,hc⟩:=fO.1 hy
       have Ao:c<ae us:=by
        rcases bL c (ae cs)with h|h
        .omega
        .simp[bU h]at hc
       obtain⟨b',hb'⟩:=h4.get (j:=c) (v:=us[c]) (by simp) hc
       exact hb'.asH
      have hrc:(gh e cs).cells=cs:=mn h6 hna
      have RY:kE φ w E.ok (.pointer (ai ⟨b,o,au⟩)) Rz (gh e cs) (b::bs1):=.mk b o Rz _ us bs1 (by rw[hrc];exact h4) Ao qP (by rw[hrc,h6,hz])
      have hnm:names st.r (.loc q0 0 0)=q0::e.cells.flatMap fE:=by simp[names,KX,hR]
      rw[hnm]
      have hnb:NB E st (b::bs1) (q0::e.cells.flatMap fE):=(NB.one (by rw[hR];rfl) hρ).append h h5
      refine⟨(b::bs1)++bs,.cons _ _ _ _ _ _ (by simpa using Qt.iU _ _ _ _ RY) h1,hnb.append h h2,λho=> ?_⟩
      cases ho with
      |data _ _ _ _ _ _ hna t=>exact bG rfl (hna.1 _ _)
      |iU _ _ _ y1 ob1 _ _ os ob hB t=>
       obtain⟨em,a1,a2,a3⟩:=h3 t
       have hB0:∃bs2,ob1=b::bs2:=by
        simp only[Nat.zero_mul,Nat.add_zero]at hB
        cases hB;exact⟨_,rfl⟩
       obtain⟨bs2,rfl⟩:=hB0
       refine⟨em,.iU q0 Rz b o e y1 bs2 _ _ _ _ em hR hρ (by simpa using hB) a1,λq hq=>⟨bN _ (a2 q hq).1,(a2 q hq).2⟩,λhn q hq b' o' iA=> ?_⟩
       intro hm
       rcases bt.1 hm with hm|hm
       .exact aD1 hnb hn q (a2 q hq).1 b' o' (a2 q hq).2 iA hm
       .exact a3 (dX.1 hn).2.1 q hq b' o' iA hm
    .cases hq
   ·
    rename_i q0 n _ _
    obtain⟨R,hR,hq⟩:=aI.1 hq
    split at hq
    .rename_i gF
     simp only[aC,bS]at hq
     obtain⟨rfl,rfl⟩:=hq
     obtain⟨hn0,hb⟩:=gF
     subst hn0
     obtain⟨Rb,Rz,Rxs⟩:=R
     simp only at hb
     subst hb
     obtain⟨ob0,ho0,hρ0⟩:=afE (h.roots _ _ hR) hR hx.FB
     simp only[cL,bc]at ho0
     have hnm:names st.r (.view q0 0 Rxs.length)=[q0]:=rfl
     rw[hnm]
     have hnb:NB E st ob0.toList [q0]:=by
      cases ob0 with
      |none=>exact NB.none _
      |some b=>obtain⟨o,iA⟩:=hρ0 b rfl;exact NB.one (by rw[hR];rfl) iA
     refine⟨ob0.toList++bs,.cons _ _ _ _ _ _ (.l7 _ _ _ _ ho0) h1,hnb.append h h2,λho=> ?_⟩
     cases ho with
     |data _ _ _ _ _ _ hna t=>exact bG rfl (hna.2 _ _)
     |l7 _ _ _ ys1 b1 _ _ os ob hO hl t=>
      obtain⟨em,a1,a2,a3⟩:=h3 t
      refine⟨if b1.isNone then q0::em else em,.l7 q0 Rz v Rxs ys1 b1 _ _ _ _ em hR hx.FB hO hl a1,λq hq=> ?_,λhn q hq b' o' iA hm=> ?_⟩
      .split at hq
       .rcases bP.1 hq with rfl|hq
        .exact⟨by simp,by rw[hR];rfl⟩
        .exact⟨bN _ (a2 q hq).1,(a2 q hq).2⟩
       .exact⟨bN _ (a2 q hq).1,(a2 q hq).2⟩
      .have old:q∈em->JW:=λhq=>by
        rcases bt.1 hm with hm|hm
        .exact aD1 hnb hn q (a2 q hq).1 b' o' (a2 q hq).2 iA hm
        .exact a3 (dX.1 hn).2.1 q hq b' o' iA hm
       split at hq
       .rename_i RZ
        rcases bP.1 hq with rfl|hq
        ·
         have aSa:ob0=au:=by
          cases hO with
          |mk=>simp at RZ
          |empty ad z=>
           rcases ho0.cap with h0|⟨b,o,n,cap,e,h0⟩
           .exact h0
           .simp only[Cv]at e
            exact bG e.2.2.symm h0
         subst aSa
         simp only[Option.toList_none,cJ]at hm
         obtain⟨p',hp',aEc,o2,Me⟩:=h2.1 b' hm
         exact h.inj q p' b' o' b' o2 (by rw[hR];rfl) aEc iA Me ((dX.1 hn).2.2 q (by simp) p' hp') rfl
        .exact old hq
       .exact old hq
     |gone _ _ _ _ _ os ob t=>
      obtain⟨em,a1,a2,a3⟩:=h3 t
      refine⟨em,.gone q0 Rz Rxs _ _ _ _ em hR a1,λq hq=>⟨bN _ (a2 q hq).1,(a2 q hq).2⟩,λhn q hq b' o' iA hm=> ?_⟩
      rcases bt.1 hm with hm|hm
      .exact aD1 hnb hn q (a2 q hq).1 b' o' (a2 q hq).2 iA hm
      .exact a3 (dX.1 hn).2.1 q hq b' o' iA hm
    .cases hq
   .cases hq
end
end Go.Ab
namespace Go.Ab
section
variable {P:bV} {φ:ax->ax} {w0:aU} {L:nU} {E E':Env} {st st':St} {ev ev':ax->aL} {w w':aU} {r r':ax->aq eO} {a:alk}
inductive LT(φ:ax->ax)(ρ:ax->aq (ax×ax))(w':aU)(K':ax->Prop)(r:ax->aq eO):ah ax->ah A->ah ax->ah ax->Prop
 |nil:LT φ ρ w' K' r [] [] [] []
 |iU (q z b o:ax) (y:A) (bs qs os mb fb:_) (hR:r q=ai ⟨aB,z,[gh y (y.cells.map λ_=>.any)]⟩) (hρ:ρ q=ai (b,o)) (hB:kE φ w' K' (.pointer (ai ⟨b,o,au⟩)) z y (b::bs)) (hq:q∉qs)
   (t:LT φ ρ w' K' r qs os mb fb):LT φ ρ w' K' r (q::qs) (.iU z [y]::os) (b::mb) (bs++fb)
 |l7 (q z:ax) (ys:ah A) (ob:aq ax) (qs os mb fb:_) (t:LT φ ρ w' K' r qs os mb fb):LT φ ρ w' K' r (q::qs) (.l7 z ys::os) (ob.toList++mb) fb
 |gone (q:ax) (qs os mb fb:_) (t:LT φ ρ w' K' r qs os mb fb):LT φ ρ w' K' r (q::qs) (.any::os) mb fb
def aIy{q off n:ax}{R:eO}{v:aL}(hv:lL φ E r w v (.view q off n))(hR:r q=ai R):(∃ad,v=.slice ad 0 0)\/∃b o cap,v=.slice (ai ⟨b,o+off*R.z,au⟩) n cap/\E.ρ q=ai (b,o):=by cases hv with|data _ _ h=>cases h|pz _ _ _ _ h1=>rw[h1]at hR;cases hR|pP ad=>exact .inl ⟨ad,rfl⟩|view b o cap q off n R2 h1 h2 h3 h4 h5 h6 h7=>rw[h1]at hR;cases hR;exact .inr ⟨b,o,cap,rfl,h6⟩
def DM{y:A}:(gh y (y.cells.map λ_=>.any)).cells=y.cells.map λ_=>.any:=
 mn (by simp) λx hx l e=>by obtain⟨_,_,rfl⟩:=dF.1 hx;cases e
def aAJ(h:dC φ w0 L E st ev w){K':ax->Prop}(room:∀{z:ax} b n,hZ z w b n->hZ z w' b n):∀{qs:ah ax} {os:ah A} {ns ob em:ah ax},LO φ E st w w' K' qs os ns ob em->∀{sti stB:St}, ns.Nodup->(∀p∈ns,sti.r p=st.r p)->sr sti qs os=ai stB-> stB.t=sti.t/\(∀p,p∉ns->stB.r p=sti.r p)/\ (∀p R',p∈ns->stB.r p=ai R'->(∃R,st.r p=ai R/\R'.b=R.b/\R'.z=R.z/\R'.xs.length=ae R.xs)/\(∀r'',pS φ ⟨K',E.ρ⟩ r'' w' p R'))/\(∀q∈qs,q∈ns)/\ ∃mb fb,LT φ E.ρ w' K' stB.r qs os mb fb/\(∀p R',p∈ns->stB.r p=ai R'->p∈em\/∀b o,E.ρ p=ai (b,o)->b∈mb)/\ (∀b∈mb,b∈ob)/\(∀b∈fb,b∈ob)/\(ob.Nodup->fb.Nodup/\∀b∈mb,b∉fb):=by intro qs os ns ob em hlo;induction hlo with|nil=>intro sti stB hn hs hb;simp[sr]at hb;subst hb;exact⟨rfl,λ_ _=>rfl,(λp R' hp=>by cases hp),(λq hq=>by cases hq),[],[],.nil,(λp R' hp=>by cases hp),(λb h=>by cases h),(λb h=>by cases h),λ_=>⟨ib,λb h=>by cases h⟩⟩|iU q z b o e y bs qs os ns ob em hR hρ hB t ih=>intro sti stB hn hs hb;obtain⟨hn1,hn2,hn3⟩:=dX.1 hn;obtain⟨hn4,hn5⟩:=Gu.1 hn1;simp only[sr]at hb;rw[hs q (by simp),hR]at hb;simp only[ag]at hb;have asq:q∉ns:=λhq=>hn3 q (by simp) q hq rfl;obtain⟨g1,g2,g3,g4,mb,fb,g5,g6,g7,g8,g9⟩:=ih hn2 (λp hp=>by have h1:p≠q:=λe=>asq (e▸hp);have h2:p∉e.cells.flatMap fE:=λhm=>hn3 p (bm _ hm) p hp rfl;simp only[h1,aJ];rw[aP (by simpa using h2)];exact hs p (bN _ hp)) hb;(have hq2:stB.r q=ai ⟨aB,z,[gh y (y.cells.map λ_=>.any)]⟩:=by rw[g2 q asq];simp);(have amo:q<1000:=by cases h.roots q _ hR;assumption);(have amq:∀r'',pS φ ⟨K',E.ρ⟩ r'' w' q ⟨aB,z,[gh y (y.cells.map λ_=>.any)]⟩:=λr''=>by cases hB with|mk _ _ _ _ vs _ hcr Ao qP hz=>refine .box b o z _ vs hρ (by rw[DM];simpa using hz) amo (by rw[DM];simpa using hcr.length) (λc v x hv hx=> ?_) Ao qP;rw[DM]at hx;simp only[cC,aM]at hx;obtain⟨x0,hx0,rfl⟩:=hx;obtain⟨b',hb'⟩:=hcr.get hv hx0;exact .any _ hb'.one);refine⟨g1,λp hp=> ?_,λp R' hp Oo=> ?_,λq' hq'=> ?_,b::mb,bs++fb,.iU q z b o y bs _ _ _ _ hq2 hρ hB (λhq=>asq (g4 q hq)) g5,λp R' hp Oo=> ?_,λb' hb'=> ?_,λb' hb'=> ?_,λJg=> ?_⟩;(·simp only[bt,bP,agG]at hp;rw[g2 p hp.2];simp only[hp.1.1,aJ];rw[aP (by simpa using hp.1.2)]);(·by_cases e1:p=q;(·subst e1;rw[hq2]at Oo;cases Oo;exact⟨⟨_,hR,rfl,rfl,rfl⟩,amq⟩);·(rcases bt.1 hp with hp|hp);(·(rcases bP.1 hp with hp|hp);(·exact bG hp e1);·have hpn:p∉ns:=λhm=>hn3 p (bm _ hp) p hm rfl;rw[g2 p hpn]at Oo;simp only[e1,aJ]at Oo;rw[aQ (by simpa using hp)]at Oo;cases Oo);·exact g3 p R' hp Oo);(·(rcases bP.1 hq' with rfl|hq');(·simp);·exact bN _ (g4 q' hq'));(·by_cases e1:p=q;(·subst e1;exact .inr λb' o' iA=>by rw[hρ]at iA;cases iA;simp);·(rcases bt.1 hp with hp|hp);(·(rcases bP.1 hp with hp|hp);(·exact bG hp e1);·have hpn:p∉ns:=λhm=>hn3 p (bm _ hp) p hm rfl;rw[g2 p hpn]at Oo;simp only[e1,aJ]at Oo;rw[aQ (by simpa using hp)]at Oo;cases Oo);·exact(g6 p R' hp Oo).imp id λh1 b' o' iA=>bm _ (h1 b' o' iA));(·(rcases bP.1 hb' with rfl|hb');(·simp);·exact bN _ (g7 b' hb'));(·(rcases bt.1 hb' with hb'|hb');(·exact dZ _ (bm _ hb'));·exact bN _ (g8 b' hb'));·obtain⟨m1,m2,m3⟩:=dX.1 Jg;obtain⟨m4,m5⟩:=Gu.1 m1;obtain⟨m6,m7⟩:=g9 m2;refine⟨dX.2 ⟨m5,m6,λx hx y hy=>m3 x (bm _ hx) y (g8 y hy)⟩,λb' hb' hm=> ?_⟩;(rcases bP.1 hb' with rfl|hb');(·(rcases bt.1 hm with hm|hm);(·exact m4 hm);·exact m3 _ (by simp) _ (g8 _ hm) rfl);·(rcases bt.1 hm with hm|hm);(·exact m3 _ (bm _ hm) _ (g7 _ hb') rfl);·exact m7 b' hb' hm|l7 q z v xs ys ob1 qs os ns ob em hR hv ho hl t ih=>intro sti stB hn hs hb;obtain⟨asq,hn2⟩:=Gu.1 hn;simp only[sr]at hb;obtain⟨g1,g2,g3,g4,mb,fb,g5,g6,g7,g8,g9⟩:=ih hn2 (λp hp=>by have h1:p≠q:=λe=>asq (e▸hp);simp only[St.bj,h1,aJ];exact hs p (bm _ hp)) hb;(have hq2:stB.r q=ai ⟨aA,z,ys⟩:=by rw[g2 q asq];simp[St.bj]);(have azC:∀b o n cap,v=.slice (ai ⟨b,o,au⟩) n cap->cap≠0->E.ρ q=ai (b,o):=by intro b o n cap hve h0;(rcases aIy hv hR with ⟨ad,h1⟩|⟨b2,o2,aQk,h1,h2⟩);(·rw[h1]at hve;simp only[Cv]at hve;exact bG hve.2.2.symm h0);·rw[h1]at hve;simp only[Cv,aC,apa]at hve;rw[h2,hve.1.1,<-hve.1.2.1];simp);(have aKU:∀b,ob1=ai b->∃o,E.ρ q=ai (b,o):=by intro b e;cases ho with|empty=>cases e|mk b1 o cap z ys vs hc h0 hz hh Ao qP=>cases e;exact⟨o,azC _ _ _ _ rfl h0⟩);(have amq:∀r'',pS φ ⟨K',E.ρ⟩ r'' w' q ⟨aA,z,ys⟩:=λr''=>by cases ho with|empty ad z=>(cases hρ:E.ρ q with|none=>exact .empty z hρ|some p=>obtain⟨b,o⟩:=p;refine .sl b o z [] [] hρ (λx hx=>by cases hx) .nil dw.nil ?_;cases h.roots q _ hR with|empty z h2=>rw[hρ]at h2;cases h2|sl b' o' z xs vs iA hz hh Ao qP=>rw[hρ]at iA;cases iA;exact room _ _ (qP.le (by simp)))|mk b1 o cap z ys vs hc h0 hz hh Ao qP=>exact .sl b1 o z ys vs (azC _ _ _ _ rfl h0) hz hh Ao (qP.le (by have:=dh z hc;omega)));refine⟨g1,λp hp=> ?_,λp R' hp Oo=> ?_,λq' hq'=> ?_,ob1.toList++mb,fb,.l7 q z ys ob1 _ _ _ _ g5,λp R' hp Oo=> ?_,λb' hb'=> ?_,λb' hb'=>bN _ (g8 b' hb'),λJg=> ?_⟩;(·simp only[bP,agG]at hp;rw[g2 p hp.2];simp[St.bj,hp.1]);(·(rcases bP.1 hp with rfl|hp);(·rw[hq2]at Oo;cases Oo;exact⟨⟨_,hR,rfl,rfl,hl⟩,amq⟩);·exact g3 p R' hp Oo);(·(rcases bP.1 hq' with rfl|hq');(·simp);·exact bm _ (g4 q' hq'));(·(rcases bP.1 hp with rfl|hp);(·cases ob1 with|none=>exact .inl (by simp)|some b=>refine .inr λb' o' iA=> ?_;obtain⟨o2,h2⟩:=aKU b rfl;rw[h2]at iA;cases iA;simp);·(rcases g6 p R' hp Oo with h1|h1);(·refine .inl ?_;split;(·exact bm _ h1);·exact h1);·exact .inr λb' o' iA=>bN _ (h1 b' o' iA));(·(rcases bt.1 hb' with hb'|hb');(·exact dZ _ hb');·exact bN _ (g7 b' hb'));·obtain⟨m1,m2,m3⟩:=dX.1 Jg;obtain⟨m6,m7⟩:=g9 m2;refine⟨m6,λb' hb' hm=> ?_⟩;(rcases bt.1 hb' with hb'|hb');(·exact m3 _ hb' _ (g8 _ hm) rfl);·exact m7 b' hb' hm|gone q z xs qs os ns ob em hR t ih=>intro sti stB hn hs hb;obtain⟨asq,hn2⟩:=Gu.1 hn;simp only[sr]at hb;obtain⟨g1,g2,g3,g4,mb,fb,g5,g6,g7,g8,g9⟩:=ih hn2 (λp hp=>by have h1:p≠q:=λe=>asq (e▸hp);simp only[St.bj,h1,aJ];exact hs p (bm _ hp)) hb;(have hq2:stB.r q=au:=by rw[g2 q asq];simp[St.bj]);refine⟨g1,λp hp=> ?_,λp R' hp Oo=> ?_,λq' hq'=> ?_,mb,fb,.gone q _ _ _ _ g5,λp R' hp Oo=> ?_,g7,g8,g9⟩;(·simp only[bP,agG]at hp;rw[g2 p hp.2];simp[St.bj,hp.1]);(·(rcases bP.1 hp with rfl|hp);(·rw[hq2]at Oo;cases Oo);·exact g3 p R' hp Oo);(·(rcases bP.1 hq' with rfl|hq');(·simp);·exact bm _ (g4 q' hq'));·(rcases bP.1 hp with rfl|hp);(·rw[hq2]at Oo;cases Oo);·exact g6 p R' hp Oo
def LT.imp{ρ ρ':ax->aq (ax×ax)}{K':ax->Prop}:∀{qs:ah ax} {os:ah A} {mb fb:ah ax},LT φ ρ w' K' r qs os mb fb->(∀q∈qs,∀z x,r q=ai ⟨aB,z,[x]⟩->r' q=ai ⟨aB,z,[x]⟩/\ρ' q=ρ q)-> LT φ ρ' w' K' r' qs os mb fb:=by intro qs os mb fb h;induction h with|nil=>intro _;exact .nil|iU q z b o y bs qs os mb fb hR hρ hB hq t ih=>intro hs;have h1:=hs q (by simp) _ _ hR;exact .iU q z b o y bs qs os mb fb h1.1 (h1.2.trans hρ) hB hq (ih λq' hq'=>hs q' (bm _ hq'))|l7 q z ys ob qs os mb fb t ih=>intro hs;exact .l7 q z ys ob qs os mb fb (ih λq' hq'=>hs q' (bm _ hq'))|gone q qs os mb fb t ih=>intro hs;exact .gone q qs os mb fb (ih λq' hq'=>hs q' (bm _ hq'))
def fT.bj{q c:ax}{R:aq eO}{v:aL}{x:A}(h:fT φ E st.r w q c v x):fT φ E (st.bj q R).r w q c v x:=by cases h with|data _ h ha=>exact .data _ _ h ha|any h=>exact .any _ h|view off n hc h hv=>(have iS:sub q c≠q:=by intro e;simp only[sub]at e;omega);exact .view _ _ _ hc (h.afL λR' hR=>⟨by simpa[St.bj,iS]using hR,rfl⟩) hv
def Ql{K':ax->Prop}:∀{os:ah A} {qs mb fb:ah ax} {E:Env} {st1 st2:St},dC φ w0 L E st1 ev w'->E.ok=K'->LT φ E.ρ w' K' st1.r qs os mb fb->fb.Nodup->(∀b∈fb,jZ w0 L E st1 ev w' b)->lK st1 qs os=ai st2->
 ∃E2,dC φ w0 L E2 st2 ev w'/\E2.ok=K'/\∀b,b∉fb->jZ w0 L E st1 ev w' b->jZ w0 L E2 st2 ev w' b
 | [],qs,mb,fb,E,st1,st2,h,hK,hl,hn,hF,ht=>by cases hl;simp[lK]at ht;subst ht;exact⟨E,h,hK,λ_ _ hf=>hf⟩
 |x::os,qs,mb,fb,E,st1,st2,h,hK,hl,hn,hF,ht=>by(cases hl with|l7 q z ys ob qs _ mb _ t=>simp only[lK]at ht;exact Ql h hK t hn hF ht|gone q qs _ mb fb t=>simp only[lK]at ht;exact Ql h hK t hn hF ht|iU q z b o y bs qs _ mb fb hR hρ hB hq t=>simp only[lK]at ht;split at ht;(·rename_i eJ;obtain⟨⟨cs,s⟩,hs,ht⟩:=aI.1 ht;obtain⟨n1,n2,n3⟩:=dX.1 hn;cases hB with|mk _ _ _ _ vs _ hcr Ao qP hz=>(have amo:q<1000:=by cases h.roots q _ hR;assumption);subst hK;obtain⟨E1,h1,hst,Ap,wi,lO,Vh⟩:=h.Ob hs hcr n1 (λb' hb'=>hF b' (dZ _ hb')) (by omega) (λc' a1 a2 p' R' hp hb x hx y' hy=>by cases hr:nM (sub q c') y' with|false=>rfl|true=>obtain⟨c2,hc2,e2,hx2⟩:=h.RQ hp hb hx hy hr;obtain⟨e3,e4⟩:=UW (by omega) hc2 e2;subst e3;subst e4;rw[hR]at hp;cases hp;rw[aT]at hx;subst hx;rw[DM,cC,aM]at hx2;obtain⟨_,_,rfl⟩:=hx2;cases hr);(have hnS:∀p,p<1000->¬∃c',0<=c'/\c'<0+ae y.cells/\p=sub q c':=λp hp ⟨c',_,_,e⟩=>by have:=YF q c';omega);have hR1:=hst.b q _ (hnS q amo) hR rfl;have yY:=(hst.ρ q (hnS q amo)).trans hρ;have hlv:=hcr.length;(have hna:∀y∈cs,∀l,y≠ .agg l:=λy' hy'=>by obtain⟨c,hc⟩:=fO.1 hy';(have aXk:c<ae vs:=by(rcases bL c (ae cs)with h|h);(·omega);·simp[bU h]at hc);exact(lO c vs[c] y' (by simp) hc).asH);have hrc:(gh y cs).cells=cs:=mn wi hna;have h2:=h1.aFh (R':=⟨aB,z,[gh y cs]⟩) hR1 yY ⟨rfl,rfl,rfl⟩ (.box b o z _ vs yY (by rw[hrc,wi,hz]) amo (by rw[hrc,wi,hlv]) (λc u y' hu hy'=>by have:=lO c u y' hu (by rw[hrc]at hy';exact hy');rw[dL]at this;exact this.bj) Ao qP);have aBb:∀b',jZ w0 L E1 s ev w' b'->jZ w0 L E1 (s.bj q (ai ⟨aB,z,[gh y cs]⟩)) ev w' b':=λb' hf=>⟨hf.z,λq' b2 o' a1 a2=>hf.r q' b2 o' (by by_cases e:q'=q;(·subst e;rw[hR1];rfl);·simpa[St.bj,e]using a1) a2,hf.t⟩;obtain⟨E2,h3,adt,aRE⟩:=Ql h2 Ap (t.imp λq' hq' z' x' hr'=>by have iS:q'≠q:=λe=>hq (e▸hq');(have azD:q'<1000:=by cases h.roots q' _ hr';assumption);refine⟨?_,hst.ρ q' (hnS q' azD)⟩;simp only[St.bj,iS,aJ];exact hst.b q' _ (hnS q' azD) hr' rfl) n2 (λb' hb'=>aBb b' (Vh b' (λhm=>n3 b' hm b' hb' rfl) (hF b' (bN _ hb')))) ht;exact⟨E2,h3,adt,λb' hb' hf=>aRE b' (λhm=>hb' (bN _ hm)) (aBb b' (Vh b' (λhm=>hb' (dZ _ hm)) hf))⟩);·cases ht)
end
end Go.Ab
namespace Go.Ab
section
variable {P:bV} {φ:ax->ax} {w0:aU} {L:nU} {E E':Env} {st st':St} {ev ev':ax->aL} {w w':aU} {r r':ax->aq eO} {a:alk}
def evL(ev:ax->aL)(vs:ah aL):ax->aL:=λi=>if gs<=i then(vs[i-gs]?).getD undef else ev i
def dC.lay(h:dC φ w0 L E st ev w){vs:ah aL}{xs:ah A}(hv:hJ (λv x=>RV φ E st.r w v x/\∀k b,Tk v x k b->∃i,Tk (ev i) (st.t i) k b) vs xs):dC φ w0 L E (st.lay xs) (evL ev vs) w:=
 h.od (λ_ _ h=>h) (λj=>by simp only[St.lay,evL];split;(·cases hx:xs[j-gs]? with|none=>exact .one _ _ (.any _)|some x=>obtain⟨v,rW,h1⟩:=hv.get hx;rw[rW];exact h1.1);·exact h.me j) (λj k b ht=>by simp only[St.lay,evL]at ht;split at ht;(·cases hx:xs[j-gs]? with|none=>rw[hx]at ht;exact(Et _ _ ht).elim|some x=>obtain⟨v,rW,h1⟩:=hv.get hx;rw[hx,rW]at ht;exact h1.2 k b ht);·exact⟨j,ht⟩)
def dC.aOS{vs:ah aL}(h:dC φ w0 L E st (evL ev vs) w):dC φ w0 L E (st.lay []) ev w:=
 h.od (λ_ _ h=>h) (λj=>by simp only[St.lay];split;(·exact .one _ _ (.any _));·rename_i hj;have:=h.me j;simpa[evL,hj]using this) (λj k b ht=>by simp only[St.lay]at ht;split at ht;(·exact(Et _ _ ht).elim);·rename_i hj;exact⟨j,by simpa[evL,hj]using ht⟩)
def dC.aJA(h:dC φ w0 L E st ev w){i:ax}{x:A}(hv:RV φ E st.r w (ev i) x)(hn:∀k b,¬Tk (ev i) x k b):dC φ w0 L E (st.iW i x) ev w:=
 h.od (λ_ _ h=>h) (λj=>by simp only[St.iW];split;(·rename_i e;rw[e];exact hv);·exact h.me j) (λj k b ht=>by simp only[St.iW]at ht;split at ht;(·rename_i e;rw[e]at ht;exact(hn k b ht).elim);·exact⟨j,ht⟩)
def dC.aER(h:dC φ w0 L E st ev w)(d:ax):∀p' R',st.r p'=ai R'->R'.b=aB->∀x∈R'.xs,∀y∈x.cells,nM (CN d) y=aA:=λp' R' hp hb x hx y hy=>by cases hr:nM (CN d) y with|false=>rfl|true=>obtain⟨c,hc,e,_⟩:=h.RQ hp hb hx hy hr;(have hp':p'<1000:=by cases h.roots p' R' hp with|empty=>cases hb|sl=>cases hb|box b o z e vs hρ hz dE=>exact dE);simp only[CN,sub]at e;omega
def nU.CN{L:nU}{d:ax}:L.pl (Ab.CN d)=au:=by cases h:L.pl (Ab.CN d)with|none=>rfl|some p=>have:=L.lt _ _ h;simp only[Ab.CN]at this;omega
def dC.Um(h:dC φ w0 L E st ev w)(j:ax):∃E',dC φ w0 L E' (st.Um j) ev w:=by
 unfold St.Um;have hs:=h.me (gs+j);split;·rename_i k z xs e;rw[e]at hs;obtain⟨E1,h1,_,h2⟩:=h.as8 (q:=Ab.CN j) hs.Zh (λb ht=>⟨gs+j,by rw[e];exact .one _ _ _ _ ht⟩) nU.CN (h.aER j);exact⟨E1,h1.aJA (.one _ _ h2) GZ⟩
 .rename_i z e;rw[e]at hs;have e2:=hs.SN;have h1:=(h.kill (Ab.CN j)).YM (Ab.CN j);have h2:=h1.root (p:=au) (R:=⟨aA,z,[]⟩) (by simp[St.bj]) (λi=>LH _ _) (h1.aER j) (λ_ _ e=>by cases e) (λp' e=>by rw[nU.CN]at e;cases e) (.empty z (by simp));rw[Bc]at h2;exact⟨_,h2.aJA (by rw[e2];exact .one _ _ (.pP au _ 0 ⟨aA,z,[]⟩ (by simp[St.bj]) rfl (jJ _))) GZ⟩
 .exact⟨E,h⟩
def dC.jt:∀{n:ax} {bs:ah aW} {j:ax} {E:Env} {st st1:St},dC φ w0 L E st ev w->st.jt bs j n=ai st1->∃E',dC φ w0 L E' st1 ev w
 |0,bs,j,E,st,st1,h,hp=>by
  have:st1=st:=by cases bs with|nil=>simp[St.jt]at hp;exact hp.symm|cons b bs=>cases b<;>(simp[St.jt]at hp;exact hp.symm)
  subst this;exact⟨E,h⟩
 |n+1,[],j,E,st,st1,h,hp=>by simp only[St.jt]at hp;obtain⟨s,hs,hp⟩:=aI.1 hp;obtain⟨E1,h1,_⟩:=h.IS hs;exact h1.jt hp
 |n+1,aB::bs,j,E,st,st1,h,hp=>by simp only[St.jt]at hp;obtain⟨E1,h1⟩:=h.Um j;exact h1.jt hp
 |n+1,aA::bs,j,E,st,st1,h,hp=>by simp only[St.jt]at hp;obtain⟨s,hs,hp⟩:=aI.1 hp;obtain⟨E1,h1,_⟩:=h.IS hs;exact h1.jt hp
section
variable {o:Zp} {next:alk->aU->Prop} {Q:Exit->alk->aU->Prop} {cf:CF} {io:ax->ah aW}
def aFo{v:aL}{x:A}(h:lL φ E r w v x)(hn:uu x=aA)(k b:ax):¬Tk v x k b:=by intro ht;cases ht with|one _ _ _ _ ht=>cases ht;cases hn|xv=>(cases h with|data _ _ h=>cases h)|agg us zs j k b v' a' hv1 ha1 hk=>generalize hu:vt us.toArray=u at h;cases h with|data _ _ h1=>subst hu;exact bG (.agg us zs j k b v' a' hv1 ha1 hk) (Tk.rm h1)
def au6{d:aq ax}{rs:ah A}(he:Xz st d rs=ai st'): (∃z x i st3,rs=[.iU z [x]]/\d=ai i/\vm st i z x=ai st3/\st'=st3.put (ai i) (.loc i 0 0))\/(rs.any aaD=aA/\st'=st.put d (Ge (d.getD 0) rs)):=by
 unfold Xz at he;split at he;·obtain⟨st3,ht3,rfl⟩:=aM.1 he;exact .inl ⟨_,_,_,st3,rfl,rfl,ht3,rfl⟩
 .split at he;·cases he
  .rename_i hio;simp only[aC]at he;exact .inr ⟨by simpa using hio,he.symm⟩
def aLJ(h:oR φ w0 L E st a w)(hcf:CfG P φ w0 L cf){f:ej}{args:kZ ej}{tys:kZ bO}{f':dI}{alT:ah dI}(ho:o.op=.call ⟨.value f,args,tys⟩)(hf:db φ f f'=aB) (ha:kt φ args.toList alT=aB) (hd:∀i,o.dst=ai i->i<a.tmps.size) (Zu:∀i,o.dst=ai i->L.pl i=au) (he:eN cf io o.dst st (.call f' alT)=ai st') (hn:∀E' v w',oR φ w0 L E' st' (a.put o.dst v) w'->next (a.put o.dst v) w'):o.wp P a w next Q:=by
 have hfv:=eM h hf;simp only[eN]at he;split at he
 .rename_i g caps e1;rw[e1]at hfv;obtain⟨cv,hev,aqG,hcn⟩:=hfv.1.asl;obtain⟨st1,hp,he⟩:=aI.1 he;obtain⟨⟨ls,qs,ns⟩,hl,he⟩:=aI.1 he;simp only at he;split at he
  .rename_i Jg;(have Jg:ns.Nodup:=by simpa using Jg);obtain⟨ab,has,he⟩:=aI.1 he;obtain⟨⟨res,outs⟩,V7,he⟩:=aI.1 he;simp only at he;obtain⟨st2,hgb,he⟩:=aI.1 he;obtain⟨stB,hbl,hto⟩:=aI.1 hgb;have lO:hJ (λv x=>RV φ E st.r w v x/\∀k b,Tk v x k b->∃i,Tk (a.eval (.tmp i)) (st.t i) k b) (args.toList.map a.eval++cv) (alT.map (dI.v st)++caps):= (ahd h ha).append ⟨aqG.1,λj v x hv hx=>⟨.one _ _ (aqG.2 j v x hv hx),λk b ht=>(aFo (aqG.2 j v x hv hx) (hcn x (cq hx)) k b ht).elim⟩⟩;generalize aOk:args.toList.map a.eval++cv=Ah at lO;(have hN:ae alT+ae caps=ae Ah:=by have:=lO.1;simp at this;omega);rw[hN]at hp hl has;obtain⟨E1,h1⟩:=(h.todC.lay lO).jt hp;(have LD:hJ (RV φ E1 st1.r w) Ah ((Ay (ae Ah)).map λj=>st1.t (gs+j)):=by refine⟨by simp,λj v x hv hx=> ?_⟩;simp only[cC,aM]at hx;obtain⟨j',hj',rfl⟩:=hx;(have hjl:j<ae Ah:=by(rcases bL j (ae Ah)with h'|h');(·exact h');·simp[bU h']at hv);rw[List.getElem?_range hjl]at hj';simp only[aC]at hj';subst hj';have:=h1.me (gs+j);simp only[evL]at this;rw[aQ (by omega),show gs+j-gs=j from by omega,hv]at this;exact this);obtain⟨bs,ui,hnb,hlo⟩:=ar4 h1 LD hl has;obtain⟨aKF,Ap⟩:=hcf.1 g ab res outs V7;unfold Jf;rw[avX ho rfl hev aKF,Oper.upon_enter];(have hvs:(args.map a.eval++cv.toArray)=Ah.toArray:=by rw[<-aOk];apply aa7;simp);rw[hvs];(have hbs:∀b∈bs,¬E1.ok b/\ac8 w0 L b/\b<w.heap.size:=λb hb=>by obtain⟨p,_,hlv,o',hρ⟩:=hnb.1 b hb;exact h1.rz p b o' hlv hρ);refine(Ap w E1.ok Ah bs ui (hnb.2 Jg) (λb hb=>(hbs b hb).1) h1.okz (hcf.2.at h1 λ_ hb=>hb)).mono λe w' ⟨v,aD4,Mb⟩=> ?_;subst aD4;obtain⟨qQ,K',rb,ob,rfl,hKK,hK',R8,amn,aR3,aND⟩:=Mb.rest;obtain⟨em,aRV,aXq,aNI⟩:=hlo amn;have hU:=h1.aOS;obtain⟨g1,g2,g3,_,mb,fb,g5,g6,g7,g8,g9⟩:=aAJ h1 Mb.room aRV (sti:=st1.lay []) Jg (λ_ _=>rfl) hbl;have hBt:stB={st1.lay []with r:=stB.r}:=by cases stB;simp only at g1;subst g1;rfl
   have W:Wm w0 L E1 ⟨K',E1.ρ⟩ (st1.lay []).r stB.r w w' (· ∈bs):={
    same:=λb hb hn=>Mb.frame b hb hn
    size:=Mb.grow,env:=Mb.env,fr:=Mb.fr,room:=Mb.room,ρ:=rfl,ok:=hKK
    new:=λb hb=>by
     rcases hK' b hb with h1|h1|h1
     .exact .inl h1
     .exact .inr (.inl ⟨h1,bX (hbs b h1).2.2 Mb.grow⟩)
     .exact .inr (.inr h1)
    nok:=λb hb=>(hbs b hb).1
    aCp:=λb hb=>(hbs b hb).2.1
    sh:=λq R' hq=>by
     by_cases hm:q∈ns
     .exact(g3 q R' hm hq).1
     .rw[g2 q hm]at hq;exact⟨R',hq,rfl,rfl,rfl⟩}
   (have aOh:∀i k b,Tk (a.eval (.tmp i)) ((st1.lay []).t i) k b->b∉bs:=λi k b ht hb=>by obtain⟨p,_,hlv,o',hρ⟩:=hnb.1 b hb;exact(hU.tz i k b ht).2 p b o' hlv hρ rfl);(have hB:dC φ w0 L ⟨K',E1.ρ⟩ stB (λi=>a.eval (.tmp i)) w':=by rw[hBt];refine hU.back W aOh (λq b o' hlv hρ hb hk=> ?_) λq R' hq=> ?_;(·obtain⟨R',Oo⟩:=iM.1 hlv;by_cases hm:q∈ns;(·(rcases g6 q R' hm Oo with h5|h5);(·exact aNI Jg q h5 b o' hρ hb);·exact(aND b (bN _ (g7 b (h5 b o' hρ)))).1 hk);·rw[g2 q hm]at Oo;obtain⟨p,hp',aHh,o2,Me⟩:=hnb.1 b hb;exact h1.inj q p b o' b o2 (by rw[show st1.r q=ai R' from Oo];rfl) aHh hρ Me (λe=>hm (e▸hp')) rfl);by_cases hm:q∈ns;(·exact .inr ((g3 q R' hm hq).2 _));·rw[g2 q hm]at hq;refine .inl ⟨hq,λb o' hρ hb=> ?_⟩;obtain⟨p,hp',hlv,o2,Me⟩:=hnb.1 b hb;exact h1.inj q p b o' b o2 (by rw[show st1.r q=ai R' from hq];rfl) hlv hρ Me (λe=>hm (e▸hp')) rfl);obtain⟨n1,n2,n3⟩:=dX.1 aR3;obtain⟨n4,n5⟩:=g9 n2;have aD6:∀b,b∈rb++ob->(b∈rb\/b∈fb)->jZ w0 L ⟨K',E1.ρ⟩ stB (λi=>a.eval (.tmp i)) w' b:=by intro b hb hb2;obtain⟨k1,k2,k3⟩:=aND b hb;refine⟨⟨k1,?_,k2⟩,λq b' o' hlv hρ e=> ?_,λi k b' ht e=> ?_⟩;(·(rcases k3 with k3|k3);(·exact(hbs b k3).2.1);·exact .inl (dQ h.grow k3));(·subst e;obtain⟨R',Oo⟩:=iM.1 hlv;by_cases hm:q∈ns;(·obtain⟨R,hR,_⟩:=(g3 q R' hm Oo).1;(have hql:(st1.r q).isSome=aB:=by rw[hR];rfl);(rcases g6 q R' hm Oo with h5|h5);(·have:=aNI Jg q h5 b' o' hρ;(rcases k3 with k3|k3);(·exact this k3);·have:=(h1.rz q b' o' hql hρ).2.2;omega);·have hmb:=h5 b' o' hρ;(rcases hb2 with hb2|hb2);(·exact n3 _ hb2 _ (g7 _ hmb) rfl);·exact n5 _ hmb hb2);·(have hq1:st1.r q=ai R':=by have:=g2 q hm;rw[Oo]at this;exact this.symm);(have hql:(st1.r q).isSome=aB:=by rw[hq1];rfl);(rcases k3 with k3|k3);(·obtain⟨p,hp',aEc,o2,Me⟩:=hnb.1 b' k3;exact h1.inj q p b' o' b' o2 hql aEc hρ Me (λe=>hm (e▸hp')) rfl);·have:=(h1.rz q b' o' hql hρ).2.2;omega);·subst e;(have ht2:Tk (a.eval (.tmp i)) ((st1.lay []).t i) k b':=by rw[<-g1];exact ht);(rcases k3 with k3|k3);(·exact aOh i k b' ht2 k3);·have:=(hU.tz i k b' ht2).1.2.2;omega
   obtain⟨E2,h2,adt,aBb⟩:=Ql (K':=K') hB rfl g5 n4 (λb hb=>aD6 b (bN _ (g8 b hb)) (.inr hb)) hto;have aHe:∀b∈rb,jZ w0 L E2 st2 (λi=>a.eval (.tmp i)) w' b:=λb hb=>aBb b (λhm=>n3 b hb b (g8 b hm) rfl) (aD6 b (dZ _ hb) (.inl hb));have hS2:oR φ w0 L E2 st2 a w':=⟨h2,h.Gc⟩;rw[<-adt]at R8;(rcases au6 he with ⟨z,x,d,st3,Zx,hd1,ht3,hst⟩|⟨hio,hst⟩);(·subst Zx;subst hst;cases R8 with|cons v0 _ b0 vs0 _ bs0 WY ht0=>cases ht0;cases WY with|data _ hh=>cases hh|iU _ _ _ RY=>obtain⟨E3,h3,_,hrv,_⟩:=h2.vm ht3 RY (by simpa using n1) (λb hb=>aHe b (by simpa using hb)) (λp' e=>by rw[Zu d hd1]at e;cases e);rw[hd1]at hn⊢;have hS3:oR φ w0 L E3 st3 a w':=⟨h3,h.Gc⟩;exact hn E3 _ w' (hS3.put (hd d hd1) (.one _ _ hrv) ((LK.scalar aef).tok hS3)));·subst hst;have hlr:=azH (w0:=w0) (L:=L) (st:=st2) (a:=a) (E':=E2) R8 n1 (λb hb=>⟨(aHe b hb).z,(aHe b hb).r⟩) (λb hb=>(aHe b hb).t) hio (λ_ _ _ hh=>hh) (λ_ _ _ _ _ hh=>hh) (λ_ _ _ _ hh=>hh) (o.dst.getD 0);exact hn E2 _ w' (hS2.iW hd hlr.1 hlr.2)
  .cases he
 .cases he
def av8(hcf:CfG P φ w0 L cf)(h:oR φ w0 L E st a w){x:O}(hc:aDD P φ o.op x=aB)(hd:∀i,o.dst=ai i->i<a.tmps.size)(Zu:∀i,o.dst=ai i->L.pl i=au)(he:eN cf io o.dst st x=ai st') (hn:∀E' v w',oR φ w0 L E' st' (a.put o.dst v) w'->next (a.put o.dst v) w'):o.wp P a w next Q:=by
 generalize hop:o.op=op at hc;unfold aDD at hc
 split at hc<;>(try(cases hc;done))<;>(try simp only[az]at hc)<;>first
  |exact aO4 h hop hc hd Zu he hn
  |exact aIE h hop hc hd Zu he hn
  |exact aO5 h hop hc hd Zu he hn
  |exact aO7 h hop hc.1.1 hc.1.2 hc.2 hd he hn
  |exact aLJ h hcf hop hc.1 hc.2 hd Zu he hn
  |(simp only[eN]at he;cases he;done)
  |skip
 .obtain⟨⟨hnm,hz⟩,hp⟩:=hc;simp only[cS]at hnm;subst hnm;split at hz;·rename_i e ht;exact aO6 h hop ht hz hp hd he hn
  .cases hz
 .rename_i b args tys x';unfold abh at hc
  split at hc<;>(try(cases hc;done))<;>(try simp only[az]at hc)<;>first
   |(simp only[eN]at he;cases he;done)
   |skip
  rename_i ui axK;obtain⟨⟨h1,h2⟩,h3⟩:=hc;split at h3;·rename_i e e2 ht hu;split at h3;(·rename_i i hi;simp only[az,cS]at h3;obtain⟨⟨h4,h5⟩,h6⟩:=h3;split at h6;(·rename_i zv hzv;simp only[cS]at h6;rw[aJs ui,aJs axK]at hop;exact aO3 h hop h1 h2 ht hu hi h4 h5 hzv h6 hd he hn);·cases h6);·cases h3
  .cases h3
end
end
end Go.Ab
namespace Go.Ab
structure Al(s:ax)(a b:St):Prop where
 r:a.r=b.r
 t:∀i,i≠s->a.t i=b.t i
def RO{α β:Type}(R:α->β->Prop):aq α->aq β->Prop |some a,ai b=>R a b |none,au=>True |_,_=>JW
def PA{α:Type}(s:ax)(x y:α×St):Prop:=x.1=y.1/\Al s x.2 y.2
section
variable {α β γ δ:Type} {R:α->β->Prop} {S:γ->δ->Prop}
def RO.bind{x:aq α}{y:aq β}{F:α->aq γ}{G:β->aq δ}(h:RO R x y)(k:∀a b,R a b->RO S (F a) (G b)):RO S (x.bind F) (y.bind G):=by cases x<;>cases y<;>first|exact k _ _ h|exact aAq h|exact cR
def RO.map{x:aq α}{y:aq β}{f:α->γ}{g:β->δ}(h:RO R x y)(k:∀a b,R a b->S (f a) (g b)):RO S (x.map f) (y.map g):=by cases x<;>cases y<;>first|exact k _ _ h|exact aAq h|exact cR
def RO.same(x:aq α){F:α->aq γ}{G:α->aq δ}(k:∀a,RO S (F a) (G a)):RO S (x.bind F) (x.bind G):=by cases x with|none=>exact cR|some a=>exact k a
def RO.aJE(x:aq α){F:α->γ}{G:α->δ}(k:∀a,S (F a) (G a)):RO S (x.map F) (x.map G):=by cases x with|none=>exact cR|some a=>exact k a
end
section
variable {s:ax} {a b:St}
def Al.map(h:Al s a b)(f:A->A):Al s (a.map f) (b.map f):=⟨h.r,λi hi=>wE f (h.t i hi)⟩
def Al.root(h:Al s a b)(q:ax)(R:aq eO):Al s (a.bj q R) (b.bj q R):=⟨by simp only[St.bj,h.r],h.t⟩
def Al.put(h:Al s a b)(i:ax)(v:A):Al s (a.iW i v) (b.iW i v):=⟨h.r,λk hk=>by simp only[St.iW,h.t k hk]⟩
def Al.ahm(h:Al s a b)(d:aq ax)(v:A):Al s (a.put d v) (b.put d v):=by cases d with|none=>exact h|some i=>exact h.put i v
def Al.lay(h:Al s a b)(hs:s<gs)(vs:ah A):Al s (a.lay vs) (b.lay vs):=⟨h.r,λk hk=>by simp only[St.lay,h.t k hk]⟩
def Al.opd(h:Al s a b){x:dI}(hx:s∉ED x):x.v a=x.v b:=by cases x with|t i=>exact h.t i λe=>hx (by simp[ED,e])|c _=>rfl
def Al.aHP(h:Al s a b):∀{xs:ah dI},s∉xs.flatMap ED->xs.map (dI.v a)=xs.map (dI.v b)
 | [],_=>rfl
 |x::xs,hx=>by simp only[cr,bt,agG]at hx;rw[aY,aY,h.opd hx.1,h.aHP hx.2]
def azT(h:Al s a b){i:ax}(hi:i≠s)(j:ax):RO (Al s) (a.KY i j) (b.KY i j):=by
 unfold St.KY;rw[h.t i hi,h.r];split;·exact h.map _
 .refine RO.same _ λR=> ?_;split;·exact cR
  .exact(h.map _).root _ _
 .exact h
def asW(h:Al s a b){i:ax}(hi:i≠s):∀n:ax,RO (Al s) (a.IS i n) (b.IS i n) |0=>h |n+1=>(asW h hi n).bind λ_ _ h'=>azT h' hi n
def aHQ(h:Al s a b)(hs:s<gs)(j:ax):Al s (a.Um j) (b.Um j):=by
 unfold St.Um;rw[h.t (gs+j) (by omega)];split;·exact(((h.map _).map _).root _ _).put _ _
 .exact((h.map _).root _ _).put _ _
 .exact h
def ahi(hs:s<gs):∀(n:ax) (bs:ah aW) (j:ax) {a b:St},Al s a b->RO (Al s) (St.jt a bs j n) (St.jt b bs j n)
 |0,bs,j,a,b,h=>by(cases bs with|nil=>exact h|cons c bs=>cases c<;>exact h)
 |n+1,bs,j,a,b,h=>by
  have rh:∀l:ah aW,RO (Al s) ((a.IS (gs+j) (a.t (gs+j)).cells.length).bind λx=>St.jt x l (j+1) n) ((b.IS (gs+j) (b.t (gs+j)).cells.length).bind λx=>St.jt x l (j+1) n):=λl=>by
   rw[h.t (gs+j) (by omega)]
   exact(asW h (by omega) _).bind λ_ _ h'=>ahi hs n l (j+1) h'
  cases bs with
  |nil=>exact rh _
  |cons c bs=>
   cases c with
   |false=>exact rh _
   |true=>exact ahi hs n bs (j+1) (aHQ h hs j)
def aFt(h:Al s a b)(q c:ax)(x:A):RO (PA s) (YG q c a x) (YG q c b x):=by
 unfold YG;split
 .split;·exact⟨rfl,(h.map _).root _ _⟩
  .exact cR
 .split;·exact⟨rfl,h⟩
  .exact cR
def aoz(q:ax):∀(l:ah A) (c:ax) {a b:St},Al s a b->RO (PA s) (Ob q c a l) (Ob q c b l)
 | [],c,a,b,h=>⟨rfl,h⟩
 |x::l,c,a,b,h=>(aFt h q c x).bind λ(y,y') (z,z') h'=>by obtain⟨rfl,h'⟩:=h';exact(aoz q l (c+1) h').map λ(u,u') (w,w') h2=>by obtain⟨rfl,h2⟩:=h2;exact⟨rfl,h2⟩
def ayx(h:Al s a b)(q z:ax)(x:A):RO (Al s) (vm a q z x) (vm b q z x):=by
 unfold vm;split;·exact(aoz q x.cells 0 ((h.map _).root _ _)).map λ(y,y') (z,z') h'=>by obtain⟨rfl,h'⟩:=h';exact(h'.map _).root _ _
 .exact cR
def YY:∀(qs:ah ax) (l:ah A) {a b:St},Al s a b->RO (Al s) (sr a qs l) (sr b qs l)
 | [],l,a,b,h=>by(cases l with|nil=>exact h|cons _ _=>exact cR)
 |q::qs,[],a,b,h=>cR
 |q::qs,x::l,a,b,h=>by(cases x with|iU z xs=>(cases xs with|nil=>exact cR|cons x xs=>cases xs with|cons _ _=>exact cR|nil=>simp only[sr];rw[h.r];refine RO.same _ λR=> ?_;split;(·exact YY qs l ⟨rfl,h.t⟩);·exact cR)|l7 z xs=>exact YY qs l (h.root q _)|any=>exact YY qs l (h.root q au)|_=>exact cR)
def Qj:∀(qs:ah ax) (l:ah A) {a b:St},Al s a b->RO (Al s) (lK a qs l) (lK b qs l)
 | [],l,a,b,h=>by(cases l with|nil=>exact h|cons _ _=>exact cR)
 |q::qs,[],a,b,h=>cR
 |q::qs,x::l,a,b,h=>by(cases x with|iU z xs=>(cases xs with|nil=>exact cR|cons x xs=>cases xs with|cons _ _=>exact cR|nil=>simp only[lK];split;(·exact(aoz q x.cells 0 h).bind λ(y,y') (z,z') h'=>by obtain⟨rfl,h'⟩:=h';exact Qj qs l (h'.root _ _));·exact cR)|l7 z xs=>exact Qj qs l h|any=>exact Qj qs l h|_=>exact cR)
def amU{d:aq ax}{rs:ah A}(h:¬∃z x i,rs=[.iU z [x]]/\d=ai i)(st:St):Xz st d rs=if rs.any aaD then au else ai (st.put d (Ge (d.getD 0) rs)):=by
 unfold Xz;split;·exact bG ⟨_,_,_,rfl,rfl⟩ h
 .rfl
def aED(h:Al s a b)(d:aq ax)(rs:ah A):RO (Al s) (Xz a d rs) (Xz b d rs):=by
 by_cases h1:∃z x i,rs=[.iU z [x]]/\d=ai i;·obtain⟨z,x,i,rfl,rfl⟩:=h1;exact(ayx h i z x).map λ_ _ h'=>h'.ahm _ _
 .rw[amU h1,amU h1];split;·exact cR
  .exact h.ahm _ _
def ar3{a b:St}(h:a.r=b.r):∀(xs:ah (aq A)) (l:ah A),OR a xs l=OR b xs l
 | [],[]=>rfl
 | [],_::_=>rfl
 |some x::xs,[]=>rfl
 |none::xs,[]=>rfl
 |some x::xs,_::l=>by simp only[OR,ar3 h xs l]
 |none::xs,y::l=>by simp only[OR,ar3 h xs l,h]
def alE{a b:St}(h:a.r=b.r):∀(bs:ah aW) (l:ah A),xe a bs l=xe b bs l
 |bs,[]=>by cases bs with
  |nil=>rfl
  |cons b bs=>cases b<;>rfl
 |true::bs,x::l=>by
  have e:QW a x=QW b x:=by unfold QW;rw[h]
  simp only[xe,alE h bs l,e,h]
 |false::bs,x::l=>by simp only[xe,at4,alE h bs l]
 | [],x::l=>by simp only[xe,aJ8,alE h [] l]
def aw6(h:Al s a b)(hs:s<gs)(q c j:ax):RO (PA s) (a.ur q c j) (b.ur q c j):=by
 have hg:gs≠s:=by omega
 unfold St.ur;rw[h.t gs hg,h.r];split
 .split;·exact⟨rfl,((h.map _).map _).root _ _⟩
  .exact cR
 .split;·exact⟨rfl,h⟩
  .exact(azT h hg j).bind λx y h'=>by rw[h'.t gs hg];split;(·exact⟨rfl,h'⟩);·exact cR
 .exact⟨rfl,h⟩
 .split;·exact⟨rfl,h⟩
  .exact cR
def abf(hs:s<gs)(q c:ax):∀(n j:ax) {a b:St},Al s a b->RO (PA s) (a.jU q c j n) (b.jU q c j n)
 |0,j,a,b,h=>⟨rfl,h⟩
 |n+1,j,a,b,h=>(aw6 h hs q c j).bind λ(y,y') (z,z') h'=>by obtain⟨rfl,h'⟩:=h';exact(abf hs q c n (j+1) h').map λ(u,u') (w,w') h2=>by obtain⟨rfl,h2⟩:=h2;exact⟨rfl,h2⟩
def aE7(h:Al s a b)(hs:s<gs)(x:A):RO (PA s) (a.pin x) (b.pin x):=by
 have hg:gs≠s:=by omega
 exact(asW (h.put gs x) hg _).bind λy z h'=>by rw[h'.t gs hg];exact RO.aJE _ λv=>⟨rfl,h'.put _ _⟩
def auH(hs:s<gs)(z:ax):∀(l:ah (ax×dI)) (xs:ah A) {a b:St},s∉l.flatMap (λp=>ED p.2)->Al s a b->RO (PA s) (eN.Ve a z xs l) (eN.Ve b z xs l)
 | [],xs,a,b,hu,h=>⟨rfl,h⟩
 |(i,x)::l,xs,a,b,hu,h=>by simp only[cr,bt,agG]at hu;simp only[eN.Ve,h.opd hu.1];exact(aE7 h hs _).bind λ(y,y') (z,z') h'=>by obtain⟨rfl,h'⟩:=h';dsimp only;split;(·exact auH hs _ l _ hu.2 h');·exact cR
def aFr{cf:CF}{io:ax->ah aW}{d:aq ax}{o:O}(h:Al s a b)(hs:s<gs)(hu:s∉rI o):RO (Al s) (eN cf io d a o) (eN cf io d b o):=by
 have hg:gs≠s:=by omega
 cases o with|asg x=>simp only[eN,h.opd (x:=x) hu];split;(·split;(·exact(((h.map _).map _).root _ _).ahm _ _);·exact cR);(·split;(·exact((h.map _).root _ _).ahm _ _);·exact cR);·exact h.ahm _ _|alloc z zero=>(cases d with|none=>exact cR|some d=>simp only[eN];split;(·exact((h.map _).root _ _).ahm _ _);·exact cR)|box z x=>(cases d with|none=>exact cR|some d=>simp only[eN,h.opd (x:=x) hu,h.r];split;(·exact(abf hs d 0 z 0 (((h.put _ _).map _).root _ _)).map λ(y,y') (z,z') h'=>by obtain⟨rfl,h'⟩:=h';exact(((h'.put _ _).map _).root _ _).ahm _ _);·exact cR)|sto n x y=>simp only[rI,bt,agG]at hu;simp only[eN,h.opd hu.1,h.opd hu.2,h.r];split;(·split;(·refine RO.same _ λR=> ?_;split;(·split;(·exact(abf hs _ _ n 0 ((h.put _ _).root _ _)).map λ(y,y') (z,z') h'=>by obtain⟨rfl,h'⟩:=h';exact((h'.put _ _).root _ _).ahm _ _);·exact cR);(·exact(aE7 h hs _).bind λ(y,y') (z,z') h'=>by obtain⟨rfl,h'⟩:=h';dsimp only;split;(·rw[h'.r];exact RO.same _ λR=>RO.same _ λe=>RO.aJE _ λcs=>(h'.root _ _).ahm _ _);·exact cR);·exact cR);·exact cR);·exact cR|app z n x y=>(cases d with|none=>exact cR|some d=>simp only[rI,bt,agG]at hu;simp only[eN,h.opd hu.1,h.opd hu.2,h.r];refine RO.same _ λys=> ?_;split;(·split;(·exact(h.map _).ahm _ _);·exact cR);(·split;(·exact h.ahm _ _);·exact cR);(·refine RO.same _ λR=> ?_;split;(·exact((h.map _).root _ _).ahm _ _);·exact cR);·exact cR)|call f args=>simp only[rI,bt,agG]at hu;simp only[eN,h.opd hu.1,h.aHP hu.2];split;(·refine(ahi hs _ _ _ (h.lay hs _)).bind λx y h'=> ?_;rw[kx (g:=λj=>y.t (gs+j)) λj _=>h'.t _ (by omega),alE h'.r];refine RO.same _ λ(ls,qs,ns)=> ?_;dsimp only;split;(·rw[ar3 (a:={x with r:=less x.r ns}) (b:={y with r:=less y.r ns}) (by rw[h'.r])];exact RO.same _ λab=>RO.same _ λ(res,os)=>((YY qs os (h'.lay hs [])).bind λ_ _ h2=>Qj qs os h2).bind λ_ _ h3=>aED h3 d res);·exact cR);·exact cR|bsl z zero n ps=>(cases d with|none=>exact cR|some d=>simp only[eN];split;(·exact(auH hs z ps _ hu h).map λ(y,y') (z,z') h'=>by obtain⟨rfl,h'⟩:=h';exact h'.ahm _ _);·exact cR)|_=>exact cR
end
def Cc(a b:A):Prop:=∀xs,a=.xv xs->∃ys,b=.xv ys/\∀(i:ax) u,xs[i]? =ai u->ek u=aB->ys[i]? =ai u
def Cc.refl(a:A):Cc a a:=λxs e=>⟨xs,e,λ_ _ h _=>h⟩
def Cc.trans{a b c:A}(h:Cc a b)(h':Cc b c):Cc a c:=λxs e=>by obtain⟨ys,e1,h1⟩:=h xs e;obtain⟨zs,e2,h2⟩:=h' ys e1;exact⟨zs,e2,λi u hi hp=>h2 i u (h1 i u hi hp) hp⟩
def Hot(HL HV:ax->Prop)(v:A):Prop:=∀u∈parts v,(∀q i c,u=.loc q i c->HL q)/\∀q o n,u=.view q o n->HV q
structure Ev(HL HV:ax->Prop)(g m c:ax->aW)(a b:St):Prop where
 t:∀i,i<gs->(okv g (a.t i)=aB->b.t i=a.t i)/\Cc (a.t i) (b.t i)
 r:∀p,c p=aA->b.r p=a.r p
 s:∀p,m p=aA->(b.r p).isSome=(a.r p).isSome
 h:∀i,Hot HL HV (a.t i)->Hot HL HV (b.t i)
def BxS(a b:St):Prop:=∀p R,b.r p=ai R->R.b=aB->a.r p=ai R
structure Hy(HV:ax->Prop)(g m c:ax->aW):Prop where
 gm:∀p,g p=aB->m p=aB
 mc:∀p,m p=aB->c p=aB
 gv:∀p,HV p->g p=aB
section
variable {HL HV:ax->Prop} {g m c:ax->aW} {a b:St}
def Ev.refl(a:St):Ev HL HV g m c a a:=⟨λ_ _=>⟨λ_=>rfl,.refl _⟩,λ_ _=>rfl,λ_ _=>rfl,λ_ h=>h⟩
def Ev.trans{x:St}(h:Ev HL HV g m c a b)(h':Ev HL HV g m c b x):Ev HL HV g m c a x:=
 ⟨λi hi=>⟨λho=>by
   have e:=(h.t i hi).1 ho
   rw[(h'.t i hi).1 (by rw[e];exact ho),e],(h.t i hi).2.trans (h'.t i hi).2⟩,λp hp=>(h'.r p hp).trans (h.r p hp),λp hp=>(h'.s p hp).trans (h.s p hp),λi hi=>h'.h i (h.h i hi)⟩
def aEZ{u:A}(h:ek u=aB):ok1 g u=aB:=by cases u<;>first|exact h|simp[ek]at h
def Ev.map{f:A->A}(hf:∀u,ok1 g u=aB->f u=u)(hs:∀u,f u=u\/f u=.any\/∃z xs,f u=.sl z xs):Ev HL HV g m c a (a.map (gn f)):=by
 have hl:∀cs:ah A,cs.all (ok1 g)=aB->cs.map f=cs:=λcs h=>by rw[kx (g:=id) λu hu=>hf u (bz.1 h u hu),List.map_id]
 have hh:∀cs:ah A,(∀u∈cs,(∀q i c,u=.loc q i c->HL q)/\∀q o n,u=.view q o n->HV q)->∀u∈cs.map f,(∀q i c,u=.loc q i c->HL q)/\∀q o n,u=.view q o n->HV q:=λcs h u hu=>by obtain⟨w,hw,rfl⟩:=dF.1 hu;(rcases hs w with e|e|⟨z,xs,e⟩<;>rw[e]);(·exact h w hw);(·exact⟨nofun,nofun⟩);·exact⟨nofun,nofun⟩
 have h1:∀v,parts v=[v]->gn f v=f v->parts (f v)=[f v]:=λv e _=>by(rcases hs v with e'|e'|⟨z,xs,e'⟩<;>rw[e']);(·exact e);(·rfl);·rfl
 refine⟨λi _=>⟨λho=> ?_,λxs e=>⟨xs.map f,by simp only[St.map,e,gn],λj u hj hu=>by rw[cC,hj,aS,hf u (aEZ hu)]⟩⟩,λ_ _=>rfl,λ_ _=>rfl,λi hi=> ?_⟩
 .show gn f (a.t i)=a.t i;generalize a.t i=v at ho;unfold okv at ho
  cases v<;>first
   |exact wE A.agg (hl _ ho)
   |exact wE A.xv (hl _ ho)
   |exact wE (A.fn _) (hl _ ho)
   |exact hf _ (by simpa[parts]using ho)
 .show Hot HL HV (gn f (a.t i));generalize a.t i=v at hi;unfold Hot at hi⊢
  cases v<;>first
   |exact hh _ hi
   |(rw[show∀v,parts v=[v]->gn f v=f v->parts (gn f v)=[v].map f fromλv e e'=>by rw[e',h1 v e e'];rfl]
     .exact hh _ hi
     .rfl
     .rfl)
def Ev.kill{r:ax}(hg:g r=aB):Ev HL HV g m c a (a.kill r):=.map (λu hu=>by unfold MS;rw[aP];cases u<;>simp only[nM,ar,not_false_eq_true]<;>(simp only[ok1]at hu;intro e;rw[cS.1 e,hg]at hu;cases hu)) λu=>by
 unfold MS;split;·exact .inr (.inl rfl)
 .exact .inl rfl
def Ev.eW(k:ax):Ev HL HV g m c a (a.eW k):=.map (λu hu=>by cases u<;>first|rfl|simp[ok1,ek]at hu) λu=>by
 unfold Er;split;·exact .inr (.inl rfl)
 .exact .inl rfl
def Ev.arz(k:ax):Ev HL HV g m c a (a.map (arz k)):=.map (λu hu=>by cases u<;>first|rfl|simp[ok1,ek]at hu) λu=>by
 unfold UZ;split
 .split;·exact .inr (.inr ⟨_,_,rfl⟩)
  .exact .inl rfl
 .exact .inl rfl
def Ev.YK{r:ax}(R:eO)(hg:g r=aB):Ev HL HV g m c a (a.map (YK r R)):=.map (λu hu=>by
 cases u<;>first
  |rfl
  |(simp only[ok1]at hu;simp only[Ii];rw[aP];rintro rfl;rw[hg]at hu;cases hu)) λu=>by
 unfold Ii
 split
 .split
  .exact .inr (.inr ⟨_,_,rfl⟩)
  .exact .inl rfl
 .split
  .exact .inr (.inl rfl)
  .exact .inl rfl
 .exact .inl rfl
def Ev.root{q:ax}{R:aq eO}(hc:c q=aB)(hm:m q=aA->R.isSome=(a.r q).isSome):Ev HL HV g m c a (a.bj q R):=
 ⟨λ_ _=>⟨λ_=>rfl,.refl _⟩,λp hp=>by
   have:p≠q:=λe=>by rw[e,hc]at hp;cases hp
   simp[St.bj,this],λp hp=>by
   by_cases e:p=q
   .subst e;simpa[St.bj]using hm hp
   .simp[St.bj,e],λ_ h=>h⟩
def Ev.put{i:ax}{v:A}(hi:gs<=i)(hv:Hot HL HV v):Ev HL HV g m c a (a.iW i v):=
 ⟨λk hk=>by
   have:k≠i:=by omega
   rw[show(a.iW i v).t k=a.t k from by simp[St.iW,this]]
   exact⟨λ_=>rfl,.refl _⟩,λ_ _=>rfl,λ_ _=>rfl,λk hk=>by
   simp only[St.iW]
   split
   .exact hv
   .exact hk⟩
def Ev.lay{vs:ah A}(hv:∀v∈vs,Hot HL HV v):Ev HL HV g m c a (a.lay vs):=
 ⟨λk hk=>by
   have:¬gs<=k:=by omega
   rw[show(a.lay vs).t k=a.t k from by simp[St.lay,this]]
   exact⟨λ_=>rfl,.refl _⟩,λ_ _=>rfl,λ_ _=>rfl,λk hk=>by
   simp only[St.lay]
   split
   .cases e:vs[k-gs]? with
    |none=>exactλu hu=>by cases aT.1 hu;exact⟨nofun,nofun⟩
    |some v=>exact hv v (cq e)
   .exact hk⟩
def Hot.any:Hot HL HV .any:=λu hu=>by cases aT.1 hu;exact⟨nofun,nofun⟩
def axi{v:A}{j q o n:ax}(h:comp v j=.view q o n):.view q o n∈parts v:=by
 unfold comp at h
 cases e:v.cells[j]? with
 |none=>rw[e]at h;cases h
 |some u=>
  rw[e]at h;cases h;have:=cq e
  cases v<;>first
   |exact this
   |(cases aT.1 this;done)
   |(cases aT.1 this;exact aT.2 rfl)
def azU(H:Hy HV g m c){i j:ax}(hh:Hot HL HV (a.t i))(h:a.KY i j=ai b):Ev HL HV g m c a b/\BxS a b:=by
 unfold St.KY at h;split at h;·cases h;exact⟨.arz _,λ_ _ h _=>h⟩
 .rename_i q o n e;obtain⟨R,hR,h⟩:=aI.1 h;split at h;·cases h
  cases h;have hq:=H.gv q ((hh _ (axi e)).2 q o n rfl);refine⟨(Ev.YK R hq).trans (.root (H.mc _ (H.gm _ hq)) λe=>by rw[H.gm _ hq]at e;cases e),λp R h _=> ?_⟩;simp only[St.bj,St.map]at h;split at h;·cases h
  .exact h
 .cases h;exact⟨.refl _,λ_ _ h _=>h⟩
def asX(H:Hy HV g m c){i:ax}(hh:Hot HL HV (a.t i)):∀{n:ax} {b:St},a.IS i n=ai b->Ev HL HV g m c a b/\BxS a b
 |0,b,h=>by cases h;exact⟨.refl _,λ_ _ h _=>h⟩
 |n+1,b,h=>by obtain⟨s1,h1,h2⟩:=aI.1 h;obtain⟨e1,x1⟩:=asX H hh h1;obtain⟨e2,x2⟩:=azU H (e1.h i hh) h2;exact⟨e1.trans e2,λp R h hb=>x1 p R (x2 p R h hb) hb⟩
def aHR(H:Hy HV g m c){j:ax}(ho:HV (CN j)):Ev HL HV g m c a (a.Um j)/\BxS a (a.Um j):=by
 have hg:=H.gv _ ho;have hr:∀(x:St) z xs,Ev HL HV g m c x (x.bj (CN j) (ai ⟨aA,z,xs⟩)):=λx z xs=>.root (H.mc _ (H.gm _ hg)) λe=>by rw[H.gm _ hg]at e;cases e
 have hp:∀(x:St) (n:ax),Ev HL HV g m c x (x.iW (gs+j) (.view (CN j) 0 n)):=λx n=>.put (by omega) λu hu=>by cases aT.1 hu;exact⟨nofun,λq o n e=>by cases e;exact ho⟩
 have hb:∀p R z xs,(if p=CN j then ai (⟨aA,z,xs⟩:eO)else a.r p)=ai R->R.b=aB->a.r p=ai R:=λp R z xs h hb=>by split at h;(·cases h;cases hb);·exact h
 unfold St.Um;split;·exact⟨(((Ev.eW _).trans (.kill hg)).trans (hr _ _ _)).trans (hp _ _),λp R h=>hb p R _ _ h⟩
 .exact⟨((Ev.kill hg).trans (hr _ _ _)).trans (hp _ _),λp R h=>hb p R _ _ h⟩
 .exact⟨.refl _,λ_ _ h _=>h⟩
def ahj(H:Hy HV g m c)(ho:∀j,HV (CN j)):∀(n:ax) (bs:ah aW) (j:ax) {a b:St},(∀i,gs<=i->Hot HL HV (a.t i))->St.jt a bs j n=ai b->Ev HL HV g m c a b/\BxS a b
 |0,bs,j,a,b,hh,h=>by
  have:a=b:=by cases bs with|nil=>cases h;rfl|cons c bs=>cases c<;>(cases h;rfl)
  subst this;exact⟨.refl _,λ_ _ h _=>h⟩
 |n+1,bs,j,a,b,hh,h=>by
  have rh:∀l:ah aW,((a.IS (gs+j) (a.t (gs+j)).cells.length).bind λx=>St.jt x l (j+1) n)=ai b->Ev HL HV g m c a b/\BxS a b:=λl h=>by
   obtain⟨s1,h1,h2⟩:=aI.1 h
   obtain⟨e1,x1⟩:=asX H (hh _ (by omega)) h1
   obtain⟨e2,x2⟩:=ahj H ho n l (j+1) (λi hi=>e1.h i (hh i hi)) h2
   exact⟨e1.trans e2,λp R h hb=>x1 p R (x2 p R h hb) hb⟩
  cases bs with
  |nil=>exact rh _ h
  |cons c' bs=>
   cases c' with
   |false=>exact rh _ h
   |true=>
    obtain⟨e1,x1⟩:=aHR (HL:=HL) (a:=a) H (ho j)
    obtain⟨e2,x2⟩:=ahj H ho n bs (j+1) (λi hi=>e1.h i (hh i hi)) h
    exact⟨e1.trans e2,λp R h hb=>x1 p R (x2 p R h hb) hb⟩
def aoA(H:Hy HV g m c){q:ax}(hq:∀k,k<1000->g (sub q k)=aB):∀(l:ah A) (k:ax) {a:St} {xs:ah A} {b:St},Ob q k a l=ai (xs,b)->Ev HL HV g m c a b
 | [],k,a,xs,b,h=>by cases h;exact .refl _
 |x::l,k,a,xs,b,h=>by
  simp only[Ob]at h;obtain⟨⟨y,s1⟩,h1,h⟩:=aI.1 h;obtain⟨⟨ys,s2⟩,h2,h⟩:=aM.1 h;cases h;refine Ev.trans ?_ (aoA H hq l (k+1) h2);unfold YG at h1;split at h1;·split at h1;(·rename_i hk;cases h1;have hg:=hq k hk;exact(Ev.kill hg).trans (.root (H.mc _ (H.gm _ hg)) λe=>by rw[H.gm _ hg]at e;cases e));·cases h1
  .split at h1;(·cases h1;exact .refl _);·cases h1
def aqo(H:Hy HV g c c):∀(qs:ah ax) (l:ah A) {a b:St},(∀q∈qs,c q=aB/\∀R,a.r q=ai R->R.b=aB->∀x∈R.xs,∀i∈x.cells.flatMap fE,g i=aB)->sr a qs l=ai b->Ev HL HV g c c a b
 | [],[],a,b,hq,h=>by cases h;exact .refl _
 | [],_::_,a,b,hq,h=>by cases h
 |q::qs,[],a,b,hq,h=>by cases h
 |q::qs,x::l,a,b,hq,h=>by
  have ih:∀{R0:aq eO} {f:ax->aW},(∀R,R0=ai R->R.b=aB->∀x∈R.xs,∀i∈x.cells.flatMap fE,g i=aB)->(∀i,f i=aB->g i=aB)->sr {a with r:=λi=>if i=q then R0 else if f i=aB then au else a.r i} qs l=ai b->Ev HL HV g c c a b:=λ{R0 f} h0 hf h=>by
   refine Ev.trans (b:={a with r:=λi=>if i=q then R0 else if f i=aB then au else a.r i}) ⟨λ_ _=>⟨λ_=>rfl,.refl _⟩,λp hp=> ?_,λp hp=> ?_,λ_ h=>h⟩ (aqo H qs l (λq' h'=>⟨(hq q' (bm _ h')).1,λR hR hb=> ?_⟩) h)
   rotate_left 2
   .simp only at hR
    split at hR
    .exact h0 R hR hb
    .split at hR
     .cases hR
     .exact(hq q' (bm _ h')).2 R hR hb
   all_goals
    have h1:p≠q:=λe=>by rw[e,(hq q (cI ..)).1]at hp;cases hp
    have h2:¬f p=aB:=λe=>by rw[H.mc _ (H.gm _ (hf p e))]at hp;cases hp
    simp only[aP h1,aP h2]
  have ih0:∀{R0:aq eO},(∀R,R0=ai R->R.b=aB->JW)->sr (a.bj q R0) qs l=ai b->Ev HL HV g c c a b:=λ{R0} h0 h=>ih (R0:=R0) (f:=λ_=>aA) (λR e hb=>(h0 R e hb).elim) (λi e=>by cases e) (by simpa[St.bj]using h)
  cases x with
  |iU z xs=>
   cases xs with
   |nil=>cases h
   |cons x xs=>
    cases xs with
    |cons _ _=>cases h
    |nil=>
     simp only[sr]at h
     obtain⟨R,hR,h⟩:=aI.1 h
     split at h
     .rename_i x0 hb hx
      refine ih (λR' e _ y hy i hi=> ?_) (λi hi=>(hq q (cI ..)).2 R hR hb x0 (by rw[hx];exact aT.2 rfl) i (by simpa using hi)) h
      cases e
      cases aT.1 hy
      exfalso
      have hno:∀l:ah A,(l.map λ_=>A.any).flatMap fE=[]:=λl=>by induction l<;>simp_all[fE]
      unfold gh at hi
      split at hi
      .replace hi:i∈List.flatMap fE (ky (λ_=>A.any) _):=hi
       rw[hno]at hi;cases hi
      .cases TL:x.cells with
       |nil=>rw[TL]at hi;cases hi
       |cons _ _=>rw[TL]at hi;cases hi
     .cases h
  |l7 z xs=>exact ih0 (λR e hb=>by cases e;cases hb) h
  |any=>exact ih0 (λR e=>by cases e) h
  |_=>cases h
def Qk(H:Hy HV g c c):∀(qs:ah ax) (l:ah A) {a b:St},(∀q∈qs,c q=aB/\∀k,k<1000->g (sub q k)=aB)->lK a qs l=ai b->Ev HL HV g c c a b
 | [],[],a,b,hq,h=>by cases h;exact .refl _
 | [],_::_,a,b,hq,h=>by cases h
 |q::qs,[],a,b,hq,h=>by cases h
 |q::qs,x::l,a,b,hq,h=>by(have hq':∀q∈qs,c q=aB/\∀k,k<1000->g (sub q k)=aB:=λq' h'=>hq q' (bm _ h');cases x with|iU z xs=>(cases xs with|nil=>cases h|cons x xs=>cases xs with|cons _ _=>cases h|nil=>simp only[lK]at h;split at h;(·obtain⟨⟨cs,s1⟩,h1,h⟩:=aI.1 h;have h2:=hq q (cI ..);exact((aoA H h2.2 _ _ h1).trans (.root h2.1 λe=>by rw[h2.1]at e;cases e)).trans (Qk H qs l hq' h));·cases h)|l7 z xs=>exact Qk H qs l hq' h|any=>exact Qk H qs l hq' h|_=>cases h)
def abg(H:Hy HV g m c){q k:ax}(hq:∀k,k<1000->g (sub q k)=aB):∀(n j:ax) {a:St} {xs:ah A} {b:St},Hot HL HV (a.t gs)->a.jU q k j n=ai (xs,b)->Ev HL HV g m c a b
 |0,j,a,xs,b,hh,h=>by cases h;exact .refl _
 |n+1,j,a,xs,b,hh,h=>by
  simp only[St.jU]at h;obtain⟨⟨y,s1⟩,h1,h⟩:=aI.1 h;obtain⟨⟨ys,s2⟩,h2,h⟩:=aM.1 h;cases h;have e1:Ev HL HV g m c a s1:=by unfold St.ur at h1;split at h1;(·split at h1;(·rename_i hk;cases h1;have hg:=hq _ hk;exact((Ev.eW _).trans (.kill hg)).trans (.root (H.mc _ (H.gm _ hg)) λe=>by rw[H.gm _ hg]at e;cases e));·cases h1);(·split at h1;(·cases h1;exact .refl _);·obtain⟨s,h3,h1⟩:=aI.1 h1;split at h1;(·cases h1;exact(azU H hh h3).1);·cases h1);(·cases h1;exact .refl _);·split at h1;(·cases h1;exact .refl _);·cases h1
  exact e1.trans (abg H hq n (j+1) (e1.h gs hh) h2)
def aE8(H:Hy HV g m c){x v:A}(hh:Hot HL HV x)(h:a.pin x=ai (v,b)):Ev HL HV g m c a b:=by unfold St.pin at h;obtain⟨s1,h1,h⟩:=aI.1 h;obtain⟨u,_,h⟩:=aM.1 h;cases h;have e1:Ev HL HV g m c a (a.iW gs x):=.put (bx _) hh;exact(e1.trans (asX H (by simpa[St.iW]using hh) h1).1).trans (.put (bx _) .any)
def auI(H:Hy HV g m c){z:ax}:∀(l:ah (ax×dI)) (xs:ah A) {a:St} {ys:ah A} {b:St},(∀p∈l,Hot HL HV (p.2.v a))->eN.Ve a z xs l=ai (ys,b)->Ev HL HV g m c a b
 | [],xs,a,ys,b,hh,h=>by cases h;exact .refl _
 |(i,x)::l,xs,a,ys,b,hh,h=>by
  simp only[eN.Ve]at h;obtain⟨⟨y,s1⟩,h1,h⟩:=aI.1 h;have e1:=aE8 H (hh _ (cI ..)) h1;dsimp only at h;split at h;·refine e1.trans (auI H l _ (λp hp=> ?_) h);have:=hh p (bm _ hp);cases e:p.2 with|t k=>rw[e]at this;exact e1.h k this|c u=>rw[e]at this;exact this
  .cases h
end
def amQ:O->aW |.call ..=>aB |_=>aA
structure Fin(o:O)(d:aq ax)(a b:St):Prop where
 t:∀i,i<gs->d≠ai i->(okv (gone a o d) (a.t i)=aB->b.t i=a.t i)/\Cc (a.t i) (b.t i)
 r:∀p,TH a o d p=aA->b.r p=a.r p
 s:amQ o=aA->∀p,gone a o d p=aA->(b.r p).isSome=(a.r p).isSome
section
variable {a b:St} {o:O} {d:aq ax}
def alu{v u:A}(hv:v∈kv a o)(hu:u∈parts v){p:ax}(hp:p∈vn1 a.r u):gone a o d p=aB:=by unfold gone;rw[mZ];exact .inl (U8.2 ⟨v,hv,U8.2 ⟨u,hu,by simpa using hp⟩⟩)
def axs{i k:ax}(hi:i∈YI a o)(hk:k<1000):gone a o d (sub i k)=aB:=by unfold gone;simp only[mZ];exact .inr (.inl (U8.2 ⟨i,hi,cS.2 (by unfold sub;omega)⟩))
def amh{i:ax}(h:d=ai i):gone a o d i=aB/\∀k,k<1000->gone a o d (sub i k)=aB:=by subst h;unfold gone;simp only[mZ,cS];exact⟨.inr (.inr (.inl (.inl trivial))),λk hk=>.inr (.inr (.inl (.inr (by unfold sub;omega))))⟩
def auL{p:ax}(h:1002000<=p):gone a o d p=aB:=by unfold gone;simp only[mZ,aG];exact .inr (.inr (.inr h))
def hy(a:St)(o:O)(d:aq ax):Hy (λq=>gone a o d q=aB) (gone a o d) (gone a o d) (TH a o d):=
 ⟨λ_ h=>h,λp h=>by unfold TH;rw[h];rfl,λ_ h=>h⟩
def axF{v:A}(hv:v∈kv a o):Hot (λ_=>True) (λq=>gone a o d q=aB) v:=λu hu=>
 ⟨λ_ _ _ _=>trivial,λq i n e=>alu hv hu (by rw[e];exact aT.2 rfl)⟩
def Ev.fin{HL HV:ax->Prop}{m:ax->aW}{e:St}(h:Ev HL HV (gone a o d) m (TH a o d) a e)(hm:amQ o=aA->m=gone a o d)(v:A):Fin o d a (e.put d v):=by
 cases d with
 |none=>exact⟨λi hi _=>h.t i hi,h.r,λho=>hm ho▸h.s⟩
 |some k=>exact⟨λi hi hn=>by
   have:i≠k:=λe=>hn (by rw[e])
   simp only[St.put,aP this]
   exact h.t i hi,h.r,λho=>hm ho▸h.s⟩
def alD:∀(bs:ah aW) (l:ah A) {ls:ah (aq A)} {qs ns:ah ax},xe a bs l=ai (ls,qs,ns)->∀q∈qs,∃x∈l,∃R,a.r q=ai R/\((x=.loc q 0 0/\R.b=aB)\/∃n,x=.view q 0 n/\R.b=aA)
 |bs,[],ls,qs,ns,h=>by
  have:qs=[]:=by cases bs with|nil=>cases h;rfl|cons b bs=>cases b<;>(cases h;rfl)
  subst this;exact nofun
 |true::bs,x::l,ls,qs,ns,h=>by
  simp only[xe]at h;obtain⟨⟨i,y⟩,e1,h⟩:=aI.1 h;obtain⟨⟨xs,qs',ns'⟩,e2,h⟩:=aM.1 h;cases h;intro q hq;rcases bP.1 hq with rfl|hq
  .refine⟨x,cI ..,?_⟩;unfold QW at e1;split at e1;(·obtain⟨R,hr,e1⟩:=aI.1 e1;split at e1;(·rename_i hb hx;obtain⟨cs,_,e1⟩:=aM.1 e1;cases e1;exact⟨R,hr,.inl ⟨rfl,hb⟩⟩);·cases e1);(·obtain⟨R,hr,e1⟩:=aI.1 e1;split at e1;(·rename_i hc;cases e1;exact⟨R,hr,.inr ⟨_,rfl,hc.2⟩⟩);·cases e1);·cases e1
  .obtain⟨b,hb,k⟩:=alD bs l e2 q hq;exact⟨b,bm _ hb,k⟩
 |false::bs,x::l,ls,qs,ns,h=>by simp only[xe,at4]at h;obtain⟨⟨xs,qs',ns'⟩,e2,h⟩:=aM.1 h;cases h;intro q hq;obtain⟨b,hb,k⟩:=alD bs l e2 q hq;exact⟨b,bm _ hb,k⟩
 | [],x::l,ls,qs,ns,h=>by simp only[xe,aJ8]at h;obtain⟨⟨xs,qs',ns'⟩,e2,h⟩:=aM.1 h;cases h;intro q hq;obtain⟨b,hb,k⟩:=alD [] l e2 q hq;exact⟨b,bm _ hb,k⟩
def avm(r:ax->aq eO)(v:A):names r v=(parts v).flatMap (KX r):=by cases v<;>simp[names,parts]
def aDA{cf:CF}{io:ax->ah aW}{f:dI}{args:ah dI}(h:eN cf io d a (.call f args)=ai b):Fin (.call f args) d a b:=by
 generalize ho:O.call f args=o at h;subst ho;simp only[eN]at h;split at h;rotate_left;·cases h
 rename_i gf caps hf;obtain⟨s1,h1,h⟩:=aI.1 h;obtain⟨⟨ls,qs,ns⟩,h2,h⟩:=aI.1 h;dsimp only at h;split at h;rotate_left;·cases h
 obtain⟨ab,_,h⟩:=aI.1 h;obtain⟨⟨res,os⟩,_,h⟩:=aI.1 h;obtain⟨s2,h3,h⟩:=aI.1 h;obtain⟨s3,h4,h5⟩:=aI.1 h3;let g:=gone a (.call f args) d
 let c:=TH a (.call f args) d
 let HV:ax->Prop:=λq=>g q=aB/\∀k,k<1000->g (sub q k)=aB
 let HL:ax->Prop:=λq=>(c q=aB/\∀k,k<1000->g (sub q k)=aB)/\∀R,a.r q=ai R->R.b=aB->∀x∈R.xs,∀i∈x.cells.flatMap fE,g i=aB
 have H:Hy HV g c c:=⟨λp hp=>by show TH _ _ _ _=aB;unfold TH;rw[show gone a (.call f args) d p=aB from hp];rfl,λ_ h=>h,λ_ h=>h.1⟩;have hkv:∀v∈args.map (dI.v a)++caps,v∈kv a (.call f args):=λv hv=>by simpa only[kv,hf]using hv
 have hot:∀v∈args.map (dI.v a)++caps,Hot HL HV v:=λv hv u hu=>by(have ht:∀q,q∈KX a.r u->q∈YI a (.call f args):=λq hq=>by(have:q∈names a.r v:=by rw[avm];exact wT.2 ⟨u,hu,hq⟩);simp only[YI,hf,bt,wT];(rcases bt.1 hv with h'|h');(·exact .inl ⟨v,h',this⟩);·exact .inr ⟨v,h',this⟩);refine⟨λq i k e=> ?_,λq o n e=> ?_⟩;(·have hq:=ht q (by rw[e];simp[KX]);refine⟨⟨by show TH _ _ _ _=aB;unfold TH;simp[hq],λk hk=>axs hq hk⟩,λR hR _ x hx i hi=>alu (hkv v hv) hu ?_⟩;rw[e];simp only[vn1,hR];exact wT.2 ⟨x,hx,hi⟩);·have hq:=ht q (by rw[e];simp[KX]);exact⟨alu (hkv v hv) hu (by rw[e];exact aT.2 rfl),λk hk=>axs hq hk⟩
 have e0:Ev HL HV g c c a (a.lay (args.map (dI.v a)++caps)):=.lay hot;have hl:∀i,gs<=i->Hot HL HV ((a.lay (args.map (dI.v a)++caps)).t i):=λi hi=>by simp only[St.lay,aQ hi];cases e:(args.map (dI.v a)++caps)[i-gs]? with|none=>exact .any|some v=>exact hot v (cq e)
 obtain⟨e1,x1⟩:=ahj H (λj=>⟨auL (by unfold CN;omega),λk hk=>auL (by unfold sub CN;omega)⟩) _ _ _ hl h1;have hqs:∀q∈qs,(c q=aB/\∀R,s1.r q=ai R->R.b=aB->∀x∈R.xs,∀i∈x.cells.flatMap fE,g i=aB)/\∀k,k<1000->g (sub q k)=aB:=λq hq=>by obtain⟨x,hx,R,hR,hk⟩:=alD _ _ h2 q hq;obtain⟨j,_,rfl⟩:=dF.1 hx;have hj:=e1.h (gs+j) (hl _ (by omega));(rcases hk with ⟨e,hb⟩|⟨n,e,hb⟩);(·have h6:=(hj (.loc q 0 0) (by rw[e];exact aT.2 rfl)).1 q 0 0 rfl;exact⟨⟨h6.1.1,λR' Oo hb'=>h6.2 R' (x1 q R' Oo hb') hb'⟩,h6.1.2⟩);·have h6:=(hj (.view q 0 n) (by rw[e];exact aT.2 rfl)).2 q 0 n rfl;exact⟨⟨H.mc _ (H.gm _ h6.1),λR' Oo hb'=>by rw[hR]at Oo;cases Oo;rw[hb]at hb';cases hb'⟩,h6.2⟩
 have e2:Ev HL HV g c c s1 (s1.lay []):=.lay nofun;have e3:Ev HL HV g c c a s2:=(((e0.trans e1).trans e2).trans (aqo H qs os (λq hq=>(hqs q hq).1) h4)).trans (Qk H qs os (λq hq=>⟨(hqs q hq).1.1,(hqs q hq).2⟩) h5);by_cases hi:∃z x i,res=[.iU z [x]]/\d=ai i
 .obtain⟨z,x,i,rfl,rfl⟩:=hi;obtain⟨s4,h6,rfl⟩:=aM.1 (show(vm s2 i z x).map (λst1=>st1.put (ai i) (.loc i 0 0))=ai b from h);refine Ev.fin (e3.trans ?_) nofun _;unfold vm at h6;split at h6;·obtain⟨⟨cs,s5⟩,h7,rfl⟩:=aM.1 h6;obtain⟨gd,gk⟩:=amh (a:=a) (o:=.call f args) (d:=ai i) rfl;(have hr:∀(x:St) R,Ev HL HV g c c x (x.bj i R):=λx R=>.root (H.mc _ (H.gm _ gd)) λe=>by rw[H.mc _ (H.gm _ gd)]at e;cases e);exact((((Ev.kill gd).trans (hr _ _)).trans (aoA H gk _ _ h7)).trans (.kill gd)).trans (hr _ _)
  .cases h6
 .rw[amU hi]at h;split at h;·cases h
  .cases h;exact e3.fin nofun _
def arx{cf:CF}{io:ax->ah aW}(h:eN cf io d a o=ai b):Fin o d a b:=by
 have H:=hy a o d;have hc:∀{q:ax},gone a o d q=aB->TH a o d q=aB:=λhg=>(hy a o d).mc _ hg;have hr:∀{q:ax},gone a o d q=aB->∀(x:St) R,Ev (λ_=>True) (λq=>gone a o d q=aB) (gone a o d) (gone a o d) (TH a o d) x (x.bj q R):=λhg x R=>.root (hc hg) λe=>by rw[hg]at e;cases e
 cases o with|call f args=>exact aDA h|asg x=>simp only[eN]at h;split at h;(·split at h;(·cases h;obtain⟨gd,_⟩:=amh (a:=a) (o:=.asg x) rfl;exact(((Ev.eW _).trans (.kill gd)).trans (hr gd _ _)).fin (λ_=>rfl) _);·cases h);(·split at h;(·cases h;obtain⟨gd,_⟩:=amh (a:=a) (o:=.asg x) rfl;exact((Ev.kill gd).trans (hr gd _ _)).fin (λ_=>rfl) _);·cases h);·cases h;exact(Ev.refl (HL:=λ_=>True) (HV:=λ_=>True) a).fin (λ_=>rfl) _|alloc z zero=>(cases d with|none=>cases h|some k=>simp only[eN]at h;split at h;(·cases h;obtain⟨gd,_⟩:=amh (a:=a) (o:=.alloc z zero) (d:=ai k) rfl;exact((Ev.kill gd).trans (hr gd _ _)).fin (λ_=>rfl) _);·cases h)|box z x=>(cases d with|none=>cases h|some k=>simp only[eN]at h;split at h;(·obtain⟨⟨cs,s1⟩,h1,h⟩:=aM.1 h;cases h;obtain⟨gd,gk⟩:=amh (a:=a) (o:=.box z x) (d:=ai k) rfl;have hx:Hot (λ_=>True) (λq=>gone a (.box z x) (ai k) q=aB) (x.v a):=axF (aT.2 rfl);have e0:=((Ev.put (a:=a) (bx gs) hx).trans (.kill gd)).trans (hr gd _ au);have TL:=e0.trans (abg H gk _ _ (((Ev.kill (c:=TH a (.box z x) (ai k)) (m:=gone a (.box z x) (ai k)) gd).trans (hr gd _ au)).h gs (by simpa[St.iW]using hx)) h1);exact(((TL.trans (.put (bx gs) .any)).trans (.kill gd)).trans (hr gd _ _)).fin (λ_=>rfl) _);·cases h)|sto n x y=>simp only[eN]at h;split at h;rotate_left;(·cases h);split at h;rotate_left;(·cases h);rename_i q i k ea;obtain⟨R,hR,h⟩:=aI.1 h;have hy':Hot (λ_=>True) (λq=>gone a (.sto n x y) d q=aB) (y.v a):=axF (aT.2 rfl);(have ht:q∈YI a (.sto n x y):=by simp[YI,ea]);(have hcq:TH a (.sto n x y) d q=aB:=by unfold TH;simp[ht]);split at h;(·split at h;(·obtain⟨⟨vs,s1⟩,h1,h⟩:=aM.1 h;cases h;have e0:=abg H (λk hk=>axs ht hk) _ _ (by simpa[St.iW,St.bj]using hy') h1;have e1:=Ev.trans (Ev.trans (Ev.put (bx gs) hy') (Ev.root hcq λ_=>by simp[St.iW,hR])) e0;refine Ev.fin ((e1.trans (.put (bx gs) .any)).trans (.root hcq λhm=> ?_)) (λ_=>rfl) _;show _=(s1.r q).isSome;rw[e1.s q hm,hR];rfl);·cases h);(·obtain⟨⟨v,s1⟩,h1,h⟩:=aI.1 h;dsimp only at h;split at h;(·obtain⟨R',Oo,h⟩:=aI.1 h;obtain⟨e,_,h⟩:=aI.1 h;obtain⟨cs,_,h⟩:=aM.1 h;cases h;exact((aE8 H hy' h1).trans (.root hcq λ_=>by rw[Oo];rfl)).fin (λ_=>rfl) _);·cases h);·cases h|app z n x y=>(cases d with|none=>cases h|some k=>simp only[eN]at h;obtain⟨ys,_,h⟩:=aI.1 h;split at h;(·split at h;(·cases h;exact(Ev.eW (HL:=λ_=>True) (HV:=λ_=>True) _).fin (λ_=>rfl) _);·cases h);(·split at h;(·cases h;exact(Ev.refl (HL:=λ_=>True) (HV:=λ_=>True) a).fin (λ_=>rfl) _);·cases h);(·rename_i q off l ex;obtain⟨R,hR,h⟩:=aI.1 h;split at h;(·cases h;have hq:gone a (.app z n x y) (ai k) q=aB:=alu (v:=x.v a) (aT.2 rfl) (u:=.view q off l) (by rw[ex];exact aT.2 rfl) (aT.2 rfl);exact((Ev.kill hq).trans (hr hq _ _)).fin (λ_=>rfl) _);·cases h);·cases h)|bsl z zero n ps=>(cases d with|none=>cases h|some k=>simp only[eN]at h;split at h;(·obtain⟨⟨xs,s1⟩,h1,h⟩:=aM.1 h;cases h;exact(auI (HL:=λ_=>True) H ps _ (λp hp=>axF (dF.2 ⟨p,hp,rfl⟩)) h1).fin (λ_=>rfl) _);·cases h)|_=>cases h
end
end Go.Ab
namespace Go.Ab
section
variable {st st':St} {cf:CF} {io:ax->ah aW}
def Hd{x:dI}(h:∀i∈ED x,st.t i=st'.t i):x.v st=x.v st':=by cases x with|t i=>exact h i (by simp[ED])|c a=>rfl
def aE2{x:aq dI}(h:∀i∈aLm x,st.t i=st'.t i):x.map (dI.v st)=x.map (dI.v st'):=by cases x with|none=>rfl|some x=>simp[Hd (x:=x) h]
def asD:∀{xs:ah dI},(∀i∈xs.flatMap ED,st.t i=st'.t i)->xs.map (dI.v st)=xs.map (dI.v st')
 | [],_=>rfl
 |x::xs,h=>by rw[aY,aY,Hd (x:=x) λi hi=>h i (by simp[hi]),asD (xs:=xs) λi hi=>h i (by rw[cr];exact bN _ hi)]
def azo(hr:st.r=st'.r):∀{ps:ah (ax×ax×dI)} {cs:ah A},(∀i∈ps.flatMap (λp=>ED p.2.2),st.t i=st'.t i)->JY st cs ps=JY st' cs ps
 | [],_,_=>rfl
 |(off,z,x)::ps,cs,h=>by have hx:=Hd (x:=x) λi hi=>h i (by simp[hi]);simp only[JY,hx,hr];have ih:∀Vc,JY st Vc ps=JY st' Vc ps:=λVc=>azo hr λi hi=>h i (by rw[cr];exact bN _ hi);simp only[ih]
def azp(hr:st.r=st'.r){z:ax}:∀{ps:ah (ax×dI)} {cs:ah A},(∀i∈ps.flatMap (λp=>ED p.2),st.t i=st'.t i)->RX st z cs ps=RX st' z cs ps
 | [],_,_=>rfl
 |(j,x)::ps,cs,h=>by have hx:=Hd (x:=x) λi hi=>h i (by simp[hi]);have ih:∀Vc,RX st z Vc ps=RX st' z Vc ps:=λVc=>azp hr λi hi=>h i (by rw[cr];exact bN _ hi);simp only[RX,hx,ih]
def azb(hr:st.r=st'.r):∀{xs:ah dI},(∀i∈xs.flatMap ED,st.t i=st'.t i)->LX st xs=LX st' xs
 | [],_=>rfl
 |x::xs,h=>by have hx:=Hd (x:=x) λi hi=>h i (by simp[hi]);have ih:=azb hr (xs:=xs) λi hi=>h i (by rw[cr];exact bN _ hi);simp only[LX,hx,hr,ih]
def aiq(hr:st.r=st'.r){d:aq ax}{o:O}(h:∀i∈rI o,st.t i=st'.t i):ef cf io d st o=ef cf io d st' o:=by
 cases o with
 |mv x|asg x|aed x|un _ x|conv _ x|fa _ x|len x|lens x|ext x _|ld _ x=>
  have hx:=Hd (x:=x) (st:=st) (st':=st') h;simp only[ef,hx,hr]
 |box|alloc|sto|app=>rfl
 |pick c a b=>
  have h1:=Hd (x:=c) (st:=st) (st':=st') λi hi=>h i (by simp[rI,hi]);have h2:=Hd (x:=a) (st:=st) (st':=st') λi hi=>h i (by simp[rI,hi]);have h3:=Hd (x:=b) (st:=st) (st':=st') λi hi=>h i (by simp[rI,hi]);simp only[ef,h1,h2,h3]
 |build z ps=>simp only[ef,azo hr (ps:=ps) h]
 |bsl z zero n ps=>simp only[ef,azp hr (ps:=ps) h]
 |bin _ x y|eqb _ x y|ia _ x y|iaa _ _ x y|ix x y|ixa _ _ _ x y|mks _ _ _ x y=>
  have h1:=Hd (x:=x) (st:=st) (st':=st') λi hi=>h i (by simp[rI,hi]);have h2:=Hd (x:=y) (st:=st) (st':=st') λi hi=>h i (by simp[rI,hi]);simp only[ef,h1,h2,hr]
 |slc _ x lo hi|atc x lo hi=>
  have h1:=Hd (x:=x) (st:=st) (st':=st') λi hi=>h i (by simp[rI,hi]);have h2:=aE2 (x:=lo) (st:=st) (st':=st') λi hi=>h i (by simp[rI,hi]);have h3:=aE2 (x:=hi) (st:=st) (st':=st') λi hi=>h i (by simp[rI,hi]);simp only[ef,h1,h2,h3,hr]
 |max xs|min xs|mkf _ xs=>
  have h1:=asD (xs:=xs) (st:=st) (st':=st') h;simp only[ef,h1,hr]
 |call f args=>
  have h1:=Hd (x:=f) (st:=st) (st':=st') λi hi=>h i (by simp[rI,hi]);have h2:=asD (xs:=args) (st:=st) (st':=st') λi hi=>h i (by simp only[rI];exact bN _ hi);have h3:=azb hr (xs:=args) λi hi=>h i (by simp only[rI];exact bN _ hi);simp only[ef,h1,h2,h3,hr]
def stepG(cf:CF)(io:ax->ah aW)(all:ah Op)(st:St)(o:Op):aq St:=match guardOf all st o.g with
 |some aB=>step cf io st o
 |some aA=>ai (st.put o.d .undef)
 |none=>au
def aiT(all:ah Op)(o:Op)(l:ah Op)(st:St):yB cf io all (o::l) st=(stepG cf io all st o).bind (yB cf io all l):=by simp only[yB,stepG];cases guardOf all st o.g with|none=>rfl|some b=>cases b<;>rfl
def ami(all:ah Op):aq (ax×aW)->ah ax
 |none=>[]
 |some (j,_)=>match(all[j]?).bind (·.d)with|some d=>[d]|none=>[]
def as5(cf:CF)(io:ax->ah aW)(all:ah Op)(st:St)(o:Op):aq A:=match guardOf all st o.g with
 |some aB=>ef cf io o.d st o.o
 |some aA=>ai .undef
 |none=>au
def Ze{all:ah Op}{o:Op}(hw:o.w=aA)(st:St):stepG cf io all st o=(as5 cf io all st o).map (st.put o.d):=by simp only[stepG,as5,step,hw,ar,aJ];split<;>rfl
def apn{all:ah Op}{g:aq (ax×aW)}(h:∀i∈ami all g,st.t i=st'.t i):guardOf all st g=guardOf all st' g:=by cases g with|none=>rfl|some p=>obtain⟨j,b⟩:=p;simp only[guardOf];simp only[ami]at h;cases hd:(all[j]?).bind (·.d)with|none=>rfl|some d=>rw[hd]at h;simp only;rw[h d (by simp)]
def anR{all:ah Op}{o:Op}(hr:st.r=st'.r)(h:∀i∈rI o.o++ami all o.g,st.t i=st'.t i):as5 cf io all st o=as5 cf io all st' o:=by simp only[as5,apn (st:=st) (st':=st') λi hi=>h i (bN _ hi),aiq (st:=st) (st':=st') hr λi hi=>h i (dZ _ hi)]
def af0(all:ah Op)(x y:Op):aW:=!x.w&& !y.w&&(match x.d with|some d=> !(rI y.o++ami all y.g).contains d&&y.d !=ai d|none=>aB)&&(match y.d with|some d=> !(rI x.o++ami all x.g).contains d|none=>aB)
def aNd:dI->aW |.t _=>aB |.c a=>pure a
def lvl:O->ax |.mv _|.ext .. |.bin .. |.un .. |.ix .. |.lens _|.pick .. |.eqb .. |.ixa .. |.atc ..=>0 |.aed (.t _)|.fa _ (.t _)|.iaa _ _ (.t _) _|.len (.t _)=>1 |.build _ ps=>if ps.all λp=>aNd p.2.2 then 1 else 3 |.ld _ (.t _)|.ia _ (.t _) _|.slc _ (.t _) _ _=>2 |_=>3
def TF(x y:Op):aW:=!x.w&&(y.w&&(x.g.isNone&&(y.g.isNone&&(ao (lvl x.o<3)&&((match x.d with|some s=>ao (s<gs)&&(!(rI y.o).contains s&&(y.d !=ai s&&(y.av.contains s&& !(rI x.o).contains s)))|none=>aB)&& ((match x.o with|.ext (.t k) i=>ao (k<65536)&&(ao (i<16)&&(y.d !=ai k&&y.av.contains (4194304+16*k+i)))|_=>aA)||(rI x.o).all λk=>ao (k<gs)&&(y.d !=ai k&&y.av.contains (if lvl x.o=2\/lvl x.o=1/\amQ y.o=aB then gs+k else k))))))))
def asJ(x y:Op):aW:=match y.d with|some s=> !(rI x.o).contains s&&x.d !=ai s|none=>aB
def aJC(st:St)(d:aq ax)(v:A){i:ax}(h:d≠ai i):(st.put d v).t i=st.t i:=by cases d with|none=>rfl|some d=>have:i≠d:=λe=>h (by rw[e]);simp[St.put,this]
def aJB(st:St)(d:aq ax)(v:A):(st.put d v).r=st.r:=by cases d<;>rfl
def put_comm(st:St){d e:aq ax}(v u:A)(h:∀i,d=ai i->e≠ai i):(st.put d v).put e u=(st.put e u).put d v:=by cases d with|none=>rfl|some d=>cases e with|none=>rfl|some e=>have iS:d≠e:=λx=>h d rfl (by rw[x]);simp only[St.put];congr 1;funext i;by_cases h1:i=d;(·by_cases h2:i=e;(·omega);·simp[h1,iS]);·by_cases h2:i=e;(·simp[h2,arY iS]);·simp[h1,h2]
def av7{all:ah Op}{x y:Op}(h:af0 all x y=aB){st s1 s2:St}(h1:stepG cf io all st x=ai s1)(h2:stepG cf io all s1 y=ai s2): ∃t1,stepG cf io all st y=ai t1/\stepG cf io all t1 x=ai s2:=by
 simp only[af0,az,gj]at h;obtain⟨⟨⟨hx,hy⟩,hxd⟩,hyd⟩:=h;rw[Ze hx]at h1;rw[Ze hy]at h2;obtain⟨v,hv,rfl⟩:=aM.1 h1;obtain⟨u,hu,rfl⟩:=aM.1 h2;have e1:as5 cf io all (st.put x.d v) y=as5 cf io all st y:=anR (aJB _ _ _) λi hi=>aJC _ _ _ λe=>by rw[e]at hxd;simp only[az,gj,fP,jK]at hxd;exact hxd.1 hi
 rw[e1]at hu;have e2:as5 cf io all (st.put y.d u) x=as5 cf io all st x:=anR (aJB _ _ _) λi hi=>aJC _ _ _ λe=>by rw[e]at hyd;simp only[gj,fP,jK]at hyd;exact hyd hi
 refine⟨st.put y.d u,by rw[Ze hy,hu];rfl,?_⟩;rw[Ze hx,e2,hv];simp only[aS];rw[put_comm];intro i e1 e2;rw[e2]at hxd;simp only[az,RL,aCT]at hxd;exact hxd.2 e1
def aIc{r r':ax->aq eO}{a:A}(h:∀p i c,(a=.loc p i c\/a=.view p i c)->(r p).isSome=(r' p).isSome):nS r a=nS r' a:=by
 cases a<;>first
  |rfl
  |exact h _ _ _ (.inl rfl)
  |exact h _ _ _ (.inr rfl)
def aum{v u:A}(h:u∈v.cells):u∈parts v\/∀p i c,u≠ .loc p i c/\u≠ .view p i c:=by
 cases v<;>first
  |exact .inl h
  |(cases aT.1 h;exact .inr λp i c=>⟨nofun,nofun⟩)
def azn(r':ax->aq eO):∀(ps:ah (ax×ax×dI)) (cs:ah A),(∀p∈ps,∀u∈(p.2.2.v st).cells,nS st.r u=nS r' u)->JY st cs ps=JY ⟨st.t,r'⟩ cs ps
 | [],cs,h=>rfl
 |(off,z,x)::ps,cs,h=>by
  have e:x.v (⟨st.t,r'⟩:St)=x.v st:=by cases x<;>rfl
  have e1:(x.v st).cells.all (nS st.r)=(x.v st).cells.all (nS r'):=by rw[awB,bz,bz];exact forall_congr' λu=>⟨λh' hu=>h _ (cI ..) u hu▸h' hu,λh' hu=>(h _ (cI ..) u hu).symm▸h' hu⟩
  simp only[JY,e,e1,azn r' ps _ λp hp=>h p (bm _ hp)]
def aLs{d:aq ax}{o:O}(h:∀k∈rI o,st.t k=st'.t k)(h1:lvl o=1->∀k∈rI o,∀u∈parts (st.t k),∀p i c,(u=.loc p i c\/u=.view p i c)->(st.r p).isSome=(st'.r p).isSome) (h2:lvl o=2->∀k∈rI o,∀u∈parts (st.t k),∀p∈fE u,st.r p=st'.r p) (h3:lvl o<3):ef cf io d st o=ef cf io d st' o:=by
 refine Tv ?_ (aiq (st:=⟨st.t,st'.r⟩) (st':=st') rfl h);have aHU:∀{k:ax} {q:ax} {v:A},lvl o=1->k∈rI o->(∃i c,st.t k=.loc q i c\/st.t k=.view q i c)->(st.r q).map (λ_=>v)=(st'.r q).map λ_=>v:=λ{k q v} hl hk ⟨i,c,he⟩=>by have:=h1 hl k hk (st.t k) (by rcases he with e|e<;>(rw[e];exact aT.2 rfl)) q i c he;cases e1:st.r q<;>cases e2:st'.r q<;>simp_all
 have same:∀{k:ax} {q:ax},lvl o=2->k∈rI o->(∃i c,st.t k=.loc q i c\/st.t k=.view q i c)->st.r q=st'.r q:=λ{k q} hl hk ⟨i,c,he⟩=>h2 hl k hk (st.t k) (by rcases he with e|e<;>(rw[e];exact aT.2 rfl)) q (by rcases he with e|e<;>(rw[e];exact aT.2 rfl));have eo:dI.v (⟨st.t,st'.r⟩:St)=dI.v st:=by funext x;cases x<;>rfl
 cases o with
 |aed x=>
  cases x with|c a=>exact bG h3 (xB _)|t k=>simp only[ef,dI.v];split;(·rename_i q i c e;exact aHU rfl (aT.2 rfl) ⟨_,_,.inl e⟩);all_goals rfl
 |fa n x=>
  cases x with|c a=>exact bG h3 (xB _)|t k=>simp only[ef,dI.v];split;(·rename_i q i c e;exact aHU rfl (aT.2 rfl) ⟨_,_,.inl e⟩);all_goals rfl
 |iaa l z x j=>
  cases x with|c a=>exact bG h3 (xB _)|t k=>simp only[ef,eo];split;(·rename_i n q i c e1 e;split;(·exact aHU rfl (by simp[rI,ED]) ⟨_,_,.inl e⟩);·rfl);all_goals rfl
 |len x=>
  cases x with
  |c a=>exact bG h3 (xB _)
  |t k=>
   simp only[ef,dI.v]
   cases e:st.t k<;>first
    |rfl
    |(simp only[axT];rw[aGr,aGr];exact aHU rfl (aT.2 rfl) ⟨_,_,.inr e⟩)
 |build zero ps=>
  simp only[ef];rw[azn st'.r];intro p hp u hu;have hl:lvl (.build zero ps)=1:=by simp only[lvl]at h3⊢;split;(·rfl);·rename_i hn;rw[aP hn]at h3;omega
  refine aIc λq i c he=> ?_
  cases hx:p.2.2 with
  |t k=>
   rw[hx]at hu;(rcases aum hu with hm|hm);(·exact h1 hl k (wT.2 ⟨p,hp,by rw[hx];exact aT.2 rfl⟩) u hm q i c he);·exact(he.elim (hm q i c).1 (hm q i c).2).elim
  |c a=>
   exfalso;(have hc:(ps.all λp=>aNd p.2.2)=aB:=by simp only[lvl]at hl;split at hl;(·assumption);·cases hl);have:=bz.1 hc p hp;rw[hx]at this hu;have hpu:pure a=aB:=this;have hu:u∈a.cells:=hu
   have:ek u=aB:=by
    cases a<;>first
     |exact bz.1 hpu u hu
     |(cases aT.1 hu;exact hpu)
   rcases he with rfl|rfl<;>cases this
 |ld n x=>
  cases x with|c a=>exact bG h3 (xB _)|t k=>simp only[ef,dI.v];split;(·rename_i q i c e;rw[same rfl (aT.2 rfl) ⟨_,_,.inl e⟩]);all_goals rfl
 |ia z x j=>
  cases x with|c a=>exact bG h3 (xB _)|t k=>simp only[ef,eo];split;(·rename_i n q i c e1 e;rw[same rfl (by simp[rI,ED]) ⟨_,_,.inr e⟩]);all_goals rfl
 |slc z x lo hi=>
  cases x with|c a=>exact bG h3 (xB _)|t k=>simp only[ef,eo];split;(·rfl);(·rfl);(·rename_i e;rw[same rfl (by simp[rI,ED]) ⟨_,_,.inr e⟩]);(·rename_i e;rw[same rfl (by simp[rI,ED]) ⟨_,_,.inr e⟩]);·rfl
 |mv|ext|bin|un|ix|lens|pick|eqb|ixa|atc=>
  simp only[ef,eo]
 |_=>exact bG h3 (xB _)
section
variable {s:ax} {a b:St} {o:O} {d:aq ax}
def awj(h:Al s a b)(hu:s∉rI o):YI a o=YI b o:=by cases o with|call f args=>simp only[rI,bt,agG]at hu;simp only[YI,h.opd hu.1,h.aHP hu.2,h.r]|sto n x y=>simp only[rI,bt,agG]at hu;simp only[YI,h.opd hu.1]|_=>rfl
def aso(h:Al s a b)(hu:s∉rI o):gone a o d=gone b o d:=by
 have e:kv a o=kv b o:=by cases o with|call f args=>simp only[rI,bt,agG]at hu;simp only[kv,h.opd hu.1,h.aHP hu.2]|sto n x y|app _ _ x y=>simp only[rI,bt,agG]at hu;simp only[kv,h.opd hu.1,h.opd hu.2]|box z x=>simp only[kv,h.opd (x:=x) hu]|bsl z zero n ps=>refine kx λp hp=>h.opd λhm=>hu (wT.2 ⟨p,hp,hm⟩)|_=>rfl
 funext p;simp only[gone,e,awj h hu,h.r]
def base(k:ax):ax:=if 4194304<=k then k/16%65536 else if gs<=k then k-gs else k
def azR(h:Al s a b)(hu:s∉rI o){k:ax}(hk:base k≠s):ajC a o d k=ajC b o d k:=by
 have e:TH a o d=TH b o d:=by funext p;simp only[TH,aso h hu,awj h hu]
 unfold base at hk;unfold ajC;split;·rename_i hg;rw[aQ hg]at hk;rw[h.t _ hk]
 .rename_i hg;rw[aP hg]at hk;split;·rename_i hg;rw[aQ hg]at hk;rw[h.t _ hk,aso h hu,e]
  .rename_i hg;rw[aP hg]at hk;rw[h.t _ hk,aso h hu]
end
def aFe(st:St)(s:ax)(v:A):Al s (st.put (ai s) v) st:=⟨rfl,λi hi=>by simp[St.put,hi]⟩
def swap{x y:Op}(h:TF x y=aB){st s2:St}{v:A}(hv:ef cf io x.d st x.o=ai v)(hc:∀k∈y.av,(base k∈rI x.o\/x.d=ai (base k))->ajC (st.put x.d v) y.o y.d k=aB)(h2:eN cf io y.d (st.put x.d v) y.o=ai s2): ∃t1,eN cf io y.d st y.o=ai t1/\ef cf io x.d t1 x.o=ai v/\t1.put x.d v=s2:=by
 simp only[TF,az,aG]at h;obtain⟨_,_,_,_,hl,hd,hu⟩:=h;have hw:∃t1,eN cf io y.d st y.o=ai t1/\t1.put x.d v=s2/\∀k∈y.av,base k∈rI x.o->ajC st y.o y.d k=aB:=by cases hs:x.d with|none=>rw[hs]at h2 hc;exact⟨s2,h2,rfl,λk hk hb=>hc k hk (.inl hb)⟩|some s=>rw[hs]at h2 hc hd;simp only[az,aG,gj,fP,jK,RL,aCT]at hd;obtain⟨hg,hsu,hsd,hsa,hsx⟩:=hd;have hal:=aFe st s v;(have hb:base s=s:=by unfold base gs at*;rw[aP (by omega),aP (by omega)]);have h3:=aFr (cf:=cf) (io:=io) (d:=y.d) (o:=y.o) hal hg hsu;rw[h2]at h3;cases h4:eN cf io y.d st y.o with|none=>rw[h4]at h3;exact aAq h3|some t1=>rw[h4]at h3;have h3:Al s s2 t1:=h3;refine⟨t1,rfl,?_,λk hk hb'=> ?_⟩;(·have h5:=((arx h2).t s hg (λe=>hsd e)).1 (by have:=hc s hsa (.inr (by rw[hb]));unfold ajC at this;rw[aP (by unfold gs at hg;omega),aP (by omega)]at this;exact this);(have h6:s2.t s=v:=by rw[h5];simp[St.put]);cases s2 with|mk t r=>have hr:r=t1.r:=h3.r;subst hr;simp only[St.put,St.mk.injEq,pN];funext i;split;(·rename_i e;subst e;exact h6.symm);·rename_i e;exact(h3.t i e).symm);·rw[<-azR hal hsu λe=>hsx (e▸hb')];exact hc k hk (.inl hb')
 obtain⟨t1,h3,h4,h5⟩:=hw;refine⟨t1,h3,?_,h4⟩;have F:=arx h3;rcases Bool.or_eq_true_iff.1 hu with he|hu
 .split at he;·rename_i k i ho;simp only[az,aG,fP,RL,aCT]at he;obtain⟨hk,hi,hyd,hm⟩:=he;(have hb1:(4194304+16*k+i)/16%65536=k:=by omega);(have hb2:(4194304+16*k+i)%16=i:=by omega);(have hb:base (4194304+16*k+i)=k:=by unfold base;rw[aQ (by omega),hb1]);have h6:=h5 _ hm (by rw[hb,ho];exact aT.2 rfl);unfold ajC at h6;rw[aQ (by omega),hb1,hb2]at h6;(have hkg:k<gs:=by unfold gs;omega);rw[ho]at hv⊢;simp only[ef,dI.v]at hv⊢;split at h6;(·rename_i xs ex;split at h6;(·rename_i u eu;obtain⟨ys,e1,e2⟩:=(F.t k hkg λe=>hyd e).2 xs ex;rw[ex]at hv;simp only[eu,aC]at hv;subst hv;rw[e1];exact e2 i u eu h6);·cases h6);·cases h6
  .cases he
 .rw[<-hv];have hu:=bz.1 hu;have ok:∀k∈rI x.o,okv (gone st y.o y.d) (st.t k)=aB/\((lvl x.o=2\/lvl x.o=1/\amQ y.o=aB)->∀u∈parts (st.t k),∀p∈fE u,TH st y.o y.d p=aA):=λk hk=>by have h6:=hu k hk;simp only[az,aG,RL,aCT,fP]at h6;obtain⟨hg,hyd,hm⟩:=h6;unfold gs at hg;split at hm;(·have h7:=h5 _ hm (by unfold base gs;rw[aP (by omega),aQ (by omega)];simpa using hk);unfold ajC gs at h7;rw[aP (by omega),aQ (by omega)]at h7;simp only[Nat.add_sub_cancel_left,az,bz,gj]at h7;exact⟨h7.1,λ_=>h7.2⟩);·rename_i hn;have h7:=h5 _ hm (by unfold base gs;rw[aP (by omega),aP (by omega)];exact hk);unfold ajC gs at h7;rw[aP (by omega),aP (by omega)]at h7;exact⟨h7,λh=>bG h hn⟩
  have dE:∀k∈rI x.o,k<gs/\¬y.d=ai k:=λk hk=>by have h6:=hu k hk;simp only[az,aG,RL,aCT]at h6;exact⟨h6.1,h6.2.1⟩
  refine(aLs (λk hk=>((F.t k (dE k hk).1 (dE k hk).2).1 (ok k hk).1).symm) (λh1 k hk u hu p i c he=> ?_) (λh2 k hk u hu p hp=>(F.r p ((ok k hk).2 (.inl h2) u hu p hp)).symm) hl).symm;cases Ip:amQ y.o with|true=>rw[F.r p ((ok k hk).2 (.inr ⟨h1,Ip⟩) u hu p (by rcases he with e|e<;>(rw[e];exact aT.2 rfl)))]|false=>refine(F.s Ip p ?_).symm;have:=bz.1 (ok k hk).1 u hu;rcases he with rfl|rfl<;>simpa[ok1]using this
def VZ(cf:CF)(io:ax->ah aW)(all:ah Op)(st:St)(i:ax):aq St:=match all[i]? with
 |some x=>stepG cf io all st x
 |none=>ai st
def OI(cf:CF)(io:ax->ah aW)(all:ah Op):ah ax->St->aq St | [],st=>ai st |i::l,st=>(VZ cf io all st i).bind (OI cf io all l)
def aiU(all:ah Op):∀(l pre:ah Op) (st:St),all=pre++l->yB cf io all l st=OI cf io all (ac5 (ae pre) (ae l)) st
 | [],pre,st,_=>by simp[yB,OI]
 |o::l,pre,st,he=>by
  rw[aiT,bl,apj,OI]
  have hi:all[ae pre]? =ai o:=by rw[he];simp
  simp only[VZ,hi]
  cases hs:stepG cf io all st o with
  |none=>rfl
  |some s=>
   have:=aiU all l (pre++ [o]) s (by rw[he];simp)
   simpa using this
def ab4(all:ah Op):∀(l:ah ax) (st:St),yB cf io all (l.filterMap (all[·]?)) st=OI cf io all l st
 | [],st=>rfl
 |i::l,st=>by(cases hi:all[i]? with|none=>simp only[afT,hi,OI,VZ,ag,ab4 all l]|some x=>simp only[afT,hi,aiT,OI,VZ];cases stepG cf io all st x with|none=>rfl|some s=>exact ab4 all l s)
def aow(cf:CF)(io:ax->ah aW)(all:ah Op)(st:St)(i:ax):aq St:=match all[i]? with
 |some o=>(match guardOf all st o.g with|some aB=>if o.w then eN cf io o.d st o.o else(ef cf io o.d st o.o).map (st.put o.d)|some aA=>ai (st.put o.d .undef)|none=>au)
 |none=>ai st
def atf{all:ah Op}{i:ax}{st s:St}(h:VZ cf io all st i=ai s):aow cf io all st i=ai s:=by
 unfold VZ at h;unfold aow;split at h
 .unfold stepG step at h;split at h;·split at h;(·rename_i hw;rw[aQ hw];split at h;(·exact h);·cases h);·rename_i hw;rw[aP hw];exact h
  .exact h
  .cases h
 .exact h
def Un(all:ah Op)(V6 tab:ah (ah ax))(i j:ax):aW:=i !=j&&(!((V6[i]?).getD []).contains j&&(match all[i]?,all[j]? with|some x,ai y=>(x.w||(y.w||asJ x y))&&(((tab[j]?).getD []).contains i||(if y.w then TF x y else af0 all x y))|_,_=>aA))
def aFm{all:ah Op}{i:ax}{y:Op}(hi:all[i]? =ai y){post:ah ax}{Ot:St}:∀{pre:ah ax} {st:St},(∀j∈pre,∃x,all[j]? =ai x/\af0 all x y=aB)->OI cf io all (pre++i::post) st=ai Ot->
 ∃s1,VZ cf io all st i=ai s1/\OI cf io all (pre++post) s1=ai Ot
 | [],st,_,h=>aI.1 h
 |j::pre,st,ha,h=>by obtain⟨sj,hj,h⟩:=aI.1 h;obtain⟨s1,h1,h2⟩:=aFm hi (λk hk=>ha k (bm _ hk)) h;obtain⟨x,hx,hv⟩:=ha j (cI ..);simp only[VZ,hx,hi]at hj h1⊢;obtain⟨t1,h3,h4⟩:=av7 hv hj h1;exact⟨t1,h3,by simp only[Am,OI,VZ,hx,h4,ag];exact h2⟩
def aFn{all:ah Op}{i:ax}{y:Op}(hi:all[i]? =ai y)(hw:y.w=aB)(hg:y.g=au){post:ah ax}{Ot:St}:∀{pre:ah ax} {st:St},(∀j∈pre,∃x,all[j]? =ai x/\TF x y=aB)->pre.Pairwise (λj k=>∀x z,all[j]? =ai x->all[k]? =ai z->asJ x z=aB)->OI cf io all (pre++i::post) st=ai Ot->
 ∃s1,eN cf io y.d st y.o=ai s1/\OI cf io all (pre++post) s1=ai Ot/\∀k∈y.av,(∀j∈pre,∀x,all[j]? =ai x->x.d≠ai (base k))->ajC st y.o y.d k=aB
 | [],st,_,_,h=>by
  obtain⟨s1,h1,h2⟩:=aI.1 h;simp only[VZ,hi,stepG,hg,guardOf,step,hw,aK]at h1;split at h1;·rename_i hc;exact⟨s1,h1,h2,λk hk _=>bz.1 hc k hk⟩
  .cases h1
 |j::pre,st,ha,hp,h=>by
  obtain⟨sj,hj,h⟩:=aI.1 h
  obtain⟨hp1,hp2⟩:=kR.1 hp
  obtain⟨s1,h1,h2,h3⟩:=aFn hi hw hg (λk hk=>ha k (bm _ hk)) hp2 h
  obtain⟨x,hx,hr⟩:=ha j (cI ..)
  have hr':=hr
  simp only[TF,az,gj,apl]at hr'
  obtain⟨hxw,_,hxg,_,_,hxd,_⟩:=hr'
  simp only[VZ,hx,stepG,hxg,guardOf,step,hxw,ar,aJ]at hj
  obtain⟨v,hv,rfl⟩:=aM.1 hj
  obtain⟨t1,g1,g2,g3⟩:=swap hr hv (λk hk hb=>h3 k hk λj' hj' z hz e=>by have:=hp1 j' hj' x z hx hz;unfold asJ at this;rw[e]at this;simp only[az,gj,fP,jK,RL,aCT]at this;exact hb.elim this.1 this.2) h1
  refine⟨t1,g1,?_,λk hk hb=> ?_⟩
  .simp only[Am,OI,VZ,hx,stepG,hxg,guardOf,step,hxw,ar,aJ,g2,aS,ag,g3]
   exact h2
  .have h4:=h3 k hk λj' hj'=>hb j' (bm _ hj')
   cases hs:x.d with
   |none=>rw[hs]at h4;exact h4
   |some s=>
    rw[hs]at h4 hxd
    simp only[az,gj,fP,jK]at hxd
    rw[<-azR (aFe st s v) hxd.2.1 λe=>hb j (cI ..) x hx (by rw[hs,e])]
    exact h4
def ayp{all:ah Op}{V6 tab:ah (ah ax)}{i:ax}{pre post:ah ax}{st Ot:St}(hp:(pre++i::post).Pairwise (λj k=>Un all V6 tab j k=aB))(ht:∀j∈pre,¬j∈(tab[i]?).getD [])(h:OI cf io all (pre++i::post) st=ai Ot): ∃s1,aow cf io all st i=ai s1/\OI cf io all (pre++post) s1=ai Ot:=by
 obtain⟨p1,_,p3⟩:=OP.1 hp;have rh:∀j∈pre,∃x y,all[j]? =ai x/\all[i]? =ai y/\(if y.w then TF x y else af0 all x y)=aB:=λj hj=>by have h1:=p3 j hj i (cI ..);simp only[Un,az]at h1;have h2:=h1.2.2;split at h2;(·rename_i x y hx hy;simp only[az,mZ,fP,aG]at h2;exact⟨x,y,hx,hy,h2.2.resolve_left (ht j hj)⟩);·cases h2
 cases pre with|nil=>obtain⟨s1,h1,h2⟩:=aI.1 h;exact⟨s1,atf h1,h2⟩|cons j0 pre=>obtain⟨x0,y,hx0,hy,h0⟩:=rh j0 (cI ..);(have aBm:∀j∈j0::pre,∃x,all[j]? =ai x/\(if y.w then TF x y else af0 all x y)=aB:=λj hj=>by obtain⟨x,y',hx,hy',h1⟩:=rh j hj;rw[hy]at hy';cases hy';exact⟨x,hx,h1⟩);cases hw:y.w with|false=>simp only[hw,ar,aJ]at aBm;obtain⟨s1,h1,h2⟩:=aFm hy aBm h;exact⟨s1,atf h1,h2⟩|true=>simp only[hw,aK]at aBm h0;(have hg:y.g=au:=by simp only[TF,az,apl]at h0;exact h0.2.2.2.1);obtain⟨s1,h1,h2,_⟩:=aFn hy hw hg aBm (p1.imp_of_mem λ{a b} ha hb hab x z hx hz=>by simp only[Un,az,hx,hz,mZ]at hab;obtain⟨x',TL,hr⟩:=aBm a ha;obtain⟨z',hz',hr'⟩:=aBm b hb;rw[hx]at TL;cases TL;rw[hz]at hz';cases hz';simp only[TF,az,gj]at hr hr';(rcases hab.2.2.1 with e|e|e);(·rw[hr.1]at e;cases e);(·rw[hr'.1]at e;cases e);·exact e) h;exact⟨s1,by unfold aow;simp only[hy,hg,guardOf,hw,aK];exact h1,h2⟩
end
section
variable {P:bV} {φ:ax->ax} {w0:aU} {L:nU} {E E':Env} {st st':St} {w w':aU} {a:alk} {cf:CF} {io:ax->ah aW}
def azg(P:bV)(φ:ax->ax)(n:ax)(lp:ah aW)(o:Zp)(x:Op):aW:=o.dst==x.d&&o.guard==x.g&&aDD P φ o.op x.o&&(match o.dst with|some d=>ao (d<n)&& !((lp[d]?).getD aA)|none=>aB)
def AA(P:bV)(φ:ax->ax)(n:ax)(lp:ah aW):ah Zp->ah Op->aW | [],[]=>aB |o::os,x::xs=>azg P φ n lp o x&&AA P φ n lp os xs |_,_=>aA
def TI{n:ax}{lp:ah aW}:∀{os:ah Zp} {xs:ah Op},AA P φ n lp os xs=aB->ae os=ae xs
 | [],[],_=>rfl
 |o::os,x::xs,h=>by simp only[AA,az]at h;simp[TI h.2]
 | [],_::_,h=>by simp[AA]at h
 |_::_,[],h=>by simp[AA]at h
def af3{n:ax}{lp:ah aW}:∀{os:ah Zp} {xs:ah Op},AA P φ n lp os xs=aB->∀{i:ax} {o:Zp},os[i]? =ai o->∃x,xs[i]? =ai x/\azg P φ n lp o x=aB
 | [],[],_,i,o,h=>by simp at h
 |o::os,x::xs,h,0,o',hi=>by simp only[AA,az]at h;simp at hi;subst hi;exact⟨x,rfl,h.1⟩
 |o::os,x::xs,h,i+1,o',hi=>by simp only[AA,az]at h;obtain⟨y,hy,hc⟩:=af3 h.2 (i:=i) (by simpa using hi);exact⟨y,by simpa using hy,hc⟩
 | [],_::_,h,_,_,_=>by simp[AA]at h
 |_::_,[],h,_,_,_=>by simp[AA]at h
def auN{n:ax}{lp:ah aW}{ops:kZ Zp}{all:ah Op}(Zw:AA P φ n lp ops.toList all=aB)(h:oR φ w0 L E st a w){o:Zp}{b:aW}(hg:guardOf all st o.guard=ai b):acI o (yielded ops a.tmps)=b:=by
 unfold guardOf at hg;unfold acI;split at hg;·rename_i hgn;rw[hgn];simpa using hg
 .rename_i j vp hgs;rw[hgs];simp only;split at hg;·rename_i d hd;(have axx:(ops[j]?).bind (·.dst)=ai d:=by obtain⟨x,hx,hxd⟩:=aI.1 hd;have hl:=TI Zw;(have hj:j<ae ops.toList:=by rw[hl];(rcases bL j (ae all)with h'|h');(·exact h');·simp[bU h']at hx);obtain⟨y,hy,hc⟩:=af3 Zw (i:=j) (o:=ops.toList[j]) (by simp);rw[hx]at hy;cases hy;simp only[azg,az,cS]at hc;(have:ops[j]? =ai ops.toList[j]:=by rw[<-rL];simp);rw[this];simp only[ag];rw[hc.1.1.1];exact hxd);have hs:=h.me d;unfold yielded;rw[axx];simp only[ag];split at hg;(·rename_i c hc;rw[hc]at hs;have hv:=hs.RM;simp only[aa8]at hv;simp only[aC]at hg;(have:a.tmps[d]? =ai (.bool c):=by rw[fZ]at hv;cases ht:a.tmps[d]? with|none=>rw[ht]at hv;simp[undef]at hv|some u=>rw[ht]at hv;simp at hv;rw[hv]);rw[this];simp only;rw[<-hg];cases c<;>cases vp<;>rfl);(·rename_i hc;rw[hc]at hs;have hv:=hs.aB7;simp only[aa8]at hv;simp only[aC]at hg;rw[<-hg];cases ht:a.tmps[d]? with|none=>rfl|some u=>rw[fZ,ht]at hv;simp at hv;subst hv;rfl);·cases hg
  .cases hg
def axZ{v:aL}(k b:ax):¬Tk v .undef k b:=by intro h;cases h with|one _ _ _ _ h=>cases h
def anM(a:alk)(d:aq Tmp)(v:aL):(a.put d v).tmps.size=a.tmps.size:=by cases d<;>simp[aCq]
def avy(hcf:CfG P φ w0 L cf){lp:ah aW}(hlp:∀i p,L.pl i=ai p->(lp[i]?).getD aA=aB){n:ax}{ops:kZ Zp}{all:ah Op}(Zw:AA P φ n lp ops.toList all=aB)(h:oR φ w0 L E st a w)(hn:a.tmps.size=n){i:ax}{st1:St}(hs:aow cf io all st i=ai st1) {K:alk->aU->Prop} {Q:Exit->alk->aU->Prop} (hK:∀E' a' w',oR φ w0 L E' st1 a' w'->a'.tmps.size=n->K a' w'):wpOp P ops Q i K a w:=by unfold wpOp;cases ho:ops[i]? with|none=>have hl:=TI Zw;(have:all[i]? =au:=by rw[List.getElem?_eq_none_iff,<-hl];simpa using ho);simp only[aow,this,aC]at hs;subst hs;exact hK E a w h hn|some o=>obtain⟨x,hx,hc⟩:=af3 Zw (i:=i) (o:=o) (by rw[rL];exact ho);simp only[aow,hx]at hs;simp only[azg,az,cS]at hc;obtain⟨⟨⟨hd,hg⟩,hco⟩,hdn⟩:=hc;(have aKC:∀j,o.dst=ai j->j<a.tmps.size:=λj hj=>by rw[hj]at hdn;rw[hn];simp at hdn;exact hdn.1);(have Zu:∀j,o.dst=ai j->L.pl j=au:=λj hj=>by rw[hj]at hdn;cases Md:L.pl j with|none=>rfl|some p=>have:=hlp j p Md;simp[this]at hdn);simp only;rw[<-hg]at hs;split at hs;(·rename_i hgt;rw[auN Zw h hgt];simp only[aK];refine .inl ?_;split at hs;(·rw[<-hd]at hs;exact av8 hcf h hco aKC Zu hs λE' v w' hS=>hK E' _ w' hS ((anM a o.dst v).trans hn));·obtain⟨r,hr,rfl⟩:=aM.1 hs;rw[<-hd]at hr hK;exact auD hcf h hco aKC hr λE' v w' hS=>hK E' _ w' hS ((anM a o.dst v).trans hn));(·rename_i hgf;simp only[aC]at hs;subst hs;rw[auN Zw h hgf];simp only[ar,aJ];rw[<-hd]at hK;exact hK E _ w (h.iW aKC (.one _ _ .undef) ((LK.scalar axZ).tok h)) ((anM a o.dst undef).trans hn));·cases hs
def arp(hcf:CfG P φ w0 L cf){lp:ah aW}(hlp:∀i p,L.pl i=ai p->(lp[i]?).getD aA=aB){n:ax}{ops:kZ Zp}{all:ah Op}(Zw:AA P φ n lp ops.toList all=aB){Q:Exit->alk->aU->Prop}{Ot:St}(hQ:∀E' a' w',oR φ w0 L E' Ot a' w'->a'.tmps.size=n->Q .normal a' w'):
 ∀{l:ah ax} {E:Env} {st:St} {a:alk} {w:aU},oR φ w0 L E st a w->a.tmps.size=n->OI cf io all l st=ai Ot->wpOps P ops Q l a w
 | [],E,st,a,w,h,hn,hs=>by simp[OI]at hs;subst hs;exact hQ E a w h hn
 |i::l,E,st,a,w,h,hn,hs=>by rw[wpOps_cons];simp only[OI]at hs;obtain⟨s,h1,h2⟩:=aI.1 hs;exact avy hcf hlp Zw h hn (atf h1) λE' a' w' hS hn'=>arp hcf hlp Zw hQ hS hn' h2
def wF(o:Zp):ah ax:=(o.after.toList.filter (Region.binds .any)).map (·.on)
def closure:ah (ah ax)->ah (ah ax)->ah (ah ax) | [],jx=>jx |ds::l,jx=>closure l (jx++ [(ds++ds.flatMap λk=>(jx[k]?).getD []).eraseDups])
def aDF(V6 tab:ah (ah ax)):aW:=(Ay (ae tab)).all λi=>((tab[i]?).getD []).all λj=>((V6[i]?).getD []).any λk=>k==j||(ao (k<i)&&((tab[k]?).getD []).contains j)
def adh(all:ah Op)(V6 tab:ah (ah ax)):ah ax->aW | []=>aB |i::l=>l.all (Un all V6 tab i)&&adh all V6 tab l
def ain{all:ah Op}{V6 tab:ah (ah ax)}:∀{l:ah ax},adh all V6 tab l=aB->l.Pairwise λj k=>Un all V6 tab j k=aB
 | [],_=>.nil
 |i::l,h=>by simp only[adh,az,bz]at h;exact kR.2 ⟨h.1,ain h.2⟩
def aGZ(V6:ah (ah ax)):aW:=(Ay (ae V6)).all λi=>((V6[i]?).getD []).all λk=>ao (k<i)
def aDE(n:ax)(l:ah ax):aW:=ao (ae l<=n)&&(l.all (λi=>ao (i<n))&&(Ay n).all λi=>l.contains i)
def alq(ops:ah Zp)(all:ah Op):aW:=aGZ (ops.map wF)&&(aDF (ops.map wF) (closure (ops.map wF) [])&&(aDE (ae ops) (aE4 all 0 [])&&adh all (ops.map wF) (closure (ops.map wF) []) (aE4 all 0 [])))
def aLx{V6 tab:ah (ah ax)}(h:aDF V6 tab=aB){p:ax->Prop}(Ao:∀k,p k->∀j∈(V6[k]?).getD [],p j): ∀(n i:ax),i<n->(∀j∈(V6[i]?).getD [],p j)->∀j∈(tab[i]?).getD [],p j:=by intro n;induction n with|zero=>intro i hi;omega|succ n ih=>intro i hi hd j hj;(have tT:i<ae tab:=by(rcases bL i (ae tab)with h'|h');(·exact h');·simp[bU h']at hj);have h1:=bz.1 (bz.1 h i (at3.2 tT)) j hj;obtain⟨k,hk,hc⟩:=U8.1 h1;simp only[mZ,cS,az,aG,fP]at hc;(rcases hc with rfl|⟨dE,hm⟩);(·exact hd _ hk);·exact ih k (by omega) (Ao k (hd k hk)) j hm
def anP{ops:kZ Zp}{listed:kZ aW}{i:ax}(h:i∈atK .any ops listed):listed.getD i aB=aA/\i<ops.size/\∀j∈(((ops.toList.map wF)[i]?).getD []),listed.getD j aA=aB:=by
 obtain⟨h0,o,ho,lO⟩:=mem_ready.1 h;refine⟨h0,(RA.1 ho).1,λj hj=> ?_⟩;have:(ops.toList.map wF)[i]? =ai (wF o):=by rw[cC,rL,ho];rfl
 rw[this]at hj;simp only[jA,wF,dF,arV]at hj;obtain⟨e,⟨he,hb⟩,rfl⟩:=hj;exact lO e (by simpa using he) hb
def aAI(hcf:CfG P φ w0 L cf){lp:ah aW}(hlp:∀i p,L.pl i=ai p->(lp[i]?).getD aA=aB){n:ax}{ops:kZ Zp}{all:ah Op}(Zw:AA P φ n lp ops.toList all=aB)(hdr:alq ops.toList all=aB){Q:Exit->alk->aU->Prop}{Ot:St} (hQ:∀E' a' w',oR φ w0 L E' Ot a' w'->a'.tmps.size=n->Q .normal a' w'): ∀(OA:ax) {rem:ah ax} {listed:kZ aW} {E:Env} {st:St} {a:alk} {w:aU},ae rem<=OA->rem.Pairwise (λj k=>Un all (ops.toList.map wF) (closure (ops.toList.map wF) []) j k=aB)->listed.size=ops.size->(∀i,i∈rem↔i<ops.size/\listed.getD i aB=aA)-> (∀k,listed.getD k aA=aB->∀j∈(((ops.toList.map wF)[k]?).getD []),listed.getD j aA=aB)-> oR φ w0 L E st a w->a.tmps.size=n->OI cf io all rem st=ai Ot->wpAny P .any ops Q OA listed a w:=by simp only[alq,az]at hdr;obtain⟨hbk,aK1,_,_⟩:=hdr;intro OA;induction OA with|zero=>(intro rem listed E st a w eJ alz Aq au0 Ao h hn hs;obtain rfl:rem=[]:=fQ (by omega);simp[OI]at hs;subst hs;refine⟨?_,hQ E a w h hn⟩;cases hr:atK .any ops listed with|nil=>rfl|cons i l=>have:=anP (i:=i) (listed:=listed) (ops:=ops) (by rw[hr];simp);have:=(au0 i).2 ⟨this.2.1,this.1⟩;cases this)|succ OA ih=>intro rem listed E st a w eJ alz Aq au0 Ao h hn hs;refine⟨λhr=> ?_,λi hi=> ?_⟩;(·cases rem with|nil=>simp[OI]at hs;subst hs;exact hQ E a w h hn|cons i l=>exfalso;have hi:=(au0 i).1 (by simp);(have:i∈atK .any ops listed:=by(have ho:ops[i]? =ai ops[i]:=by simp[hi.1]);refine mem_ready.2 ⟨hi.2,ops[i],ho,λe he hb=> ?_⟩;(have hm:e.on∈(((ops.toList.map wF)[i]?).getD []):=by(have:(ops.toList.map wF)[i]? =ai (wF ops[i]):=by rw[cC,rL,ho];rfl);rw[this];simp only[jA,wF,dF,arV];exact⟨e,⟨by simpa using he,hb⟩,rfl⟩);(have dE:e.on<i:=by have h1:=bz.1 hbk i (at3.2 (by simp[hi.1]));have h2:=bz.1 h1 _ hm;simpa using h2);(have hnr:e.on∉i::l:=by intro hm2;(rcases bP.1 hm2 with h3|h3);(·omega);·have h4:=(kR.1 alz).1 _ h3;simp only[Un,az,gj,fP,jK]at h4;exact h4.2.1 hm);have h4:¬(listed.getD e.on aB=aA):=λh5=>hnr ((au0 e.on).2 ⟨by omega,h5⟩);(have h5:e.on<listed.size:=by rw[Aq];omega);rw[fZ]at h4⊢;simp[h5]at h4⊢;exact h4);rw[hr]at this;cases this);·obtain⟨hun,aNQ,aJc⟩:=anP hi;have aNP:=(au0 i).2 ⟨aNQ,hun⟩;obtain⟨pre,post,rfl⟩:=List.append_of_mem aNP;obtain⟨p1,p2,p3⟩:=OP.1 alz;obtain⟨s1,hs1,hs2⟩:=ayp alz (λj hj h1=>by have h2:=aLx aK1 (p:=λk=>listed.getD k aA=aB) Ao (i+1) i (by omega) aJc j h1;have h3:=((au0 j).1 (by simp[hj])).2;have h4:=((au0 j).1 (by simp[hj])).1;(have h5:j<listed.size:=by rw[Aq];omega);rw[fZ]at h2 h3;simp[h5]at h2 h3;rw[h2]at h3;cases h3) hs;refine avy hcf hlp Zw h hn hs1 λE' a' w' hS hn'=> ?_;(have aJn:∀{j:ax} {p:Prop},Un all (ops.toList.map wF) (closure (ops.toList.map wF) []) j j=aB->p:=λh=>by simp[Un]at h);have Jg:i∉pre/\i∉post:=⟨λhm=>aJn (p3 i hm i (by simp)),λhm=>aJn ((kR.1 p2).1 i hm)⟩;refine ih (rem:=pre++post) (by simp at eJ⊢;omega) ?_ (by simpa using Aq) (λj=> ?_) (λk hk j hj=> ?_) hS hn' hs2;(·exact OP.2 ⟨p1,(kR.1 p2).2,λx hx y hy=>p3 x hx y (bm _ hy)⟩);(·by_cases e:j=i;(·subst e;(have h5:j<listed.size:=by rw[Aq];exact aNQ);constructor;(·intro hm;(rcases bt.1 hm with hm|hm);(·exact bG hm Jg.1);·exact bG hm Jg.2);·rintro⟨_,hm⟩;rw[fZ]at hm;simp[h5]at hm);·rw[getD_set_ne aB (arY e),<-au0 j];simp[e]);·by_cases e:k=i;(·subst e;exact getD_set_true (aJc j hj));·rw[getD_set_ne aA (arY e)]at hk;exact getD_set_true (Ao k hk j hj)
end
end Go.Ab
namespace Go.Ab
section
variable {P:bV} {φ:ax->ax} {w0:aU} {L:nU} {E E':Env} {st st':St} {ev:ax->aL} {w w':aU} {a:alk} {cf:CF} {io:ax->ah aW}
def aI5:Fd fz1 (λ_=>JW) where
 tk:=λv x k b h=>by
  unfold fz1 at h;split at h;·cases h
  .rename_i hn;cases h;exact bG rfl (hn _ _ _)
 na:=λx h1 h2=>by unfold fz1;split<;>first|exact⟨h1,h2⟩|exact⟨(λ_ h=>by cases h),(λ_ h=>by cases h)⟩
 nt:=λx h=>by unfold fz1;split<;>first|exact h|rfl
def ath(f:ax->A):∀(l:ah ax) (i:ax),tab (l.map λj=>(j,f j)) i=if i∈l then f i else .any
 | [],i=>rfl
 |j::l,i=>by
  have ih:=ath f l i;simp only[tab,aY,aph]at ih⊢;by_cases h:i=j;·subst h;simp
  ·(have:(i==j)=aA:=by simpa using h);simp only[this];rw[ih];simp[h]
def anX(r:ax->aq eO):∀(l:ah ax) (i:ax) (R:eO),apR (l.filterMap λj=>(r j).map λR=>(j,R)) i=ai R->r i=ai R
 | [],i,R,h=>by simp[apR]at h
 |j::l,i,R,h=>by(simp only[afT]at h;cases hj:r j with|none=>rw[hj]at h;exact anX r l i R h|some R'=>rw[hj]at h;simp only[aS,apR,aph]at h;by_cases e:i=j;(·subst e;simp at h;rw[hj,h]);·(have:(i==j)=aA:=by simpa using e);simp only[this]at h;exact anX r l i R h)
def aiR(h:dC φ w0 L E st ev w)(fI j5:ah ax):∃E',dC φ w0 L E' (st.restrict fI j5) ev w:=by
 have hr:∀q R,(st.restrict fI j5).r q=ai R->st.r q=ai R:=λq R hq=>anX st.r j5 q R hq;refine⟨_,h.giveUp (N:=λ_=>JW) (T:=λ_=>True) (ok':=λb=>E.ok b\/∃i k,Tk (ev i) (st.t i) k b) (ev':=ev) (st':=st.restrict fI j5) (λb hb=>.inl hb) (λb hb=> ?_) (λq R hq=>⟨hr q R hq,id⟩) (λi=> ?_) (λi k b ht=> ?_)⟩
 .rcases hb with h1|⟨i,k,h1⟩
  .exact .inl h1
  .exact .inr (.inr ⟨i,k,trivial,h1⟩)
 .simp only[St.restrict,ath λj=>fz (st.t j)];split;·refine(h.me i).al4 aI5.nt λu y hty hy=> ?_;unfold fz1;split;(·rename_i k z xs;cases hy with|data _ _ hh=>cases hh|Ls=>exact .data _ _ (.Rx _ _ _)|tok b o cap j z xs vs LC h0 hz hh rW qP=>exact .data _ _ (.sl b o cap z xs vs (.inr ⟨i,_,hty _ _ (.mk ⟨b,o,au⟩ _ _ _ _ _ h0)⟩) hz LC (hh.mono (λ_ _=>rfl) (λb hb=>.inl hb)) rW));·exact lL.od (E':=⟨λb=>E.ok b\/∃i k,Tk (ev i) (st.t i) k b,E.ρ⟩) (λb hb=>Or.inl hb) (λq R hq=>⟨hr q R hq,rfl⟩) hy
  .exact .one _ _ (.any _)
 .exfalso;simp only[St.restrict,ath λj=>fz (st.t j)]at ht;split at ht;·exact(Tk.gn aI5 ht).2
  .exact Et _ _ ht
def auF(q:ax)(cs:ah A):Fd (Od q cs) (λ_=>True) where
 tk:=λv x k b h=>by
  unfold Od at h;split at h;·split at h;(·split at h<;>cases h);·exact⟨h,trivial⟩
  .exact⟨h,trivial⟩
 na:=λx h1 h2=>by unfold Od;split<;>(try split)<;>(try split)<;>first|exact⟨h1,h2⟩|exact⟨(λ_ h=>by cases h),(λ_ h=>by cases h)⟩
 nt:=λx h=>by unfold Od;split<;>(try split)<;>(try split)<;>first|exact h|rfl
def aaS{K:ax->Prop}:∀{vs:ah aL} {cs:ah A},ae vs=ae cs->(∀(c:ax) (v:aL) (a:A),vs[c]? =ai v->cs[c]? =ai a->gY φ w K v a)->dp φ w K vs cs
 | [],[],_,_=>.nil
 |v::vs,a::cs,hl,h=>.cons _ _ _ _ (h 0 v a rfl rfl) (aaS (by simpa using hl) λc u b hu hb=>h (c+1) u b (by simpa using hu) (by simpa using hb))
 | [],_::_,hl,_=>by simp at hl
 |_::_,[],hl,_=>by simp at hl
def ax6(h:dC φ w0 L E st ev w)(q:ax):∃E',dC φ w0 L E' (st.alG q) ev w:=by
 unfold St.alG;split;rotate_left;·exact⟨E,h⟩
 rename_i z x hR;split;rotate_left;·exact⟨E,h⟩
 rename_i hp;have hr:∀p R',((st.map (gn (Od q x.cells))).bj q au).r p=ai R'->st.r p=ai R'/\¬p=q:=λp R' hp=>by simp only[St.bj]at hp;split at hp;(·cases hp);·exact⟨hp,by assumption⟩
 have amq:=h.roots q _ hR;refine⟨_,h.giveUp (N:=(· =q)) (T:=λ_=>JW) (ok':=λb=>E.ok b\/∃o,E.ρ q=ai (b,o)) (ev':=ev) (st':=(st.map (gn (Od q x.cells))).bj q au) (λb hb=>.inl hb) (λb hb=> ?_) hr (λi=>(h.me i).al4 (auF q x.cells).nt λu y hty hy=> ?_) (λi k' b ht=>⟨id,i,(Tk.gn (auF q x.cells) ht).1⟩)⟩
 .rcases hb with h1|⟨o,h1⟩
  .exact .inl h1
  .exact .inr (.inl ⟨q,o,rfl,by rw[hR];rfl,h1⟩)
 .have hw:∀{y},lL φ E st.r w u y->lL φ ⟨λb=>E.ok b\/∃o,E.ρ q=ai (b,o),E.ρ⟩ ((st.map (gn (Od q x.cells))).bj q au).r w u y:=λhx=>lL.od (E':=⟨λb=>E.ok b\/∃o,E.ρ q=ai (b,o),E.ρ⟩) (λb hb=>Or.inl hb) (λp R' hp=>⟨(hr p R' hp).1,rfl⟩) hx;unfold Od;split;·rename_i p i c;split;(·rename_i hpq;subst hpq;split;(·rename_i hi;subst hi;cases hy with|data _ _ hh=>cases hh|Uf _ _ _ _ hn=>rw[hn]at hR;cases hR|loc b o _ _ _ R h1 hρ=>rw[h1]at hR;cases hR;cases amq with|box b' o' z x vs iA hz dE hl hh hv qP=>rw[hρ]at iA;cases iA;refine .data _ _ ?_;have:=gY.ptr (φ:=φ) (w:=w) (ok:=λb=>E.ok b\/∃o,E.ρ p=ai (b,o)) b o c x.cells vs (.inr ⟨o,hρ⟩) (aaS hl λj v a hva ha=> ?_) hv;(·simpa using this);·cases hh j v a hva ha with|data _ Dx _=>exact gY.mono (λ_ _=>rfl) (λb hb=>.inl hb) Dx|any=>have:=bz.1 hp _ (cq ha);simp[ek]at this|view=>have:=bz.1 hp _ (cq ha);simp[ek]at this);·exact .any _);·exact hw hy
  .exact hw hy
def aE1(h:dC φ w0 L E st ev w)(n:ax):∃E',dC φ w0 L E' (st.PX n) ev w:=by
 unfold St.PX;by_cases RY:6000000<=n;·rw[aQ RY];exact ax6 h _
 rw[aP RY];by_cases auR:5000000<=n;·rw[aQ auR];cases hp:st.KY (n-5000000) 0 with|none=>exact⟨E,h⟩|some s=>obtain⟨E',h1,_⟩:=h.KY hp;exact⟨E',h1⟩
 rw[aP auR];split;rotate_left;·exact⟨E,h⟩
 rename_i z cs hR;split;rotate_left;·exact⟨E,h⟩
 rename_i z1 hc;split;rotate_left;·exact⟨E,h⟩
 rename_i gF;obtain⟨hn,RZ⟩:=gF;have RZ:st.r n=au:=by cases e:st.r n with|none=>rfl|some R=>rw[e]at RZ;cases RZ
 generalize hq:n/1000-1=q at*;generalize LC:n%1000=c at*;have ass:sub q c=n:=by simp only[sub];omega
 have axv:c<1000:=by omega
 have hqn:q≠n:=by omega
 have amq:=h.roots q _ hR;cases amq with|box b o z x vs hρ hz dE hl hh hv qP=>
 have hvc:∃v,vs[c]? =ai v:=by(have:c<(A.agg cs).cells.length:=by(rcases bL c (ae cs)with h'|h');(·exact h');·rw[bU h']at hc;cases hc);exact⟨vs[c],aE (by omega)⟩
 obtain⟨v,hvc⟩:=hvc;have jy:=hh c v _ hvc hc;have aEf:v=.slice au 0 0:=by cases jy with|data _ hr ha=>cases hr;rfl
 have j7:∀p' R',st.r p'=ai R'->R'.b=aB->∀x∈R'.xs,∀y∈x.cells,nM n y=aA:=by intro p' R' hp hb x hx y hy;cases hro:nM n y with|false=>rfl|true=>exfalso;cases h.roots p' R' hp with|empty z h=>cases hb|sl=>cases hb|box b' o' z' x' vs' iA hz' ajd hl' hh' rW aOa=>simp only[aT]at hx;subst hx;obtain⟨j,hj,hy'⟩:=List.getElem_of_mem hy;have hvj:vs'[j]? =ai (vs'[j]'(by omega)):=aE (by omega);(have hxj:x.cells[j]? =ai y:=by rw[aE hj,hy']);cases hh' j _ _ hvj hxj with|data _ hr _=>rw[gY.aJu hr]at hro;cases hro|any=>cases hro|view off n' aKN hr _=>simp only[nM,cS]at hro;obtain⟨rfl,rfl⟩:=UW aKN axv (hro.trans ass.symm);rw[hR]at hp;cases hp;rw[show(A.agg cs).cells=cs from rfl,hc]at hxj;cases hxj
 have h1:=h.kill n;have Md:L.pl n=au:=by rw[<-ass];exact nU.sub
 have hk:∀i,refs n ((st.kill n).t i)=aA:=λi=>LH n _;have h2:=h1.root (q:=n) (R:=⟨aA,z1,[]⟩) (p:=au) RZ hk j7 (λb o e=>by cases e) (λp' e=>by rw[Md]at e;cases e) (.empty z1 (by simp));generalize hE:(⟨E.ok,λi=>if i=n then au else E.ρ i⟩:Env)=E2 at h2;have aWW:E2.ok=E.ok:=by rw[<-hE]
 have hEρ:∀i,i≠n->E2.ρ i=E.ρ i:=λi hi=>by rw[<-hE];simp[hi]
 have hEn:E2.ρ n=au:=by rw[<-hE];simp
 generalize hs1:(st.kill n).bj n (ai ⟨aA,z1,[]⟩)=st1 at h2;have Zx:∀i,i≠n->st1.r i=st.r i:=λi hi=>by rw[<-hs1];simp[St.bj,St.kill,St.map,hi]
 have hrn:st1.r n=ai ⟨aA,z1,[]⟩:=by rw[<-hs1];simp[St.bj]
 have Me:E2.ρ q=ai (b,o):=by rw[hEρ q hqn,hρ]
 have hRq:st1.r q=ai ⟨aB,z,[.agg cs]⟩:=by rw[Zx q hqn,hR]
 obtain⟨z1',z2',z3'⟩:=h2.rz q b o (by rw[hRq];rfl) Me;have eJ:(A.agg (cs.set c (.view n 0 0))).cells.length=(A.agg cs).cells.length:=by simp[A.cells]
 have W:Wr w0 L E2 st1.r (λi=>if i=q then ai ⟨aB,z,[.agg (cs.set c (.view n 0 0))]⟩else st1.r i) w w b:={
  same:=λ_ _=>rfl
  size:=rfl
  env:=⟨rfl,rfl⟩
  fr:=λ_=>rfl
  aCp:=z2'
  nok:=z1'
  room:=λ_ h=>h
  sh:=λq' R' hq'=>by
   by_cases e:q'=q
   .subst e
    rw[aQ rfl]at hq'
    cases hq'
    exact⟨_,hRq,rfl,rfl,rfl⟩
   .rw[aP e]at hq'
    exact⟨R',hq',rfl,rfl,rfl⟩}
 have h3:=h2.write W (λi k ht=>(h2.tz i k b ht).2 q b o (by rw[hRq];rfl) Me rfl) (λq' R' hq'=>by by_cases e:q'=q;(·subst e;rw[aQ rfl]at hq';cases hq';right;refine .box b o z _ vs Me (eJ.trans hz) dE (hl.trans eJ.symm) (λc' v' a' h4 h5=> ?_) hv qP;by_cases e2:c'=c;(·subst e2;(have Ao:c'<ae cs:=by(rcases bL c' (ae cs)with h'|h');(·exact h');·rw[bU h']at hc;cases hc);rw[show(A.agg (cs.set c' (.view n 0 0))).cells=cs.set c' (.view n 0 0)from rfl,aGn Ao]at h5;cases h5;rw[hvc]at h4;cases h4;subst aEf;rw[<-ass];refine .view _ 0 0 axv ?_ ⟨λ_ e=>(by cases e),λ_ e=>(by cases e)⟩;rw[ass];exact .pP au n 0 ⟨aA,z1,[]⟩ (by rw[aP (arY hqn)];exact hrn) rfl (jJ _));·rw[show(A.agg (cs.set c (.view n 0 0))).cells=cs.set c (.view n 0 0)from rfl,aDf (arY e2)]at h5;have adu:=h2.roots _ _ hRq;cases adu with|box b2 o2 z2 x2 vs2 hρ3 hz3 aXP hl3 hh3 hv3 aYc=>rw[Me]at hρ3;cases hρ3;(have:vs2=vs:=by refine List.ext_getElem? λm=> ?_;(rcases bL m (ae vs)with h'|h');(·have a1:=hv m _ (aE h');(have h'':m<ae vs2:=by omega);have a2:=hv3 m _ (aE h'');rw[aE h',aE h''];exact a2.symm.trans a1);·rw[bU h',bU (by omega)]);subst this;exact(hh3 c' v' a' h4 h5).write W);·rw[aP e]at hq';refine .inl ⟨hq',λo' e3=> ?_⟩;exact h2.inj q' q b o' b o (by rw[hq'];rfl) (by rw[hRq];rfl) e3 Me e rfl);refine⟨E2,?_⟩;have:st1.bj q (ai ⟨aB,z,[.agg (cs.set c (.view n 0 0))]⟩)={st1 with r:=λi=>if i=q then ai ⟨aB,z,[.agg (cs.set c (.view n 0 0))]⟩else st1.r i}:=rfl;rw[this];exact h3
def least{p:ax->Prop}:∀n,p n->∃k,p k/\∀j,p j->k<=j:=by intro n;induction n using Nat.strongRecOn with|_ n ih=>intro hn;by_cases h:∃m,m<n/\p m;(·obtain⟨m,h1,h2⟩:=h;exact ih m h1 h2);·exact⟨n,hn,λj hj=>by(rcases bL j n with h1|h1);(·exact bG ⟨j,h1,hj⟩ h);·exact h1⟩
def axS{p:ax->Prop}(h:∃k,p k):∃k,p k/\∀j,p j->k<=j:=by obtain⟨n,hn⟩:=h;exact least n hn
def Ex.aFB:Ex->Exit |.normal=>.normal |.exit i=>.exit i |.ret=>.ret
def iX(P:bV)(φ:ax->ax)(n:ax)(lp:ah aW):C->Code->aW |.norm _ _ b,c=>iX P φ n lp b c |.opn _ b,c=>iX P φ n lp b c |.stop,_=>aB |.skip,.skip=>aB |.skip,.label _=>aB |.reg aDL xs _ _,.region _ ops aI3=>aDL==aI3&&AA P φ n lp ops.toList xs&&(!aDL||alq ops.toList xs) |.seq a b,.seq a' b'=>iX P φ n lp a a'&&iX P φ n lp b b' |.cond c a b,.cond c' a' b'=>db φ c' c&&iX P φ n lp a a'&&iX P φ n lp b b' |.block i b,.block j b'=>i==j&&iX P φ n lp b b' |.loop b,.loop b'=>iX P φ n lp b b' |.exit i,.exit j=>i==j |.ret,.ret=>aB |_,_=>aA
def alO(P:bV)(φ:ax->ax)(ex:C->St->aq (Ex×St)):Prop:=∀(x:C) (c:Code) (n:ax) (lp:ah aW),iX P φ n lp x c=aB->∀(w0:aU) (L:nU),(∀i p,L.pl i=ai p->(lp[i]?).getD aA=aB)->Gl P w0 L->∀(E:Env) (st:St) (a:alk) (w:aU) (e:Ex) (st':St),oR φ w0 L E st a w->a.tmps.size=n->ex x st=ai (e,st')->∀Q:Exit->alk->aU->Prop,(∀E' a' w',oR φ w0 L E' st' a' w'->a'.tmps.size=n->Q e.aFB a' w')->c.wp P Q a w
def aAZ(M:ax->aq Def):alO P φ (exec M 0):=λx c n lp _ w0 L _ _ E st a w e st' _ _ he=>by simp[exec]at he
def ar9{n:ax}{lp:ah aW}{ops:kZ Zp}{xs:ah Op}(h:AA P φ n lp ops.toList xs=aB)(st:St):yB cf io xs xs st=OI cf io xs (Ay ops.size) st:=by have hl:=TI h;rw[aiU xs xs [] st rfl];simp only[bQ];rw[<-hl,ai4,List.range_eq_range']
def aAY{M:ax->aq Def}(hm:P.follows .mixedOrders=aB){m:ax}(ih:∀k,k<=m->alO P φ (exec M k))(hcf:aJL P φ (ade M (exec M m))):alO P φ (exec M (m+1)):=by
 intro x c n lp hc w0 L hlp hG E st a w e st' h hn he Q hQ
 cases x with
 |stop=>simp[exec]at he
 |norm fI j5 b=>
  simp only[exec]at he;obtain⟨E1,h1⟩:=aiR h.todC fI j5;simp only[iX]at hc;exact ih m (bx _) b c n lp hc w0 L hlp hG E1 _ a w e st' ⟨h1,h.Gc⟩ hn he Q hQ
 |opn i b=>
  simp only[exec]at he;obtain⟨E1,h1⟩:=aE1 h.todC i;simp only[iX]at hc;exact ih m (bx _) b c n lp hc w0 L hlp hG E1 _ a w e st' ⟨h1,h.Gc⟩ hn he Q hQ
 |skip=>
  simp only[exec,aC,bS]at he;obtain⟨rfl,rfl⟩:=he
  cases c<;>first
   |exact wp_skip (hQ E a w h hn)
   |exact wp_label (hQ E a w h hn)
   |(simp[iX]at hc;done)
 |reg aDL xs fI j5=>
  cases c<;>first
   |(simp[iX]at hc;done)
   |skip
  rename_i id ops aI3;simp only[iX,az,cS]at hc;obtain⟨⟨rfl,Zw⟩,hdr⟩:=hc;simp only[exec]at he;obtain⟨s,hs,he⟩:=aM.1 he;simp only[bS]at he;obtain⟨rfl,rfl⟩:=he;have hQ':∀E' a' w',oR φ w0 L E' s a' w'->a'.tmps.size=n->Q .normal a' w':=λE' a' w' hS hn'=>by obtain⟨E1,h1⟩:=aiR hS.todC fI j5;exact hQ E1 a' w' ⟨h1,hS.Gc⟩ hn'
  cases aDL with|false=>exact wp_region (arp ⟨hcf,hG⟩ hlp Zw hQ' h hn ((ar9 Zw st).symm.trans hs))|true=>simp only[aV,Av]at hdr;refine wp_region_any hm ?_;have af8:Ext w {w with drawn:=w.drawn+1}:=⟨bx _,λ_ _=>rfl,⟨rfl,rfl⟩⟩;have aNG:=hdr;simp only[alq,aDE,az,aG,bz,fP,at3,ai4]at aNG;obtain⟨_,_,⟨ho1,ho2,ho3⟩,hpr⟩:=aNG;refine aAI ⟨hcf,hG⟩ hlp Zw hdr hQ' ops.size (rem:=aE4 xs 0 []) ho1 (ain hpr) (by simp) (λi=> ?_) (λk hk=> ?_) (h.ext af8 (.refl E w _)) hn ((ab4 xs _ st).symm.trans hs);(·constructor;(·intro hi;have:=ho2 i hi;exact⟨this,by simp[fZ,this]⟩);·exactλh=>ho3 i h.1);·rw[fZ]at hk;by_cases hi:k<ops.size;(·simp[hi]at hk);·simp[qd (xs:=YT ops.size aA) (i:=k) (by simpa using hi)]at hk
 |seq x y=>
  cases c<;>first
   |(simp[iX]at hc;done)
   |skip
  rename_i c d;simp only[iX,az]at hc;simp only[exec]at he;apply wp_seq;split at he;·rename_i s hx;refine ih m (bx _) x c n lp hc.1 w0 L hlp hG E st a w .normal s h hn hx _ λE' a' w' hS hn'=> ?_;exact ih m (bx _) y d n lp hc.2 w0 L hlp hG E' s a' w' e st' hS hn' he Q hQ
  .rename_i iS;refine ih m (bx _) x c n lp hc.1 w0 L hlp hG E st a w e st' h hn he _ λE' a' w' hS hn'=> ?_;have hq:=hQ E' a' w' hS hn';cases e with|normal=>exact bG he (iS _)|exit i=>exact hq|ret=>exact hq
 |cond o x y=>
  cases c<;>first
   |(simp[iX]at hc;done)
   |skip
  rename_i o' c d;simp only[iX,az]at hc;obtain⟨⟨hco,h1⟩,h2⟩:=hc;simp only[exec]at he;have hv:=(eM h hco).1;split at he;·rename_i t ht;rw[ht]at hv;refine wp_cond hv.RM ?_;cases t;(·exact ih m (bx _) y d n lp h2 w0 L hlp hG E st a w e st' h hn he Q hQ);·exact ih m (bx _) x c n lp h1 w0 L hlp hG E st a w e st' h hn he Q hQ
  .cases he
 |block i x=>
  cases c<;>first
   |(simp[iX]at hc;done)
   |skip
  rename_i j c;simp only[iX,az,cS]at hc;obtain⟨rfl,h1⟩:=hc;simp only[exec]at he;apply wp_block;split at he;·rename_i k s hx;refine ih m (bx _) x c n lp h1 w0 L hlp hG E st a w (.exit k) s h hn hx _ λE' a' w' hS hn'=> ?_;simp only[Ex.aFB,Exit.inBlock];split at he;(·rename_i hk;simp only[aC,bS]at he;obtain⟨rfl,rfl⟩:=he;rw[aQ hk];exact hQ E' a' w' hS hn');·rename_i hk;simp only[aC,bS]at he;obtain⟨rfl,rfl⟩:=he;rw[aP hk];exact hQ E' a' w' hS hn'
  .rename_i iS;refine ih m (bx _) x c n lp h1 w0 L hlp hG E st a w e st' h hn he _ λE' a' w' hS hn'=> ?_;have hq:=hQ E' a' w' hS hn';cases e with|normal=>exact hq|exit k=>exact bG he (iS _ _)|ret=>exact hq
 |loop x=>
  cases c<;>first
   |(simp[iX]at hc;done)
   |skip
  rename_i c;simp only[iX]at hc;let R:ax->alk->aU->Prop:=λk a w=>k<=m+1/\a.tmps.size=n/\∃E st,oR φ w0 L E st a w/\exec M k (.loop x) st=ai (e,st')
  classical
  let μ:alk->aU->ax:=λa w=>if hx:∃k,R k a w then awV (axS hx)else 0
  have hμ1:∀a w,(∃k,R k a w)->R (μ a w) a w/\∀j,R j a w->μ a w<=j:=λa w hx=>by have h1:μ a w=awV (axS hx):=aNh hx;rw[h1];exact Classical.choose_spec (axS hx)
  refine wp_loop (λa w=>∃k,R k a w) μ ⟨m+1,bx _,hn,E,st,h,he⟩ λa w hI=> ?_;have hR:=(hμ1 a w hI).1;obtain⟨wi,hn',E1,s1,hS,hx⟩:=hR;cases hk:μ a w with|zero=>rw[hk]at hx;simp[exec]at hx|succ k=>rw[hk]at hx wi;simp only[exec]at hx;split at hx;(·rename_i s2 hx2;refine ih k (by omega) x c n lp hc w0 L hlp hG E1 s1 a w .normal s2 hS hn' hx2 _ λE' a' w' hS' aHk=> ?_;have hI':∃k,R k a' w':=⟨k,by omega,aHk,E',s2,hS',hx⟩;refine⟨hI',?_⟩;have:μ a' w'<=k:=(hμ1 a' w' hI').2 k ⟨by omega,aHk,E',s2,hS',hx⟩;omega);·rename_i iS;refine ih k (by omega) x c n lp hc w0 L hlp hG E1 s1 a w e st' hS hn' hx _ λE' a' w' hS' aHk=> ?_;have hq:=hQ E' a' w' hS' aHk;cases e with|normal=>exact bG hx (iS _)|exit i=>exact hq|ret=>exact hq
 |exit i=>
  cases c<;>first
   |(simp[iX]at hc;done)
   |skip
  simp only[iX,cS]at hc;subst hc;simp only[exec,aC,bS]at he;obtain⟨rfl,rfl⟩:=he;exact wp_exit (hQ E a w h hn)
 |ret=>
  cases c<;>first
   |(simp[iX]at hc;done)
   |skip
  simp only[exec,aC,bS]at he;obtain⟨rfl,rfl⟩:=he;exact wp_ret (hQ E a w h hn)
end
end Go.Ab
namespace Go.Ab
section
variable {P:bV} {φ:ax->ax} {w0:aU} {L:nU} {E E':Env} {st st':St} {ev:ax->aL} {w w':aU} {a:alk} {K:ax->Prop}
def place:aL->A->aq (ax×ax) |.pointer (ai ad),.iU ..=>ai (ad.block,ad.off) |.slice (ai ad) _ cap,.l7 ..=>if cap=0 then au else ai (ad.block,ad.off) |_,_=>au
def ayb{v:aL}{x:A}{p:ax×ax}(h:place v x=ai p):abG x=aB:=by
 unfold place at h;split at h;·rfl
 .rfl
 .cases h
def agC:∀{io:ah aW} {ab:ah A},QU io ab=aB->∀{i:ax} {x:A},ab[i]? =ai x->abG x=aB->(io[i]?).getD aA=aB
 |_,[],_,i,x,h,_=>by simp at h
 |b::bs,a::l,h,i,x,hx,hl=>by(simp only[QU,az,mZ,gj]at h;cases i with|zero=>simp at hx;subst hx;(rcases h.1 with h1|h1);(·rw[hl]at h1;cases h1);·simpa using h1|succ i=>simpa using agC h.2 (i:=i) (by simpa using hx) hl)
 | [],a::l,h,i,x,hx,hl=>by(simp only[QU,az,gj]at h;cases i with|zero=>simp at hx;subst hx;rw[hl]at h;cases h.1|succ i=>simpa using agC (io:=[]) h.2 (i:=i) (by simpa using hx) hl)
def dK.lt:∀{vs:ah aL} {xs:ah A} {bs:ah ax},dK φ w K vs xs bs->∀b∈bs,b<w.heap.size
 |_,_,_,.nil,b,h=>by cases h
 |_,_,_,.cons v x ob vs xs bs h t,b,hb=>by
  rcases bt.1 hb with hb|hb
  .cases h with
   |data=>simp at hb
   |own _ _ _ h=>cases h with
    |empty=>simp at hb
    |mk b o cap z xs vs hc h0 hz h hv hr=>simp at hb;subst hb;exact hr.lt
  .exact t.lt b hb
def gy.lt:∀{vs:ah aL} {xs:ah A} {bs:ah ax},gy φ w K vs xs bs->∀b∈bs,b<w.heap.size
 |_,_,_,.nil,b,h=>by cases h
 |_,_,_,.cons v x ob vs xs bs h t,b,hb=>by
  rcases bt.1 hb with hb|hb
  .cases h with
   |data=>cases hb
   |iU _ _ _ h=>cases h with
    |mk b o z x vs bs h hv hr hz=>
     rcases bP.1 hb with rfl|hb
     .exact hr.lt
     .exact h.lt _ hb
   |l7 _ _ _ h=>cases h with
    |empty=>simp at hb
    |mk b o cap z xs vs hc h0 hz h hv hr=>simp at hb;subst hb;exact hr.lt
  .exact t.lt b hb
def gy.length:∀{vs:ah aL} {xs:ah A} {bs:ah ax},gy φ w K vs xs bs->vs.length=xs.length |_,_,_,.nil=>rfl |_,_,_,.cons _ _ _ _ _ _ _ t=>wE (· +1) t.length
def dC.ayh(h:dC φ w0 L E st ev w){i:ax}{x:A}(hv:RV φ E st.r w (ev i) x)(hn:∀k b,¬Tk (ev i) x k b):dC φ w0 L E (st.put (ai i) x) ev w:=
 h.od (λ_ _ h=>h) (λj=>by simp only[St.put];split;(·rename_i e;rw[e];exact hv);·exact h.me j) (λj k b ht=>by simp only[St.put]at ht;split at ht;(·rename_i e;rw[e]at ht;exact(hn k b ht).elim);·exact⟨j,ht⟩)
def jZ.ayh{b:ax}(h:jZ w0 L E st ev w b){i:ax}{x:A}(hn:∀k b,¬Tk (ev i) x k b):jZ w0 L E (st.put (ai i) x) ev w b:=
 ⟨h.z,h.r,λj k b' ht=>by simp only[St.put]at ht;split at ht;(·rename_i e;rw[e]at ht;exact(hn k b' ht).elim);·exact h.t j k b' ht⟩
def KK:∀{ab:ah A} {vs:ah aL} {i:ax} {E:Env} {st st1:St} {bs:ah ax},dC φ w0 L E st ev w->gy φ w E.ok vs ab bs->bs.Nodup->(∀b∈bs,jZ w0 L E st ev w b)->
 (∀j v,vs[j]? =ai v->ev (i+j)=v)->(∀j v x,vs[j]? =ai v->ab[j]? =ai x->L.pl (i+j)=(if i+j<1000 then place v x else au)\/L.pl (i+j)=au)->kd i ab st=ai st1->
 ∃E1,dC φ w0 L E1 st1 ev w/\E1.ok=E.ok
 | [],vs,i,E,st,st1,bs,h,ha,_,_,_,_,he=>by simp[kd]at he;subst he;exact⟨E,h,rfl⟩
 |x::ab,vs,i,E,st,st1,bs,h,ha,Jg,hF,hev,Md,he=>by(cases ha with|cons v _ b0 vs _ bs0 h0 t=>obtain⟨n1,n2,n3⟩:=dX.1 Jg;(have hv0:ev i=v:=by have:=hev 0 v rfl;simpa using this);(have aD4:∀j u,vs[j]? =ai u->ev (i+1+j)=u:=λj u hu=>by have:=hev (j+1) u (by simpa using hu);rwa[show i+(j+1)=i+1+j from by omega]at this);(have auZ:∀j u y,vs[j]? =ai u->ab[j]? =ai y->L.pl (i+1+j)=(if i+1+j<1000 then place u y else au)\/L.pl (i+1+j)=au:=λj u y hu hy=>by have:=Md (j+1) u y (by simpa using hu) (by simpa using hy);rwa[show i+(j+1)=i+1+j from by omega]at this);(have hp0:L.pl i=(if i<1000 then place v x else au)\/L.pl i=au:=by have:=Md 0 v x rfl rfl;simpa using this);cases h0 with|data _ hr=>(have Oq:∀k b,¬Tk (ev i) x k b:=λk b=>by rw[hv0];exact Tk.rm hr);(have hp:kd i (x::ab) st=if Ab.pure x||aHz x then kd (i+1) ab (st.put (ai i) x)else au:=by cases hr<;>rfl);rw[hp]at he;split at he;(·have h1:=h.ayh (i:=i) (x:=x) (by rw[hv0];exact .one _ _ (.data _ _ hr)) Oq;exact KK h1 t n2 (λb hb=>(hF b (bN _ hb)).ayh Oq) aD4 auZ he);·cases he|iU z x _ hb=>simp only[kd]at he;obtain⟨s,hs,he⟩:=aI.1 he;obtain⟨E1,h1,Ap,hrv,Vh⟩:=h.vm hs hb n1 (λb hb=>hF b (dZ _ hb)) (λp' e=>by(rcases hp0 with hp0|hp0<;>rw[hp0]at e);rotate_left;(·cases e);split at e;(·cases hb with|mk b o z x us bs hcr Ao qP hz=>simp only[place,aC]at e;rw[<-e]);·cases e);have Oq:∀k b,¬Tk (ev i) (.loc i 0 0) k b:=λk b=>aef k b;have h2:=h1.ayh (i:=i) (x:=.loc i 0 0) (by rw[hv0];exact .one _ _ hrv) Oq;obtain⟨E2,h3,adt⟩:=KK h2 (by rw[Ap];exact t) n2 (λb hb=>(Vh b (λhm=>n3 b hm b hb rfl) (hF b (bN _ hb))).ayh Oq) aD4 auZ he;exact⟨E2,h3,adt.trans Ap⟩|l7 z xs ob ho=>simp only[kd]at he;split at he;(·rename_i hi;obtain⟨E1,h1,_,Ap,hrv,Vh⟩:=h.az2 (q:=i) ho (λb e=>hF b (dZ _ (by simp[e]))) (by(rcases hp0 with hp0|hp0);rotate_left;(·exact .inl hp0);rw[hp0,aQ hi];cases ho with|empty ad z=>cases ad<;>exact .inl rfl|mk b o cap z xs us hc hc0 hz hh hv hr=>exact .inr ⟨b,o,_,cap,rfl,hc0,by simp[place,hc0]⟩) (h.aee hi);have Oq:∀k b,¬Tk (ev i) (.view i 0 (ae xs)) k b:=λk b=>GZ k b;have h2:=h1.ayh (i:=i) (x:=.view i 0 (ae xs)) (by rw[hv0];exact .one _ _ hrv) Oq;obtain⟨E2,h3,adt⟩:=KK h2 (by rw[Ap];exact t) n2 (λb hb=>(Vh b (λe=>n3 b (by simp[e]) b hb rfl) (hF b (bN _ hb))).ayh Oq) aD4 auZ he;exact⟨E2,h3,adt.trans Ap⟩);·cases he)
def avi:ah aW->ax->ah ax->ah aW | [],_,_=>[] |b::bs,i,G=>(b&& !G.contains i)::avi bs (i+1) G
def azK{G:ah ax}:∀{io:ah aW} {k i:ax},(io[i]?).getD aA=aB->k+i∉G->((avi io k G)[i]?).getD aA=aB
 | [],k,i,h,_=>by simp at h
 |b::bs,k,0,h,hg=>by
  have hb:b=aB:=by simpa using h
  have hg':k∉G:=hg;simp[avi,hb,hg']
 |b::bs,k,i+1,h,hg=>by have:=azK (io:=bs) (k:=k+1) (i:=i) (G:=G) (by simpa using h) (by rwa[show k+1+i=k+(i+1)from by omega]);simpa[avi]using this
def Ud(K:ax->Prop)(vs:ah aL)(ab:ah A)(bs:ah ax)(G:ah ax):nU where
 blk:=(· ∈bs)
 K0:=K
 pl:=λi=>if i<1000/\i∉G then(match vs[i]?,ab[i]? with|some v,ai x=>place v x|_,_=>au)else au
 lt:=λi p h=>by
  split at h;·rename_i hc;exact hc.1
  .cases h
def aDO(G:ah ax){fn:Fn}{ab:ah A}{vs:ah aL}{bs:ah ax}{n:ax}{st0:St}(ha:gy φ w K vs ab bs)(Jg:bs.Nodup)(hK:∀b∈bs,¬K b)(hz:∀b,K b->b<w.heap.size)(he:fn.enter ab=ai st0): ∃E,oR φ w (Ud K vs ab bs G) E st0 {tmps:=vs.toArray++YT (n-ae vs) undef,defers:=[]} w/\E.ok=K:=by
 unfold Fn.enter at he;split at he
 .have ht:∀i,(⟨tab [],apR []⟩:St).t i=.any:=λi=>rfl;have hr:∀i,(⟨tab [],apR []⟩:St).r i=au:=λi=>rfl
  have h0:dC φ w (Ud K vs ab bs G) ⟨K,λ_=>au⟩ ⟨tab [],apR []⟩ (λi=>aa8 {tmps:=vs.toArray++YT (n-ae vs) undef,defers:=[]} (.tmp i)) w:={
   me:=λi=>by rw[ht];exact .one _ _ (.any _)
   roots:=λq R h=>by rw[hr]at h;cases h
   inj:=λq q' b o b' o' h=>by rw[hr]at h;cases h
   rz:=λq b o h=>by rw[hr]at h;cases h
   tz:=λi k b h=>by rw[ht]at h;exact(Et _ _ h).elim
   td:=λi j k k' b b' h=>by rw[ht]at h;exact(Et _ _ h).elim
   okz:=hz,grow:=bx _,frame:=λ_ _ _=>rfl,env:=⟨rfl,rfl⟩,fr:=λ_ _ _=>rfl,room:=λ_ _ h=>h
   ZO:=λi p _ h=>by rw[hr]at h;cases h
   okU:=λ_ h=>h,okL:=λ_ h=>.inl h}
  obtain⟨E1,h1,Ap⟩:=KK h0 ha Jg (λb hb=>⟨⟨hK b hb,.inr hb,ha.lt b hb⟩,(λq b' o h=>by rw[hr]at h;cases h),(λi k b' h=>by rw[ht]at h;exact(Et _ _ h).elim)⟩) (λj v hv=>by(have hj:j<ae vs:=by(rcases bL j (ae vs)with h|h);(·exact h);·simp[bU h]at hv);simp only[aa8,dL];rw[fZ,Array.getElem?_append_left (by simpa using hj)];simp[hv]) (λj v x hv hx=>by simp only[Ud,dL,hv,hx];by_cases hg:j∈G;(·exact .inr (aP λh=>h.2 hg));·refine .inl ?_;by_cases hj:j<1000;(·rw[aQ ⟨hj,hg⟩,aQ hj]);·rw[aP λh=>hj h.1,aP hj]) he;exact⟨E1,⟨h1,rfl⟩,Ap⟩
 .cases he
end
end Go.Ab

