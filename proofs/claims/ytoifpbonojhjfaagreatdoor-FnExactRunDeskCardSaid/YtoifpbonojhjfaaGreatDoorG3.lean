/- Coded forms: functions and joints of the program read from numbers. Conditions: none. -/
import Derived.Test.YtoifpbonojhjfaaGreatDoorG2
import Derived.WalkKit
import Derived.ProofKit
import Derived.OpenShut
import Derived.Deep.Slices
import Derived.WideKeyArgs
import Derived.KernelRfl
import Derived.Below
import Derived.Handed
import Derived.HandedShaped
import Derived.LaidLaws
import Derived.Lib.ItoaNum
import Derived.Lib.Strings
import Derived.Lib.Split
import Derived.Lib.Join
import Derived.Lib.Repeat
import Derived.Lib.IndexMore
import Derived.Lib.ParseIntBTie
import Derived.Stop.LaidErr
import Derived.MakeChecks
import Derived.Stop.Joined
set_option linter.unusedVariables false
set_option linter.unusedSimpArgs false
set_option linter.defProp false
open Array renaming ext'->aa7,getElem?_eq_none->qd,getElem?_toList->rL,replicate->YT
open Bool renaming and_eq_true->az,and_self->bw,false->aA,false_eq_true->ar,not_eq_true->aJJ,not_eq_true'->gj,or_eq_false_iff->so,or_eq_true->mZ,true->aB
open Decidable renaming decide->ao
open Eq renaming trans->Tv
open Go renaming Act->alk,Addr->afQ,BinOp->aoY,Calls->fF,DataW->FI,IntKind->aLN,MemPlace->Ik,Program->bV,ResultVar->aCD,TypeId->bO,Value->aL,World->aU
open Go.Act renaming eval->aa8
open Go.DataW renaming TrodAll->RB,Whole->aAr,trod->aAs
open Go.Instr renaming loadAt->awW,sureAddr->acQ
open Go.IntKind renaming i64->ak,u8->Gq,wrap->aj
open Go.Lib renaming count->WI,cut->TA,itoa->bT,join->jT,repeatL->arR,splitK->Aw,trimPrefix->iY
open Go.Op renaming bytesLess->dB
open Go.OpenSpec renaming ofChange->Zo
open Go.Result renaming andThen_ok->cZ
open Go.Sem renaming run_bind->eP,run_pure->mg
open Go.Value renaming cells->aoZ,okWide->Gt
open Go.World renaming cell? ->b9,cells?_some->aCE
open Int renaming toNat_natCast->aH
open List renaming all_cons->eQ,all_eq_true->bz,all_map->JX,any_cons->oy,any_map->aMA,append_assoc->df,append_nil->cD,cons_append->Am,drop_eq_getElem_cons->ba,drop_eq_nil_of_le->br,eq_nil_of_length_eq_zero->fQ,filterMap_cons->afT,flatMap_append->RH,flatMap_cons->cr,getElem?_cons_zero->aD,getElem?_eq_getElem->aE,getElem?_eq_none->bU,getElem?_map->cC,length->ae,length_cons->bl,length_map->bf,length_nil->bQ,lookup_cons->aph,map_append->dP,map_congr_left->kx,map_cons->aY,map_drop->nz,map_map->Ax,map_nil->gJ,map_replicate->OO,map_set->aqj,map_take->pO,mem_append->bt,mem_append_left->dZ,mem_append_right->bN,mem_cons->bP,mem_flatMap->wT,mem_iff_getElem? ->fO,mem_map->dF,mem_of_getElem? ->cq,mem_singleton->aT,nil_append->cJ,nodup_append->dX,nodup_cons->Gu,nodup_nil->ib,range->Ay,replicate->bK,take_append_drop->aGU,take_length->bc
open List.cons renaming injEq->dU
open Nat renaming le_max_left->apk,le_max_right->alQ,le_refl->bx,lt_or_ge->bL,succ_mul->eK,zero_add->dL,zero_le->jJ
open Option renaming all_some->Cw,bind->af,bind_eq_some_iff->aI,bind_some->ag,getD_none->tQ,getD_some->jA,isSome_iff_exists->iM,isSome_map->aAx,map->ay2,map_eq_some_iff->aM,map_none->dO,map_some->aS,none->au,some->ai
open Option.some renaming inj->cA,injEq->aC
open Prod renaming fst->ay4
open Prod.mk renaming injEq->bS
open Pure renaming pure->Rv
open UInt8 renaming ofNat->dW
open _root_ renaming Array->kZ,Bool->aW,False->JW,Int->aw,List->ah,Nat->ax,Option->aq,UInt8->ay,Unit->mW,absurd->bG,congrArg->wE
namespace Go.Ab
section
variable {P:bV} {φ:ax->ax} {w0:aU} {L:nU} {E E':Env} {st st':St} {ev:ax->aL} {w w':aU} {a:alk} {K:ax->Prop} {r:ax->aq eO}
def dC.af7(h:dC φ w0 L E st ev w){ns:ah ax}{b:ax}(hf:jZ w0 L E st ev w b):jZ w0 L E {st with r:=Ab.less st.r ns} ev w b:=
 ⟨hf.z,λq b' o a1 a2=>hf.r q b' o (by simp only[Ab.less]at a1;split at a1;(·cases a1);·exact a1) a2,hf.t⟩
def dC.asC(h:dC φ w0 L E st ev w)(ns:ah ax):dC φ w0 L E {st with r:=Ab.less st.r ns} ev w:=
 h.less λq R hq=>by
  simp only[Ab.less]at hq;split at hq;·cases hq
  .exact hq
def dC.asn(h:dC φ w0 L E st ev w){ns:ah ax}{b p o:ax}(hp:p∈ns)(hl:(st.r p).isSome=aB)(hρ:E.ρ p=ai (b,o)):jZ w0 L E {st with r:=Ab.less st.r ns} ev w b:=
 ⟨h.rz p b o hl hρ,λq b' o' a1 a2 e=>by
   simp only[Ab.less]at a1
   split at a1
   .cases a1
   .rename_i hn
    subst e
    exact h.inj q p b' o' b' o a1 hl a2 hρ (λe=>hn (by simpa[e]using hp)) rfl,λi k b' ht e=>(h.tz i k b' ht).2 p b o hl hρ e.symm⟩
def aIk{v:aL}{x:A}{k b:ax}(h:Tk v x k b):k∈YH x:=by cases h with|one _ _ _ _ h=>cases h;simp[YH,ah0]|xv vs xs j k b v a hv ha h=>cases h;exact wT.2 ⟨_,cq ha,by simp[ah0]⟩|agg vs xs j k b v a hv ha h=>cases h;exact wT.2 ⟨_,cq ha,by simp[ah0]⟩
def ahW{q:ax}:∀{xs:ah A} {vs:ah aL} {c:ax},ae vs=ae xs->(∀(j:ax) (v:aL) (x:A),vs[j]? =ai v->xs[j]? =ai x->fT φ E r w q (c+j) v x)->
 (xs.flatMap fE).Nodup/\∀p∈xs.flatMap fE,∃c',c<=c'/\c'<1000/\p=sub q c'
 | [],vs,c,_,_=>⟨ib,λp hp=>by cases hp⟩
 |x::xs,[],c,hl,_=>by simp at hl
 |x::xs,v::vs,c,hl,hc=>by
  obtain⟨h1,h2⟩:=ahW (c:=c+1) (xs:=xs) (vs:=vs) (by simpa using hl) (λj u y hu hy=>by have:=hc (j+1) u y (by simpa using hu) (by simpa using hy);rwa[show c+(j+1)=c+1+j from by omega]at this)
  have h0:=hc 0 v x rfl rfl
  have hx:fE x=[]\/(fE x=[sub q c]/\c<1000):=by
   cases h0 with
   |data _ hr=>cases hr<;>exact .inl rfl
   |any=>exact .inl rfl
   |view off n dE=>exact .inr ⟨rfl,dE⟩
  rw[cr]
  rcases hx with hx|⟨hx,dE⟩
  .rw[hx]
   exact⟨h1,λp hp=>by obtain⟨c',a1,a2,a3⟩:=h2 p hp;exact⟨c',by omega,a2,a3⟩⟩
  .rw[hx]
   refine⟨Gu.2 ⟨λhm=> ?_,h1⟩,λp hp=> ?_⟩
   .obtain⟨c',a1,a2,a3⟩:=h2 _ hm
    have:=(UW dE a2 a3).2;omega
   .rcases bP.1 hp with rfl|hp
    .exact⟨c,bx _,dE,rfl⟩
    .obtain⟨c',a1,a2,a3⟩:=h2 p hp;exact⟨c',by omega,a2,a3⟩
def aiJ{q:ax}{xs:ah A}{vs:ah aL}(hq:q<1000)(hl:ae vs=ae xs)(hc:∀(j:ax) (v:aL) (x:A),vs[j]? =ai v->xs[j]? =ai x->fT φ E r w q j v x): (q::xs.flatMap fE).Nodup:=by obtain⟨h1,h2⟩:=ahW (c:=0) hl (λj v x hv hx=>by rw[dL];exact hc j v x hv hx);refine Gu.2 ⟨λhm=> ?_,h1⟩;obtain⟨c',_,_,e⟩:=h2 q hm;have:=YF q c';omega
def kE.mono{K':ax->Prop}(hk:∀b,K b->K' b){v:aL}{z:ax}{x:A}{bs:ah ax}(h:kE φ w K v z x bs):kE φ w K' v z x bs:=by cases h with|mk b o z x vs bs h hv hr hz=>exact .mk b o z x vs bs (h.mono hk) hv hr hz
def xD.mono{K':ax->Prop}(hk:∀b,K b->K' b){v:aL}{x:A}{rb:ah ax}(h:xD φ w K v x rb):xD φ w K' v x rb:=by cases h with|data _ h=>exact .data _ _ (h.mono (λ_ _=>rfl) hk)|tok _ _ _ ob h=>exact .tok _ _ _ _ ob (h.mono hk)|iU _ _ _ h=>exact .iU _ _ _ _ (h.mono hk)|str vs cs bs e h=>exact .str _ _ _ _ e (h.mono hk)
def aiH(h:dC φ w0 L E st ev w):∀{xs ys:ah A} {vs:ah aL},hJ (lL φ E st.r w) vs xs->SK st.r xs=ai ys->
 ∃bs,dK φ w E.ok vs ys bs/\NB E st bs (xs.flatMap fE)
 | [],ys,vs,ha,hc=>by simp[SK]at hc;subst hc;obtain rfl:vs=[]:=fQ (by simpa using ha.1);exact⟨[],.nil,NB.nil⟩
 |x::xs,ys,vs,ha,hc=>by
  obtain⟨v,us,rfl,hv,ht⟩:=ha.YL
  simp only[SK]at hc
  obtain⟨y,hy,hc⟩:=aI.1 hc
  obtain⟨ys',OU,rfl⟩:=aM.1 hc
  obtain⟨bs,h1,h2⟩:=aiH h ht OU
  have first:∃b:aq ax,BB φ w E.ok v y b/\NB E st b.toList (fE x):=by
   unfold ad9 at hy
   split at hy
   .obtain⟨R,hR,rfl⟩:=aM.1 hy
    obtain⟨ob,ho,hρ⟩:=afE (h.roots _ R hR) hR hv
    refine⟨ob,.own _ _ _ _ ho,?_⟩
    cases ob with
    |none=>exact NB.none _
    |some b=>obtain⟨o,iA⟩:=hρ b rfl;exact NB.one (by rw[hR];rfl) iA
   .split at hy
    .rename_i hp
     cases hy
     refine⟨au,.data _ _ ?_ λcs e=>(by rw[e]at hp;simp[Ab.ek]at hp),NB.none _⟩
     cases hv<;>first
      |assumption
      |(simp[Ab.ek]at hp;done)
    .cases hy
  obtain⟨b,h4,h5⟩:=first
  exact⟨b.toList++bs,.cons _ _ _ _ _ _ h4 h1,by rw[cr];exact h5.append h h2⟩
def aLt{v:aL}{cs:ah A}(h:RV φ E st.r w v (.agg cs)):∃vs:ah aL,v=.agg vs.toArray/\hJ (lL φ E st.r w) vs cs:=by
 generalize hx:A.agg cs=x at h
 cases h with
 |one _ _ h1=>
  subst hx
  cases h1 with
  |data _ _ h2=>cases h2 with
   |agg vs _ h3=>exact⟨vs,rfl,(hJ.ml h3).imp λ_ _ h=>.data _ _ h⟩
 |xv=>cases hx
 |agg vs xs ha=>cases hx;exact⟨vs,rfl,ha⟩
 |fn=>cases hx
def aBn(h:dC φ w0 L E st ev w){j:ax}{own:aW}{x:A}{st1:St}(hl:st.MU j own=ai (x,st1)): ∃E1 rb,dC φ w0 L E1 st1 ev w/\xD φ w E1.ok (ev (gs+j)) x rb/\rb.Nodup/\(∀b∈rb,jZ w0 L E1 st1 ev w b)/\(∀b,E.ok b->E1.ok b)/\(∀b,jZ w0 L E st ev w b->jZ w0 L E1 st1 ev w b/\b∉rb)/\ (∀b,E1.ok b->E.ok b\/b<w.heap.size):=by
 have hs:=h.me (gs+j);unfold St.MU at hl;split at hl
 .split at hl;·rename_i k z xs hx;rw[hx]at hs;·simp only[aC,bS]at hl;obtain⟨rfl,rfl⟩:=hl;have hkt:=h.eW k;have Vh:∀b,jZ w0 L E st ev w b->jZ w0 L E (st.eW k) ev w b:=λb hf=>⟨hf.z,hf.r,λi k' b' ht=>hf.t i k' b' (Tk.gn (Ma k) ht).1⟩;(have htk:∀k' b,Tk (ev (gs+j)) (.tok k z xs) k' b->Tk (ev (gs+j)) (st.t (gs+j)) k' b:=λk' b ht=>by rw[hx];exact ht);generalize hv:ev (gs+j)=v at hs htk;cases hs.Zh with|data _ _ hh=>cases hh|Ls ad=>exact⟨E,[],hkt,.tok _ j z [] au (.empty ad z),ib,(λb hb=>by cases hb),(λ_ hb=>hb),(λb hf=>⟨Vh b hf,by simp⟩),(λb hb=>.inl hb)⟩|tok b o cap _ _ _ vs LC h0 hz hh rW qP=>(have hi:Tk (ev (gs+j)) (st.t (gs+j)) k b:=by rw[hv];exact htk k b (.one _ _ _ _ (.mk ⟨b,o,au⟩ _ _ _ _ _ h0)));have hf0:=h.tz (gs+j) k b hi;refine⟨E,[b],hkt,.tok _ j z xs (ai b) (.mk b o cap z xs vs LC h0 hz hh rW qP),by simp,λb' hb=> ?_,λ_ hb=>hb,λb' hf=>⟨Vh b' hf,λhm=> ?_⟩,λb hb=>.inl hb⟩;(·rw[aT]at hb;subst hb;exact⟨hf0.1,hf0.2,λi k' b2 ht=>by have h3:=Tk.gn (Ma k) ht;exact h.td i (gs+j) k' k b2 b' h3.1 hi h3.2⟩);·rw[aT]at hm;subst hm;exact hf.t (gs+j) k b' hi rfl
  .rename_i z hx;rw[hx]at hs;simp only[aC,bS]at hl;obtain⟨rfl,rfl⟩:=hl;exact⟨E,[],h,.tok _ j z [] au (by rw[hs.SN];exact .empty au z),ib,(λb hb=>by cases hb),(λ_ hb=>hb),(λb hf=>⟨hf,by simp⟩),(λb hb=>.inl hb)⟩
  .rename_i q off n hx;rw[hx]at hs;obtain⟨R,hR,hl⟩:=aM.1 hl;·simp only[bS]at hl;obtain⟨rfl,rfl⟩:=hl;obtain⟨ob,ho,hρ⟩:=afE (h.roots q R hR) hR hs.FB;refine⟨E,ob.toList,h.asC [q],.tok _ j R.z _ ob ho,by cases ob<;>simp,λb hb=> ?_,λ_ hb=>hb,λb hf=>⟨h.af7 hf,λhm=> ?_⟩,λb hb=>.inl hb⟩;(·cases ob with|none=>simp at hb|some b1=>simp at hb;subst hb;obtain⟨o,iA⟩:=hρ b rfl;exact h.asn (p:=q) (by simp) (by rw[hR];rfl) iA);·cases ob with|none=>simp at hm|some b1=>simp at hm;subst hm;obtain⟨o,iA⟩:=hρ b rfl;exact hf.r q b o (by rw[hR];rfl) iA rfl
  .rename_i q hx;rw[hx]at hs;obtain⟨R,hR,hl⟩:=aI.1 hl;split at hl;(·rename_i e hb LD;obtain⟨cs,oz,hl⟩:=aM.1 hl;simp only[bS]at hl;obtain⟨rfl,rfl⟩:=hl;obtain⟨Rb,Rz,Rxs⟩:=R;simp only at hb LD;subst hb;subst LD;obtain⟨b,o,hρ,hve⟩:=hs.KW.abK hR;rw[hve];cases h.roots _ _ hR with|box b1 o1 z _ us yY hz dE eJ j7 Ao qP=>rw[hρ]at yY;cases yY;obtain⟨bs1,h4,h5,h6⟩:=Uc h (c:=0) eJ (λj v x hv hx=>by have:=j7 j v x hv hx;rwa[dL]) oz;(have hna:∀y∈cs,∀l,y≠ .agg l:=λy hy=>by obtain⟨c,hc⟩:=fO.1 hy;(have Ao:c<ae us:=by(rcases bL c (ae cs)with h|h);(·omega);·simp[bU h]at hc);obtain⟨b',hb'⟩:=h4.get (j:=c) (v:=us[c]) (by simp) hc;exact hb'.asH);have hrc:(gh e cs).cells=cs:=mn h6 hna;have RY:kE φ w E.ok (.pointer (ai ⟨b,o,au⟩)) Rz (gh e cs) (b::bs1):=.mk b o Rz _ us bs1 (by rw[hrc];exact h4) Ao qP (by rw[hrc,h6,hz]);have hnb:NB E st (b::bs1) (q::e.cells.flatMap fE):=(NB.one (by rw[hR];rfl) hρ).append h h5;have hnn:(q::e.cells.flatMap fE).Nodup:=aiJ dE eJ j7;refine⟨E,b::bs1,h.asC _,by simpa using xD.iU _ _ _ _ RY,hnb.2 hnn,λb' hb'=> ?_,λ_ hb=>hb,λb' hf=>⟨h.af7 hf,λhm=> ?_⟩,λb hb=>.inl hb⟩;(·obtain⟨p,hp,hlv,o',iA⟩:=hnb.1 b' hb';exact h.asn hp hlv iA);·obtain⟨p,hp,hlv,o',iA⟩:=hnb.1 b' hm;exact hf.r p b' o' hlv iA rfl);·cases hl
  .rename_i cs hx;rw[hx]at hs;split at hl;(·rename_i Jg;obtain⟨ys,OU,hl⟩:=aM.1 hl;simp only[bS]at hl;obtain⟨rfl,rfl⟩:=hl;obtain⟨vs,hve,lO⟩:=aLt hs;obtain⟨bs1,h4,hnb⟩:=aiH h lO OU;rw[hve];refine⟨E,bs1,h.asC _,.str _ _ _ _ rfl h4,hnb.2 (dY Jg),λb' hb'=> ?_,λ_ hb=>hb,λb' hf=>⟨h.af7 hf,λhm=> ?_⟩,λb hb=>.inl hb⟩;(·obtain⟨p,hp,hlv,o',iA⟩:=hnb.1 b' hb';exact h.asn hp hlv iA);·obtain⟨p,hp,hlv,o',iA⟩:=hnb.1 b' hm;exact hf.r p b' o' hlv iA rfl);·cases hl
  .cases hl
 .obtain⟨y,hy,hl⟩:=aM.1 hl;simp only[bS]at hl;obtain⟨rfl,rfl⟩:=hl;generalize hns:names st.r (st.t (gs+j))=ns at hy;generalize hks:YH (st.t (gs+j))=ks;have hr:∀q R,Ab.less st.r ns q=ai R->st.r q=ai R/\¬q∈ns:=λq R hq=>by simp only[Ab.less]at hq;split at hq;(·cases hq);·rename_i hn;exact⟨hq,by simpa using hn⟩
  have hE:=h.giveUp (N:=(· ∈ns)) (T:=(· ∈ks)) (ok':=λb=>E.ok b\/(∃q o,q∈ns/\(st.r q).isSome/\E.ρ q=ai (b,o))\/(∃i k,k∈ks/\Tk (ev i) (st.t i) k b)) (ev':=ev) (st':={t:=λi=>gn (vu ks) (st.t i),r:=Ab.less st.r ns}) (λb hb=>.inl hb) (λb hb=>hb) hr (λi=>(h.me i).gn (TK ks).nt λv x hx=>by unfold vu;split;(·split;(·exact .any _);·exact lL.od (E':=⟨_,E.ρ⟩) (λb hb=>Or.inl hb) (λq R hq=>⟨(hr q R hq).1,rfl⟩) hx);·exact lL.od (E':=⟨_,E.ρ⟩) (λb hb=>Or.inl hb) (λq R hq=>⟨(hr q R hq).1,rfl⟩) hx) (λi k b ht=>⟨(Tk.gn (TK ks) ht).2,i,(Tk.gn (TK ks) ht).1⟩);have hro:∀q R,only st.r ns q=ai R->st.r q=ai R/\q∈ns:=λq R hq=>by simp only[Ab.only]at hq;split at hq;(·rename_i hn;exact⟨hq,by simpa using hn⟩);·cases hq
  have hO:dC φ w0 L E {st with r:=only st.r ns} ev w:=h.less λq R hq=>(hro q R hq).1;have Dx:=aoD (K:=λb=>E.ok b\/(∃q o,q∈ns/\(st.r q).isSome/\E.ρ q=ai (b,o))\/(∃i k,k∈ks/\Tk (ev i) (st.t i) k b)) hO ⟨λb hb=>.inl hb,λq b o h1 h2=>by obtain⟨R,hR⟩:=iM.1 h1;exact .inr (.inl ⟨q,o,(hro q R hR).2,by rw[(hro q R hR).1];rfl,h2⟩)⟩ (hO.me (gs+j)) (λk b ht=>.inr (.inr ⟨gs+j,k,by rw[<-hks];exact aIk ht,ht⟩)) hy;refine⟨_,[],hE,.data _ _ Dx,ib,(λb hb=>by cases hb),(λb hb=>.inl hb),λb hf=>⟨⟨⟨λhk=> ?_,hf.z.2⟩,λq b' o a1 a2=> ?_,λi k b' ht=>hf.t i k b' (Tk.gn (TK ks) ht).1⟩,by simp⟩,λb hb=>.inr ?_⟩;·(rcases hk with h1|⟨q,o,_,h2,h3⟩|⟨i,k,_,h2⟩);(·exact hf.z.1 h1);(·exact hf.r q b o h2 h3 rfl);·exact hf.t i k b h2 rfl
  .obtain⟨R,hR⟩:=iM.1 a1;exact hf.r q b' o (by rw[(hr q R hR).1];rfl) a2
  .exact hE.okz b hb
end
end Go.Ab
namespace Go.Ab
section
variable {P:bV} {φ:ax->ax} {w0:aU} {L:nU} {E E':Env} {st st':St} {ev:ax->aL} {w w':aU} {a:alk} {K:ax->Prop} {r:ax->aq eO}
def aqP:∀{bs:ah aW} {j:ax} {E:Env} {st:St} {xs:ah A} {st1:St} {vs:ah aL},dC φ w0 L E st ev w->ae vs=ae bs->(∀i v,vs[i]? =ai v->ev (gs+(j+i))=v)->st.leaves j bs=ai (xs,st1)->
 ∃E1 rb,dC φ w0 L E1 st1 ev w/\gz φ w E1.ok vs xs rb/\rb.Nodup/\(∀b∈rb,jZ w0 L E1 st1 ev w b)/\(∀b,E.ok b->E1.ok b)/\(∀b,jZ w0 L E st ev w b->jZ w0 L E1 st1 ev w b/\b∉rb)
 | [],j,E,st,xs,st1,vs,h,hl,hev,he=>by simp[St.leaves]at he;obtain⟨rfl,rfl⟩:=he;obtain rfl:vs=[]:=fQ (by simpa using hl);exact⟨E,[],h,.nil,ib,(λb hb=>by cases hb),(λ_ hb=>hb),λb hf=>⟨hf,by simp⟩⟩
 |b0::bs,j,E,st,xs,st1,[],h,hl,hev,he=>by simp at hl
 |b0::bs,j,E,st,xs,st1,v::vs,h,hl,hev,he=>by
  simp only[St.leaves]at he
  obtain⟨⟨x,s⟩,hx,he⟩:=aI.1 he
  obtain⟨⟨xs',s2⟩,LD,he⟩:=aM.1 he
  simp only[bS]at he
  obtain⟨rfl,rfl⟩:=he
  obtain⟨E1,rb1,h1,Zx,hn1,hf1,aSd,hm1,hz1⟩:=aBn h hx
  obtain⟨E2,rb2,h2,hr2,hn2,hf2,adt,hm2⟩:=aqP (j:=j+1) (vs:=vs) h1 (by simpa using hl) (λi u hu=>by have:=hev (i+1) u (by simpa using hu);rwa[show j+(i+1)=j+1+i from by omega]at this) LD
  have hv:ev (gs+j)=v:=by have:=hev 0 v rfl;simpa using this
  rw[hv]at Zx
  have aSk:xD φ w E2.ok v x rb1:=Zx.mono adt
  refine⟨E2,rb1++rb2,h2,.cons _ _ _ _ _ _ aSk hr2,dX.2 ⟨hn1,hn2,λb hb c hc e=> ?_⟩,λb hb=> ?_,λb hb=>adt b (aSd b hb),λb hf=>⟨(hm2 b (hm1 b hf).1).1,λhm=> ?_⟩⟩
  .subst e;exact(hm2 b (hf1 b hb)).2 hc
  .rcases bt.1 hb with hb|hb
   .exact(hm2 b (hf1 b hb)).1
   .exact hf2 b hb
  .rcases bt.1 hm with hm|hm
   .exact(hm1 b hf).2 hm
   .exact(hm2 b (hm1 b hf).1).2 hm
def RS(P:bV):ah aCD->ah Rs->aW | [],[]=>aB |.tmp t::l,.t i::m=>t==i&&RS P l m |.cell t ty::l,.cell i n::m=>t==i&&adf P ty n&&RS P l m |_,_=>aA
def anS(tmps:kZ aL):aCD->Sem aL
 |.tmp t=>Rv (tmps.getD t undef)
 |.cell a t=>do loadVar t (<-asAddr (tmps.getD a undef))
def anW(h:oR φ w0 L E st a w):∀{l:ah aCD} {m:ah Rs} {ab:ah A},RS P l m=aB->X6 st m=ai ab->
 ∃qQ,(l.mapM (anS a.tmps)).run P w=.ok qQ w/\hJ (λv x=>RV φ E st.r w v x/\∀k b,Tk v x k b->∃i,Tk (a.eval (.tmp i)) (st.t i) k b) qQ ab
 | [],[],ab,_,he=>by simp[X6]at he;subst he;exact⟨[],rfl,.nil⟩
 |.tmp t::l,.t i::m,ab,hc,he=>by simp only[RS,az,cS]at hc;obtain⟨rfl,hc⟩:=hc;simp only[X6,Rs.v,ag]at he;obtain⟨as',he',rfl⟩:=aM.1 he;obtain⟨qQ,hr,lO⟩:=anW h hc he';refine⟨a.eval (.tmp t)::qQ,?_,.cons ⟨h.me t,λk b ht=>⟨t,ht⟩⟩ lO⟩;simp only[List.mapM_cons,anS,eP,mg,cZ,hr];rfl
 |.cell t ty::l,.cell i n::m,ab,hc,he=>by
  simp only[RS,az,cS]at hc;obtain⟨⟨rfl,hcn⟩,hc⟩:=hc;simp only[X6]at he;obtain⟨x,hx,he⟩:=aI.1 he;obtain⟨as',he',rfl⟩:=aM.1 he;obtain⟨qQ,hr,lO⟩:=anW h hc he';have TL:(match(dI.t t).v st with |.loc q i c=>af (st.r q) λR=>af (R.xs[i]?) λx=>lB x.cells c n |.ptr cs c=>lB cs c n |_=>au)=ai x:=by simp only[Rs.v]at hx;simp only[dI.v];split at hx;(·rename_i q j c e;rw[e];exact hx);·cases hx
  obtain⟨v,hv,hrv,hcp⟩:=aFK (P:=P) (p:=.tmp t) (p':=.t t) h (by simp[db]) hcn TL;have aJk:(do loadVar ty (<-asAddr (a.tmps.getD t undef)):Sem aL).run P w=.ok v w:=by simp only[Rs.v]at hx;split at hx;(·rename_i q j c e;obtain⟨R,hR,hx⟩:=aI.1 hx;have hs:=h.me t;rw[e]at hs;obtain⟨b,o,_,he⟩:=hs.KW.abK hR;simp only[aa8]at he hv;rw[he]at hv⊢;simpa[awW,acQ,asAddr]using hv);·cases hx
  refine⟨v::qQ,?_,.cons ⟨hrv,hcp⟩ lO⟩;simp only[List.mapM_cons,anS,eP]at aJk⊢;simp only[aJk,cZ,hr,mg]
 | [],_::_,_,h,_=>by simp[RS]at h
 |.tmp _::_,[],_,h,_=>by simp[RS]at h
 |.cell _ _::_,[],_,h,_=>by simp[RS]at h
 |.tmp _::_,.cell _ _::_,_,h,_=>by simp[RS]at h
 |.cell _ _::_,.t _::_,_,h,_=>by simp[RS]at h
def avU{mf:Func}{tmps:kZ aL}{qQ:ah aL}(h:(mf.results.toList.mapM (anS tmps)).run P w=.ok qQ w):(results mf tmps).run P w=.ok (IQ qQ) w:=by
 have rh:∀f:aCD->Sem aL,f=anS tmps->(do let vs<-mf.results.mapM f;Rv (if h:vs.size=1 then vs[0]else .tuple vs):Sem aL).run P w=.ok (IQ qQ) w:=by intro f hf;subst hf;rw[Array.mapM_eq_mapM_toList];simp only[eP,Sem.run_map];rw[h];simp only[cZ,mg];congr 1;match qQ with| []=>rfl| [v]=>rfl|v::u::l=>simp[IQ]
 exact rh _ (funext λx=>by cases x<;>rfl)
def aeP(h:dC φ w0 L E st ev w)(hK:∀b,K b->E.ok b):∀{ab os:ah A} {vs:ah aL} {i:ax} {bs:ah ax},gy φ w0 K vs ab bs->
 (∀j v x,vs[j]? =ai v->ab[j]? =ai x->L.pl (i+j)=(if i+j<1000 then place v x else au)\/st.r (i+j)=au)->outs st i ab=ai os->
 ∃ob ns,jF φ w E.ok vs ab os ob/\NB E st ob ns/\ns.Nodup/\∀p∈ns,∃j,i<=j/\j<1000/\(p=j\/∃c,c<1000/\p=sub j c)
 | [],os,vs,i,bs,ha,_,he=>by simp[outs]at he;subst he;cases ha;exact⟨[],[],.nil,NB.nil,ib,λp hp=>by cases hp⟩
 |x::ab,os,vs,i,bs,ha,Md,he=>by(cases ha with|cons v _ b0 vs _ bs0 h0 t=>(have auZ:∀j u y,vs[j]? =ai u->ab[j]? =ai y->L.pl (i+1+j)=(if i+1+j<1000 then place u y else au)\/st.r (i+1+j)=au:=λj u y hu hy=>by have:=Md (j+1) u y (by simpa using hu) (by simpa using hy);rwa[show i+(j+1)=i+1+j from by omega]at this);(have hp0:L.pl i=(if i<1000 then place v x else au)\/st.r i=au:=by have:=Md 0 v x rfl rfl;simpa using this);(have sep:∀{ms:ah ax} {n1:ah ax},i<1000->n1.Nodup->(∀p∈n1,p=i\/∃c,c<1000/\p=sub i c)->ms.Nodup->(∀p∈ms,∃j,i+1<=j/\j<1000/\(p=j\/∃c,c<1000/\p=sub j c))-> (n1++ms).Nodup/\∀p∈n1++ms,∃j,i<=j/\j<1000/\(p=j\/∃c,c<1000/\p=sub j c):=by intro ms n1 hi a1 a2 a3 a4;refine⟨dX.2 ⟨a1,a3,λp hp q hq e=> ?_⟩,λp hp=> ?_⟩;(·subst e;obtain⟨j,b1,b2,b3⟩:=a4 p hq;(rcases a2 p hp with c1|⟨c,c1,c2⟩<;>rcases b3 with d1|⟨d,d1,d2⟩);(·omega);(·have:=YF j d;omega);(·have:=YF i c;omega);·have:=(UW c1 d1 (c2.symm.trans d2)).1;omega);·(rcases bt.1 hp with hp|hp);(·exact⟨i,bx _,hi,a2 p hp⟩);·obtain⟨j,b1,b2,b3⟩:=a4 p hp;exact⟨j,by omega,b2,b3⟩);cases h0 with|data _ hr=>(have hp:outs st i (x::ab)=outs st (i+1) ab:=by cases hr<;>rfl);rw[hp]at he;obtain⟨ob,ns,h1,h2,h3,h4⟩:=aeP h hK t auZ he;refine⟨ob,ns,.data _ _ _ _ _ _ ⟨λz xs e=> ?_,λz xs e=> ?_⟩ h1,h2,h3,λp hp=> ?_⟩;(·subst e;cases hr);(·subst e;cases hr);·obtain⟨j,b1,b2,b3⟩:=h4 p hp;exact⟨j,by omega,b2,b3⟩|iU z y _ hb=>simp only[outs]at he;obtain⟨R,hR,he⟩:=aI.1 he;split at he;(·rename_i e hRb hRx;split at he;(·rename_i gF;obtain⟨hz,hi⟩:=gF;obtain⟨cs,oz,he⟩:=aI.1 he;obtain⟨os',hos,rfl⟩:=aM.1 he;obtain⟨Rb,Rz,Rxs⟩:=R;simp only at hRb hRx hz;subst hRb;subst hRx;subst hz;obtain⟨ob,ns,h1,h2,h3,h4⟩:=aeP h hK t auZ hos;cases hb with|mk b o _ _ us bs1 hcr Ao qP hz=>replace hp0:=hp0.resolve_right (by rw[hR];exactλe=>by cases e);rw[aQ hi]at hp0;have hρ:=h.ZO i (b,o) hp0 (by rw[hR];rfl);cases h.roots _ _ hR with|box b1 o1 z1 _ us1 yY hz1 dE eJ j7 aRi aSn=>rw[hρ]at yY;cases yY;obtain⟨bs2,g4,g5,g6⟩:=Uc h (c:=0) eJ (λj v x hv hx=>by have:=j7 j v x hv hx;rwa[dL]) oz;(have hna:∀y∈cs,∀l,y≠ .agg l:=λy hy=>by obtain⟨c,hc⟩:=fO.1 hy;(have Ao:c<ae us1:=by(rcases bL c (ae cs)with h|h);(·omega);·simp[bU h]at hc);obtain⟨b',hb'⟩:=g4.get (j:=c) (v:=us1[c]) (by simp) hc;exact hb'.asH);have hrc:(gh e cs).cells=cs:=mn g6 hna;have RY:kE φ w E.ok (.pointer (ai ⟨b,o,au⟩)) Rz (gh e cs) (b::bs2):=.mk b o Rz _ us1 bs2 (by rw[hrc];exact g4) aRi aSn (by rw[hrc,g6,hz1]);have hnb:NB E st (b::bs2) (i::e.cells.flatMap fE):=(NB.one (by rw[hR];rfl) hρ).append h g5;obtain⟨k1,k2⟩:=ahW (c:=0) eJ (λj v x hv hx=>by rw[dL];exact j7 j v x hv hx);obtain⟨m1,m2⟩:=sep hi (aiJ dE eJ j7) (λp hp=>by(rcases bP.1 hp with rfl|hp);(·exact .inl rfl);·obtain⟨c,_,c1,c2⟩:=k2 p hp;exact .inr ⟨c,c1,c2⟩) h3 h4;exact⟨(b::bs2)++ob,_,.iU _ _ _ _ _ _ _ _ _ RY h1,hnb.append h h2,m1,m2⟩);·cases he);·cases he|l7 z xs ob1 ho=>simp only[outs]at he;split at he;(·obtain⟨os',hos,rfl⟩:=aM.1 he;obtain⟨ob,ns,h1,h2,h3,h4⟩:=aeP h hK t auZ hos;exact⟨ob,ns,.gone _ _ _ _ _ _ _ h1,h2,h3,λp hp=>by obtain⟨j,b1,b2,b3⟩:=h4 p hp;exact⟨j,by omega,b2,b3⟩⟩);rename_i R hR;split at he;(·rename_i gF;obtain⟨hz,hlx,hRb,hi⟩:=gF;obtain⟨os',hos,rfl⟩:=aM.1 he;obtain⟨Rb,Rz,Rxs⟩:=R;simp only at hRb hz hlx;subst hRb;subst hz;obtain⟨ob,ns,h1,h2,h3,h4⟩:=aeP h hK t auZ hos;replace hp0:=hp0.resolve_right (by rw[hR];exactλe=>by cases e);rw[aQ hi]at hp0;(have ly:∃ob2,eL φ w E.ok v Rz Rxs ob2/\∀b,ob2=ai b->∃o,E.ρ i=ai (b,o):=by cases ho with|empty ad z=>obtain rfl:Rxs=[]:=fQ (by simpa using hlx);exact⟨au,.empty _ _,λb e=>by cases e⟩|mk b o cap z xs us hc hc0 hz hh hv hr=>have hρ:=h.ZO i (b,o) (by rw[hp0];simp[place,hc0]) (by rw[hR];rfl);cases h.roots _ _ hR with|empty z1 h1=>rw[hρ]at h1;cases h1|sl b1 o1 z1 _ us1 yY hz1 hh1 hv1 Zx=>rw[hρ]at yY;cases yY;have:=eL.mk (φ:=φ) (w:=w) (K:=E.ok) b o cap Rz Rxs us1 (by omega) hc0 hz1 hh1 hv1 (h.room _ _ hr);rw[hlx]at this;exact⟨ai b,this,λb' e=>by cases e;exact⟨o,hρ⟩⟩);obtain⟨ob2,ho2,Me⟩:=ly;(have hnb:NB E st ob2.toList [i]:=by cases ob2 with|none=>exact NB.none _|some b=>obtain⟨o,iA⟩:=Me b rfl;exact NB.one (by rw[hR];rfl) iA);obtain⟨m1,m2⟩:=sep hi (n1:=[i]) (by simp) (λp hp=>.inl (by simpa using hp)) h3 h4;exact⟨ob2.toList++ob,_,.l7 _ _ _ _ _ _ _ _ _ ho2 hlx h1,hnb.append h h2,m1,m2⟩);·cases he)
end
end Go.Ab
namespace Go.Ab
structure arZ(P:bV)(φ:ax->ax)(M:ax->aq Def):Prop where
 ir:∀f fn,M f=ai (.ir fn)→∃mf c,P.funcs[φ f]? =ai mf∧mf.name≠ "runtime.NumGoroutine" ∧mf.body=ai c∧iX P φ mf.ntmps (avi fn.io 0 fn.gone) fn.body c=aB∧RS P mf.results.toList fn.res=aB∧fn.np≤mf.ntmps
 ayg:∀f io g,M f=ai (.ayg io g)->∀args res outs,g f args=ai (res,outs)->lA P (φ f)/\dx P φ f args res outs
section
variable {P:bV} {φ:ax->ax} {M:ax->aq Def}
def auj(hM:arZ P φ M){ex:C->St->aq (Ex×St)}(hex:alO P φ ex):aJL P φ (ade M ex):=by
 intro f args res outs he;unfold ade at he;split at he
 .rename_i fn hf;obtain⟨mf,c,h1,h2,h3,h4,h5,h6⟩:=hM.ir f fn hf;obtain⟨st0,hen,he⟩:=aI.1 he;refine⟨⟨mf,h1,h2,by rw[h3];rfl⟩,λw K vs bs ha Jg hKb hKz hGl=> ?_⟩;have eJ:ae vs=fn.np:=by unfold Fn.enter at hen;split at hen;(·rename_i hc;rw[ha.length];exact hc.1);·cases hen
  have hlo:QU fn.io args=aB:=by unfold Fn.enter at hen;split at hen;(·rename_i hc;exact hc.2);·cases hen
  obtain⟨E,hS,Ap⟩:=aDO fn.gone (n:=mf.ntmps) ha Jg hKb hKz hen;have fin:∀{e:Ex} {st:St},ex fn.body st0=ai (e,st)->fn.leave args st=ai (res,outs)->(e=.ret\/e=.normal)-> fF P (φ f) vs.toArray w λe w'=>∃v,e=.returned v/\aJI φ w K vs args res outs bs v w':=by intro e st hx hl hee;refine calls_of_wp h1 h3 ?_;(have Aq:(vs.toArray++YT (mf.ntmps-vs.toArray.size) undef).size=mf.ntmps:=by simp;omega);refine hex fn.body c mf.ntmps (avi fn.io 0 fn.gone) h4 w (Ud K vs args bs fn.gone) (λi p hp=> ?_) ⟨hGl,λb hb=>⟨hKz b hb,λhm=>hKb b hm hb⟩⟩ E st0 {tmps:=vs.toArray++YT (mf.ntmps-vs.toArray.size) undef,defers:=[]} w e st (by simpa using hS) Aq hx _ λE' a' w' hS' hn'=> ?_;(·simp only[Ud]at hp;split at hp;(·rename_i hc;split at hp;(·rename_i v x hv TL;exact azK (agC hlo TL (ayb hp)) (by rw[dL];exact hc.2));·cases hp);·cases hp);·(have rh:a'.defers=[]/\∃v,(results mf a'.tmps).run P w'=.ok v w'/\∃v',Ending.returned v=.returned v'/\aJI φ w K vs args res outs bs v' w':=by unfold Fn.leave at hl;split at hl;(·rename_i hlr;obtain⟨ab,has,hl⟩:=aI.1 hl;obtain⟨⟨rs,st1⟩,hrs,hl⟩:=aI.1 hl;obtain⟨os,hos,hl⟩:=aM.1 hl;simp only[bS]at hl;obtain⟨rfl,rfl⟩:=hl;obtain⟨qQ,jn,lO⟩:=anW hS' h5 has;have aRQ:=hS'.todC.lay lO;(have hrl:ae qQ=ae fn.own:=by(have hm:∀{m:ah Rs} {ab:ah A},X6 st m=ai ab->ae ab=ae m:=by intro m;induction m with|nil=>intro ab h;simp[X6]at h;subst h;rfl|cons r m ih=>intro ab h;simp only[X6]at h;obtain⟨x,_,h⟩:=aI.1 h;obtain⟨l,hl,rfl⟩:=aM.1 h;simp[ih hl]);rw[lO.1,hm has,hlr]);obtain⟨E2,rb,hS2,V7,hnb,hfb,adt,_⟩:=aqP (vs:=qQ) aRQ hrl (λi v hv=>by simp only[evL];rw[aQ (by omega),show gs+(0+i)-gs=i from by omega,hv];rfl) hrs;have hKu:∀b,K b->E2.ok b:=λb hb=>adt b (hS'.okU b hb);have hS3:dC φ w (Ud K vs args bs fn.gone) E2 {st1 with r:=Ab.less st1.r fn.gone} _ w':=hS2.asC fn.gone;obtain⟨ob,ns,amn,aNX,hns,_⟩:=aeP hS3 hKu ha (i:=0) (λj v x hv hx=>by simp only[Ud,dL,hv,hx];by_cases hg:j∈fn.gone;(·exact .inr (by simp[Ab.less,hg]));·refine .inl ?_;by_cases hj:j<1000;(·rw[aQ ⟨hj,hg⟩,aQ hj]);·rw[aP λh=>hj h.1,aP hj]) hos;(have hob:∀b∈ob,(¬E2.ok b/\ac8 w (Ud K vs args bs fn.gone) b/\b<w'.heap.size)/\b∉rb:=λb hb=>by obtain⟨p,_,hlv,o,hρ⟩:=aNX.1 b hb;(have aHh:(st1.r p).isSome=aB:=by simp only[Ab.less]at hlv;split at hlv;(·cases hlv);·exact hlv);exact⟨hS2.rz p b o aHh hρ,λhm=>(hfb b hm).r p b o aHh hρ rfl⟩);refine⟨hS'.Gc,IQ qQ,avU jn,IQ qQ,rfl,⟨hS2.grow,λb hb hn=>hS2.frame b hb hn,hS2.env,hS2.fr,hS2.room,qQ,E2.ok,rb,ob,rfl,hKu,λb hb=> ?_,V7,amn,dX.2 ⟨hnb,aNX.2 hns,λb hb c hc e=>(hob c hc).2 (e▸hb)⟩,λb hb=> ?_⟩⟩;(·(rcases hS2.okL b hb with h7|h7|h7);(·exact .inl h7);(·exact .inr (.inr ⟨h7,hS2.okz b hb⟩));·exact .inr (.inl h7));·(have hz:¬E2.ok b/\ac8 w (Ud K vs args bs fn.gone) b/\b<w'.heap.size:=by(rcases bt.1 hb with hb|hb);(·exact(hfb b hb).z);·exact(hob b hb).1);exact⟨hz.1,hz.2.2,hz.2.1.symm⟩);·cases hl);rcases hee with rfl|rfl<;>exact⟨rh.1,rh.2⟩
  split at he;·rename_i st hx;exact fin hx he (.inl rfl)
  .rename_i st hx;exact fin hx he (.inr rfl)
  .cases he
 .rename_i io g hf;exact hM.ayg f io g hf args res outs he
 .cases he
def aKe(hm:P.follows .mixedOrders=aB)(hM:arZ P φ M):∀n,alO P φ (exec M n):=by intro n;induction n using Nat.strongRecOn with|_ n ih=>cases n with|zero=>exact aAZ M|succ n=>exact aAY hm (λk hk=>ih k (by omega)) (auj hM (ih n (by omega)))
end
end Go.Ab
namespace Go.Ab
mutual
inductive CT where
 |bool
 |int (k:aLN)
 |str
 |sl (t:ET)
 |own (t:ET)
inductive ET where
 |one (c:CT)
 |agg (cs:vq)
inductive vq where
 |nil
 |cons (c:CT) (cs:vq)
end
mutual
@[reducible] def CT.ty:CT->Type |.bool=>aW |.int _=>aw |.str=>ah ay |.sl t=>ah t.ty |.own t=>ah t.ty
@[reducible] def ET.ty:ET->Type |.one c=>c.ty |.agg cs=>cs.ty
@[reducible] def vq.ty:vq->Type |.nil=>mW |.cons c cs=>c.ty×cs.ty
end
def vq.len:vq->ax |.nil=>0 |.cons _ cs=>cs.len+1
def ET.z:ET->ax |.one _=>1 |.agg cs=>cs.len
mutual
def CT.enc:(c:CT)->c.ty->A |.bool,b=>.bool b |.int k,n=>.int k n |.str,s=>.str s |.sl t,xs=>.sl t.z (xs.map t.enc) |.own t,xs=>.own t.z (xs.map t.enc)
def ET.enc:(t:ET)->t.ty->A |.one c,x=>c.enc x |.agg cs,x=>.agg (cs.enc x)
def vq.enc:(cs:vq)->cs.ty->ah A |.nil,_=>[] |.cons c cs,x=>c.enc x.1::cs.enc x.2
end
mutual
def CT.eq? :(a b:CT)->aq (PLift (a=b))
 |.bool,.bool=>ai ⟨rfl⟩
 |.int k,.int k'=>if h:k=k' then ai ⟨by rw[h]⟩else au
 |.str,.str=>ai ⟨rfl⟩
 |.sl t,.sl u=>(t.eq? u).map λh=>⟨by rw[h.down]⟩
 |.own t,.own u=>(t.eq? u).map λh=>⟨by rw[h.down]⟩
 |_,_=>au
def ET.eq? :(a b:ET)->aq (PLift (a=b))
 |.one c,.one d=>(c.eq? d).map λh=>⟨by rw[h.down]⟩
 |.agg c,.agg d=>(c.eq? d).map λh=>⟨by rw[h.down]⟩
 |_,_=>au
def vq.eq? :(a b:vq)->aq (PLift (a=b))
 |.nil,.nil=>ai ⟨rfl⟩
 |.cons c cs,.cons d ds=>
  match c.eq? d,cs.eq? ds with
  |some h,ai h'=>ai ⟨by rw[h.down,h'.down]⟩
  |_,_=>au
 |_,_=>au
end
def WQ(t u:ET)(xs:ah t.ty):aq (ah u.ty):=match t.eq? u with
 |some h=>ai (h.down▸xs)
 |none=>au
def DO{t u:ET}{xs:ah t.ty}{ys:ah u.ty}(h:WQ t u xs=ai ys):t=u/\HEq xs ys:=by
 unfold WQ at h;split at h;·rename_i e _;obtain⟨rfl⟩:=e;simp only[aC]at h;subst h;exact⟨rfl,HEq.rfl⟩
 .cases h
inductive V where
 |any
 |undef
 |bool (b:aW)
 |int (k:aLN) (n:aw)
 |str (s:ah ay)
 |agg (cs:ah V)
 |sl0 (z:ax)
 |sl (t:ET) (xs:ah t.ty)
 |lz (z:ax)
 |cst (v:aL)
 |tok (k:ax) (t:ET) (xs:ah t.ty)
 |view (r off len:ax)
 |loc (r i c:ax)
 |ptr (cs:ah V) (c:ax)
 |fn (f:ax) (caps:ah V)
 |xv (xs:ah V)
 |own (t:ET) (xs:ah t.ty)
 |iU (z:ax) (x:V)
 |l7 (t:ET) (xs:ah t.ty)
mutual
def V.a:V->A |.any=>.any |.undef=>.undef |.bool b=>.bool b |.int k n=>.int k n |.str s=>.str s |.agg cs=>.agg (V.ab cs) |.sl0 z=>.sl z [] |.sl t xs=>.sl t.z (xs.map t.enc) |.lz z=>.lz z |.cst v=>.cst v |.tok k t xs=>.tok k t.z (xs.map t.enc) |.view r o n=>.view r o n |.loc r i c=>.loc r i c |.ptr cs c=>.ptr (V.ab cs) c |.fn f caps=>.fn f (V.ab caps) |.xv xs=>.xv (V.ab xs) |.own t xs=>.own t.z (xs.map t.enc) |.iU z x=>.iU z [x.a] |.l7 t xs=>.l7 t.z (xs.map t.enc)
def V.ab:ah V->ah A | []=>[] |v::l=>v.a::V.ab l
end
mutual
def CT.v:(c:CT)->c.ty->V |.bool,b=>.bool b |.int k,n=>.int k n |.str,s=>.str s |.sl t,xs=>.sl t xs |.own t,xs=>.own t xs
def ET.v:(t:ET)->t.ty->V |.one c,x=>c.v x |.agg cs,x=>.agg (cs.v x)
def vq.v:(cs:vq)->cs.ty->ah V |.nil,_=>[] |.cons c cs,x=>c.v x.1::cs.v x.2
end
mutual
def CT.v_a:∀(c:CT) (x:c.ty),(c.v x).a=c.enc x |.bool,_=>rfl |.int _,_=>rfl |.str,_=>rfl |.sl _,_=>rfl |.own _,_=>rfl
def ET.v_a:∀(t:ET) (x:t.ty),(t.v x).a=t.enc x
 |.one c,x=>CT.v_a c x
 |.agg cs,x=>by simp only[ET.v,V.a,ET.enc,vq.aOZ cs x]
def vq.aOZ:∀(cs:vq) (x:cs.ty),V.ab (cs.v x)=cs.enc x
 |.nil,_=>rfl
 |.cons c cs,x=>by simp only[vq.v,V.ab,vq.enc,CT.v_a c x.1,vq.aOZ cs x.2]
end
def V.aIl:(c:CT)->V->aq c.ty |.bool,.bool b=>ai b |.int k,.int k' n=>if k'=k then ai n else au |.str,.str s=>ai s |.sl t,.sl u xs=>WQ u t xs |.sl t,.sl0 z=>if z=t.z then ai []else au |.own t,.own u xs=>WQ u t xs |_,_=>au
def V.ary:(cs:vq)->ah V->aq cs.ty |.nil,[]=>ai () |.cons c cs,v::l=>af (v.aIl c) λx=>(V.ary cs l).map λy=>(x,y) |_,_=>au
def V.alj:(t:ET)->V->aq t.ty |.one c,v=>v.aIl c |.agg cs,.agg l=>V.ary cs l |_,_=>au
def V.aFA{c:CT}{v:V}{x:c.ty}(h:v.aIl c=ai x):v.a=c.enc x:=by
 unfold V.aIl at h;split at h;·simp only[aC]at h;subst h;rfl
 .split at h;·rename_i e;simp only[aC]at h;subst h;subst e;rfl
  .cases h
 .simp only[aC]at h;subst h;rfl
 .obtain⟨rfl,h⟩:=DO h;cases h;rfl
 .split at h;·rename_i e;simp only[aC]at h;subst h;subst e;rfl
  .cases h
 .obtain⟨rfl,h⟩:=DO h;cases h;rfl
 .cases h
def V.awh:∀{cs:vq} {l:ah V} {x:cs.ty},V.ary cs l=ai x->V.ab l=cs.enc x
 |.nil,[],x,h=>rfl
 |.nil,_::_,x,h=>by simp[V.ary]at h
 |.cons c cs,[],x,h=>by simp[V.ary]at h
 |.cons c cs,v::l,x,h=>by simp only[V.ary]at h;obtain⟨y,hy,h⟩:=aI.1 h;obtain⟨z,hz,rfl⟩:=aM.1 h;simp only[V.ab,vq.enc,V.aFA hy,V.awh hz]
def V.Rq{t:ET}{v:V}{x:t.ty}(h:v.alj t=ai x):v.a=t.enc x:=by
 unfold V.alj at h;split at h;·exact V.aFA h
 .simp only[V.a,ET.enc,V.awh h]
 .cases h
def XB{α β:Type}{f:α->β}(hf:∀x y,f x=f y->x=y):∀{xs ys:ah α},xs.map f=ys.map f->xs=ys
 | [],[],_=>rfl
 | [],_::_,h=>by simp at h
 |_::_,[],h=>by simp at h
 |x::xs,y::ys,h=>by simp only[aY,dU]at h;rw[hf _ _ h.1,XB hf h.2]
mutual
def CT.rV:∀(c:CT) (x y:c.ty),c.enc x=c.enc y->x=y
 |.bool,x,y,h=>by simpa[CT.enc]using h
 |.int _,x,y,h=>by simpa[CT.enc]using h
 |.str,x,y,h=>by simpa[CT.enc]using h
 |.sl t,x,y,h=>by simp only[CT.enc,A.sl.injEq,Ag]at h;exact XB (ET.rV t) h
 |.own t,x,y,h=>by simp only[CT.enc,A.own.injEq,Ag]at h;exact XB (ET.rV t) h
def ET.rV:∀(t:ET) (x y:t.ty),t.enc x=t.enc y->x=y
 |.one c,x,y,h=>CT.rV c x y h
 |.agg cs,x,y,h=>vq.rV cs x y (by simpa[ET.enc]using h)
def vq.rV:∀(cs:vq) (x y:cs.ty),cs.enc x=cs.enc y->x=y
 |.nil,_,_,_=>rfl
 |.cons c cs,x,y,h=>by simp only[vq.enc,dU]at h;exact Prod.ext (CT.rV c _ _ h.1) (vq.rV cs _ _ h.2)
end
def V.gE(l:ah V):V.ab l=l.map V.a:=by induction l with|nil=>rfl|cons v l ih=>simp only[V.ab,aY,ih]
def V.cells:V->ah V |.agg cs=>cs |v=>[v]
def V.jG(v:V):v.a.cells=v.cells.map V.a:=by cases v<;>simp[V.a,A.cells,V.cells,V.gE]
def CT.RW(c:CT)(x:c.ty):avp (c.enc x)=aB:=by cases c<;>rfl
def vq.RW:∀(cs:vq) (x:cs.ty),(cs.enc x).all avp=aB
 |.nil,_=>rfl
 |.cons c cs,x=>by simp only[vq.enc,eQ,CT.RW,vq.RW cs x.2,bw]
def CT.yX(c:CT)(x:c.ty):(c.enc x).cells=[c.enc x]:=by cases c<;>rfl
def ET.auA(t:ET)(x:t.ty):Vf (t.enc x)=aB:=by cases t with|one c=>simp[Vf,ET.enc,CT.yX,CT.RW]|agg cs=>simpa[Vf,ET.enc,A.cells]using vq.RW cs x
def vq.azm:∀(cs:vq) (x:cs.ty),ae (cs.enc x)=cs.len
 |.nil,_=>rfl
 |.cons c cs,x=>by simp only[vq.enc,bl,vq.azm cs x.2,vq.len]
def ET.Im(t:ET)(x:t.ty):(t.enc x).cells.length=t.z:=by cases t with|one c=>simp[ET.enc,CT.yX,ET.z]|agg cs=>simp[ET.enc,A.cells,vq.azm,ET.z]
def ET.vs(t:ET)(x:t.ty):ah V:=(t.v x).cells
def ET.aib(t:ET)(x:t.ty):(t.enc x).cells=(t.vs x).map V.a:=by rw[<-ET.v_a,V.jG];rfl
mutual
def CT.plain:CT->aW |.bool|.int _|.str=>aB |_=>aA
end
def vq.plain:vq->aW |.nil=>aB |.cons c cs=>c.plain&&cs.plain
def ET.plain:ET->aW |.one c=>c.plain |.agg cs=>cs.plain
def CT.data:CT->aW |.own _=>aA |_=>aB
def vq.data:vq->aW |.nil=>aB |.cons c cs=>c.data&&cs.data
def ET.data:ET->aW |.one c=>c.data |.agg cs=>cs.data
def CT.C9(c:CT)(x:c.ty)(h:c.plain=aB):(c.enc x).plain=aB:=by cases c<;>first|rfl|(simp[CT.plain]at h)
def vq.C9:∀(cs:vq) (x:cs.ty),cs.plain=aB->A.yx (cs.enc x)=aB
 |.nil,_,_=>rfl
 |.cons c cs,x,h=>by simp only[vq.plain,az]at h;simp only[vq.enc,A.yx,CT.C9 c x.1 h.1,vq.C9 cs x.2 h.2,bw]
def ET.C9(t:ET)(x:t.ty)(h:t.plain=aB):(t.enc x).plain=aB:=by cases t with|one c=>exact CT.C9 c x h|agg cs=>simpa[ET.enc,A.plain]using vq.C9 cs x h
end Go.Ab
namespace Go.Ab
inductive VR where
 |var (z:ax) (x:V)
 |sl (t:ET) (xs:ah t.ty)
def VR.a:VR->eO |.var z x=>⟨aB,z,[x.a]⟩ |.sl t xs=>⟨aA,t.z,xs.map t.enc⟩
structure cy where
 t:ah (ax×V)
 r:ah (ax×aq VR)
def iQ:ah (ax×V)->ax->V | [],_=>.any |(j,v)::l,i=>if i=j then v else iQ l i
def eX:ah (ax×aq VR)->ax->aq VR | [],_=>au |(j,v)::l,i=>if i=j then v else eX l i
def cy.a(st:cy):St:=⟨λi=>(iQ st.t i).a,λi=>(eX st.r i).map VR.a⟩
def A.ok1:A->aW |.any|.undef|.bool _|.int _ _|.str _|.lz _|.cst _|.sl _ []|.fn _ []=>aB |_=>aA
def A.okV:A->aW |.agg cs=>cs.all A.ok1 |a=>a.ok1
def A.aFD:A->V |.undef=>.undef |.bool b=>.bool b |.int k n=>.int k n |.str s=>.str s |.lz z=>.lz z |.cst v=>.cst v |.sl z _=>.sl0 z |.fn f _=>.fn f [] |_=>.any
def A.toV:A->V |.agg cs=>.agg (cs.map A.aFD) |a=>a.aFD
def dI.ok:dI->aW |.t _=>aB |.c a=>a.okV
def dI.vv(st:cy):dI->V |.t i=>iQ st.t i |.c a=>a.toV
def cy.put(st:cy)(d:aq ax)(v:V):cy:=match d with
 |some d=>{st with t:=(d,v)::st.t}
 |none=>st
def cy.iW(st:cy)(i:ax)(v:V):cy:={st with t:=(i,v)::st.t}
def cy.map(f:V->V)(st:cy):cy:={st with t:=st.t.map λp=>(p.1,f p.2)}
def Hz(f:V->V):V->V |.xv xs=>.xv (xs.map f) |.agg xs=>.agg (xs.map f) |.fn g xs=>.fn g (xs.map f) |a=>f a
def aF7(r:ax):V->aW |.view q _ _|.loc q _ _=>q==r |_=>aA
def aAc(k:ax):V->aW |.tok j _ _=>j==k |_=>aA
def ayQ(r:ax)(a:V):V:=if aF7 r a then .any else a
def ah7(k:ax)(a:V):V:=if aAc k a then .any else a
def cy.kill(st:cy)(r:ax):cy:=st.map (Hz (ayQ r))
def cy.eW(st:cy)(k:ax):cy:=st.map (Hz (ah7 k))
def cy.bj(st:cy)(r:ax)(R:aq VR):cy:={st with r:=(r,R)::st.r}
def C7:V->aW |.bool _|.int .. |.str _|.sl .. |.sl0 _|.lz _|.ptr ..=>aB |.cst v=>aE0 v |.fn _ caps=>caps.isEmpty |_=>aA
def arI:V->aW |.agg cs=>cs.all C7 |a=>C7 a
def acC:V->V |.lz z=>.sl0 z |a=>a
def ayT:V->V |.agg cs=>.agg (cs.map acC) |a=>acC a
def aIx(a:V):aq V:=if arI a then ai (ayT a)else au
def nu{α:Type}:ax->ah α->ah α |0,l=>l |n+1,l=>l.drop (n+1)
def aFJ:ax->ax->ax |0,m=>m |n+1,m=>(n+1)+m
def acA(r:ah (ax×aq VR)):V->aq V
 |.view q off n=>
  match eX r q with
  |some (.sl t xs)=>ai (.sl t ((nu off xs).take n))
  |_=>au
 |.tok _ t xs=>ai (.sl t xs)
 |a=>if C7 a then ai (acC a)else au
def Rr(r:ah (ax×aq VR)):ah V->aq (ah V)
 | []=>ai []
 |a::l=>match acA r a,Rr r l with|some x,ai xs=>ai (x::xs)|_,_=>au
def yS{R:Type}(r:ah (ax×aq VR))(v:V)(k:V->aq R):aq R:=
 match v with
 |.loc q i c=>
  match eX r q with
  |some (.var _ x)=>(match i,Rr r x.cells with|0,ai cs=>k (.ptr cs c)|_,_=>au)
  |some (.sl t xs)=>if t.data then af (xs[i]?) λx=>k (.ptr (t.vs x) c)else au
  |none=>au
 |.agg cs=>(match Rr r cs with|some cs=>k (.agg cs)|none=>au)
 |a=>(match acA r a with|some x=>k x|none=>au)
def BA{R:Type}(r:ah (ax×aq VR)):ah V->(ah V->aq R)->aq R | [],k=>k [] |a::l,k=>yS r a λx=>BA r l λxs=>k (x::xs)
def Zi:V->aW |.tok ..=>aB |_=>aA
def atw(k:ax):V->V |.tok j t xs=>if j=k then .sl t xs else .tok j t xs |a=>a
def aGe(k:ax):V->V:=Hz (atw k)
def aoT(r:ax)(t:ET)(xs:ah t.ty):V->V |.view q off n=>if q=r then .sl t ((nu off xs).take n)else .view q off n |.loc q i c=>if q=r then .any else .loc q i c |a=>a
def aAk(r:ax)(t:ET)(xs:ah t.ty):V->V:=Hz (aoT r t xs)
def asN:ah V->ax->V | [],_=>.any |v::_,0=>v |_::l,j+1=>asN l j
def ai1(a:V)(j:ax):V:=asN a.cells j
def cy.KY(st:cy)(i j:ax):aq cy:=
 match ai1 (iQ st.t i) j with
 |.tok k _ _=>ai (st.map (aGe k))
 |.view q _ _=>
  match eX st.r q with
  |some (.sl t xs)=>ai ((st.map (aAk q t xs)).bj q au)
  |_=>au
 |_=>ai st
def cy.IS(st:cy)(i:ax):ax->aq cy
 |0=>ai st
 |n+1=>match st.IS i n with|some st1=>st1.KY i n|none=>au
def cy.pin(st:cy)(x:V):aq (V×cy):=match(st.iW gs x).IS gs (ae x.cells)with
 |some st1=>(match aIx (iQ st1.t gs)with|some v=>ai (v,st1.iW gs .any)|none=>au)
 |none=>au
section
variable {R:Type}
def aam(op:aoY)(x y:V)(k:V->aq R):aq R:=
 match x,y with
 |.int i a,.int j b=>
  match op with
  |.shl=>if ao (b<0)then au else k (.int i (i.wrap (a*2^(min b.toNat i.bits))))
  |.quo=>if i=j then(if ao (b=0)then au else k (.int i (i.wrap (a.tdiv b))))else au
  |.rem=>if i=j then(if ao (b=0)then au else k (.int i (a.tmod b)))else au
  |.add=>if i=j then k (.int i (i.wrap (a+b)))else au
  |.sub=>if i=j then k (.int i (i.wrap (a-b)))else au
  |.mul=>if i=j then k (.int i (i.wrap (a*b)))else au
  |.eql=>if i=j then k (.bool (a==b))else au
  |.neq=>if i=j then k (.bool (a !=b))else au
  |.lss=>if i=j then k (.bool (ao (a<b)))else au
  |.leq=>if i=j then k (.bool (ao (a<=b)))else au
  |.gtr=>if i=j then k (.bool (ao (a>b)))else au
  |.geq=>if i=j then k (.bool (ao (a>=b)))else au
  |_=>au
 |.str a,.str b=>
  match op with
  |.add=>if ao (ae a+ae b<=cQ)then k (.str (a++b))else au
  |.eql=>k (.bool (a==b))
  |.neq=>k (.bool (!(a==b)))
  |.lss=>k (.bool (dB a b))
  |.leq=>k (.bool (dB a b||a==b))
  |.gtr=>k (.bool (!(dB a b||a==b)))
  |.geq=>k (.bool (!dB a b))
  |_=>au
 |_,_=>au
def vun(op:UnOp)(x:V):aq V:=match op,x with
 |.neg,.int k n=>ai (.int k (k.wrap (0-n)))
 |.not,.bool b=>ai (.bool !b)
 |_,_=>au
def aF2:V->V->aq V |.int k x,.int k' y=>if k=k' then ai (.int k (if y>x then y else x))else au |_,_=>au
def aF3:V->V->aq V |.int k x,.int k' y=>if k=k' then ai (.int k (if y<x then y else x))else au |_,_=>au
def arD(f:V->V->aq V):V->ah V->aq V
 |a,[]=>ai a
 |a,b::l=>match f a b with|some c=>arD f c l|none=>au
def atr(r:ah (ax×aq VR))(t:ET):V->aq (ah t.ty)
 |.sl u xs=>WQ u t xs
 |.tok _ u xs=>WQ u t xs
 |.lz z=>if z=t.z then ai []else au
 |.sl0 z=>if z=t.z then ai []else au
 |.view q off n=>
  match eX r q with
  |some (.sl u xs)=>WQ u t ((nu off xs).take n)
  |_=>au
 |_=>au
def aLG(r:ah (ax×aq VR)):V->aq ax
 |.sl _ xs=>ai (ae xs)
 |.sl0 _=>ai 0
 |.tok _ _ xs=>ai (ae xs)
 |.lz _=>ai 0
 |.view q _ n=>match eX r q with|some _=>ai n|none=>au
 |_=>au
def tP(cs:ah V)(c:ax):aq ax->aq V |none=>cs[c]? |some n=>if c+n<=ae cs then ai (.agg (((cs.drop c).take n).map acC))else au
def Zl(cs:ah V)(c:ax)(vs:ah V):aq (ah V):=if c+ae vs<=ae cs then ai (cs.take c++vs++cs.drop (c+ae vs))else au
def nw(old:V)(cs:ah V):V:=
 match old with
 |.agg _=>.agg cs
 |_=>match cs with| []=>.any|c::_=>c
def acE(r:ah (ax×aq VR)):V->aW |.tok ..=>aB |.view q _ _|.loc q _ _=>(eX r q).isSome |a=>C7 a
def aoJ(st:cy):ah V->ah (ax×ax×dI)->aq (ah V)
 |cs,[]=>ai cs
 |cs,(off,z,x)::l=>
  if x.ok&&ao ((x.vv st).cells.length=z)&&(x.vv st).cells.all (acE st.r)then
   match Zl cs off (x.vv st).cells with|some Vc=>aoJ st Vc l|none=>au
  else au
def aoK(st:cy)(t:ET):ah t.ty->ah (ax×dI)->aq (ah t.ty)
 |xs,[]=>ai xs
 |xs,(i,x)::l=>
  if x.ok then
   match aIx (x.vv st)with
   |some v=>(match v.alj t with|some y=>if i<ae xs then aoK st t (xs.set i y) l else au|none=>au)
   |none=>au
  else au
def ayS(r:ah (ax×aq VR)):V->aq V
 |.view q off n=>
  match eX r q with
  |some (.sl t xs)=>ai (.own t ((nu off xs).take n))
  |_=>au
 |a=>if C7 a then ai a else au
def HA(r:ah (ax×aq VR)):ah V->aq (ah V)
 | []=>ai []
 |a::l=>match ayS r a,HA r l with|some x,ai xs=>ai (x::xs)|_,_=>au
def ayV(q c:ax)(st:cy):V->aq (V×cy) |.own t xs=>if c<1000 then ai (.view (sub q c) 0 (ae xs),(st.kill (sub q c)).bj (sub q c) (ai (.sl t xs)))else au |a=>if C7 a then ai (a,st)else au
def aic(q:ax):ax->cy->ah V->aq (ah V×cy)
 |_,st,[]=>ai ([],st)
 |c,st,a::l=>
  match ayV q c st a with
  |some (x,st1)=>(match aic q (c+1) st1 l with|some (xs,st2)=>ai (x::xs,st2)|none=>au)
  |none=>au
def afK(st:cy)(q:ax)(z:ax)(x:V):aq cy:=
 if q<1000/\ae x.cells<=1000 then
  match aic q 0 ((st.kill q).bj q au) x.cells with
  |some (cs,st1)=>ai ((st1.kill q).bj q (ai (.var z (nw x cs))))
  |none=>au
 else au
def cy.ur(st:cy)(q c j:ax):aq (V×cy):=
 match ai1 (iQ st.t gs) j with
 |.tok k t xs=>
  if c+j<1000 then ai (.view (sub q (c+j)) 0 (ae xs),((st.eW k).kill (sub q (c+j))).bj (sub q (c+j)) (ai (.sl t xs)))else au
 |.view s off n=>
  if s=sub q (c+j)/\c+j<1000/\(eX st.r s).isSome=aB then ai (.view s off n,st)
  else
   match st.KY gs j with
   |some st1=>if C7 (ai1 (iQ st1.t gs) j)then ai (acC (ai1 (iQ st1.t gs) j),st1)else au
   |none=>au
 |.lz z=>ai (.lz z,st)
 |a=>if C7 a then ai (acC a,st)else au
def cy.jU(st:cy)(q c:ax):(j n:ax)->aq (ah V×cy)
 |_,0=>ai ([],st)
 |j,n+1=>
  match st.ur q c j with
  |some (x,st1)=>(match st1.jU q c (j+1) n with|some (xs,st2)=>ai (x::xs,st2)|none=>au)
  |none=>au
def atp(e:V)(c n:ax):V:=nw e (e.cells.take c++bK n .any++e.cells.drop (c+n))
def ayP:V->aW |.own ..=>aB |_=>aA
def U1(d:ax):ax->ah V->ah V |_,[]=>[] |j,.tok _ t xs::l=>.tok (8*d+j) t xs::U1 d (j+1) l |j,.agg cs::l=>(if cs.any ayP then .any else .agg cs)::U1 d (j+1) l |j,a::l=>a::U1 d (j+1) l
def afI(d:ax):ax->ah V->ah V |_,[]=>[] |j,.own t xs::l=>.tok (8*d+j) t xs::afI d (j+1) l |j,a::l=>a::afI d (j+1) l
def U0(d:ax)(l:ah V):V:=
 match l with
 | [.agg cs]=>.agg (afI d 0 cs)
 |l=>
 match U1 d 0 l with
 | [a]=>a
 |l=>.xv l
def ah6:V->aW |.iU ..=>aB |_=>aA
def ah8(st:cy)(d:aq ax)(rs:ah V):aq cy:=match rs,d with
 | [.iU z x],ai d=>(match afK st d z x with|some st1=>ai (st1.put (ai d) (.loc d 0 0))|none=>au)
 |rs,d=>if rs.any ah6 then au else ai (st.put d (U0 (match d with|some d=>d|none=>0) rs))
def acD:V->aW |.bool _|.int _ _|.str _=>aB |_=>aA
def alL:V->aW |.agg cs=>cs.all acD |a=>acD a
def Tt:V->aW |.tok _ t _=>t.plain |a=>alL a
def Qo:V->aW |.view .. |.tok .. |.loc ..=>aB |_=>aA
def YR:V->aW |.fn _ caps=>caps.any Qo |.agg cs=>cs.any Qo |a=>Qo a
end
end Go.Ab
namespace Go.Ab
def aGb(t:ET)(cs:ah V)(c:ax):V:=match t with
 |.one _=>(match asN cs c with|.agg _=>.any|v=>v)
 |.agg us=>.agg ((cs.drop c).take us.len)
@[reducible] def ayJ:ah ET->Type | []=>mW |t::ts=>t.ty×ayJ ts
def vsE:(ts:ah ET)->ayJ ts->ah V | [],_=>[] |t::ts,x=>.ptr (t.vs x.1) 0::vsE ts x.2
def ofE:(ts:ah ET)->ah V->aq (ayJ ts)
 | [],[]=>ai ()
 |t::ts,.ptr cs c::l=>match(aGb t cs c).alj t,ofE ts l with|some x,ai y=>ai (x,y)|_,_=>au
 |_,_=>au
inductive MT where
 |d (t:ET)
 |p (t:ET)
 |tok (t:ET)
 |box (t:ET)
 |l7 (t:ET)
 |fn (f:ax) (ts:ah ET)
 |gone
@[reducible] def MT.ty:MT->Type |.d t=>t.ty |.p t=>t.ty |.tok t=>ah t.ty |.box t=>t.ty |.l7 t=>ah t.ty |.fn _ ts=>ayJ ts |.gone=>mW
def MT.v(j:ax):(m:MT)->m.ty->V |.d t,x=>t.v x |.p t,x=>.ptr (t.vs x) 0 |.tok t,x=>.tok j t x |.box t,x=>.iU t.z (t.v x) |.l7 t,x=>.l7 t x |.fn f ts,x=>.fn f (vsE ts x) |.gone,_=>.any
def aAd:CT->V->V |.own t,.lz z=>if z=t.z then .own t []else .lz z |_,v=>v
def aAf:vq->ah V->ah V |.cons c cs,v::l=>aAd c v::aAf cs l |_,l=>l
def aF5:ET->V->V |.one c,v=>aAd c v |.agg cs,.agg l=>.agg (aAf cs l) |_,v=>v
def MT.of:(m:MT)->V->aq m.ty |.d t,v=>v.alj t |.p t,.ptr cs c=>(aGb t cs c).alj t |.tok t,.tok _ u xs=>WQ u t xs |.box t,.iU z x=>if z=t.z then(aF5 t x).alj t else au |.l7 t,.l7 u xs=>WQ u t xs |.fn f ts,.fn g l=>if g=f then ofE ts l else au |.gone,.any=>ai () |_,_=>au
@[reducible] def Hv:ah MT->Type | []=>mW |m::ms=>m.ty×Hv ms
@[reducible] def Ts:ah MT->Type | []=>mW | [m]=>m.ty |m::n::ms=>m.ty×Ts (n::ms)
def ofU:(ms:ah MT)->ah V->aq (Hv ms)
 | [],[]=>ai ()
 |m::ms,v::l=>match m.of v,ofU ms l with|some x,ai y=>ai (x,y)|_,_=>au
 |_,_=>au
def vsU(j:ax):(ms:ah MT)->Hv ms->ah V | [],_=>[] |m::ms,x=>m.v j x.1::vsU (j+1) ms x.2
def of1:(ms:ah MT)->ah V->aq (Ts ms)
 | [],[]=>ai ()
 | [m],[v]=>m.of v
 |m::n::ms,v::l=>match m.of v,of1 (n::ms) l with|some x,ai y=>ai (x,y)|_,_=>au
 |_,_=>au
def vs1(j:ax):(ms:ah MT)->Ts ms->ah V | [],_=>[] | [m],x=>[m.v j x] |m::n::ms,x=>m.v j x.1::vs1 (j+1) (n::ms) x.2
def Gb:ah MT->aW | []=>aB |.tok _::_=>aA |_::ms=>Gb ms
structure Callee where
 io:ah aW
 ps:ah MT
 rs:ah MT
 os:ah MT
 f:Hv ps->aq (Ts (rs++os))
def adk:ah (ax×Callee)->ax->aq Callee | [],_=>au |(j,v)::l,i=>if i=j then ai v else adk l i
def Zv:ah (ax×ET)->ax->aq ET | [],_=>au |(j,v)::l,i=>if i=j then ai v else Zv l i
def ayO(D:ah (ax×Callee))(g:ax):ah aW:=match adk D g with|some c=>c.io|none=>[]
section
variable {R:Type}
def Ai(r:ah (ax×aq VR))(v:V)(k:V->aq R):aq R:=match v with
 |.fn f caps=>if caps.any Zi then au else BA r caps λcs=>k (.fn f cs)
 |v=>yS r v k
def YO(st:cy):ah dI->(ah V->aq R)->aq R | [],k=>k [] |x::l,k=>if x.ok then Ai st.r (x.vv st) λa=>YO st l λr=>k (a::r)else au
def Oe(n:aw)(k:ax->aq R):ax->ax->aq R |0,_=>au |m+1,j=>if ao (n=(j:aw))then k j else Oe n k m (j+1)
def vcf(D:ah (ax×Callee))(g:ax)(ab:ah V)(k:ah V->ah V->aq R):aq R:=
 match adk D g with
 |some c=>
  match ofU c.ps ab with
  |some x=>if Gb c.ps then af (c.f x) λy=>k ((vs1 0 (c.rs++c.os) y).take (ae c.rs)) ((vs1 0 (c.rs++c.os) y).drop (ae c.rs))else au
  |none=>au
 |none=>au
def fk{α:Type}(o:aq α)(k:α->aq R):aq R:=match o with
 |some x=>k x
 |none=>au
def vu8(n:aw):ay:=dW n.toNat
def jE(D:ah (ax×Callee))(H:ah (ax×ET))(d:aq ax)(st:cy)(o:O)(k:V->aq R):aq R:=match o with
 |.mv x=>if x.ok then k (x.vv st)else au
 |.asg x=>if x.ok then(match x.vv st with|.tok .. =>au|.lz _=>au|a=>k a)else au
 |.pick c a b=>if c.ok&&a.ok&&b.ok then(match c.vv st with|.bool t=>if t then k (a.vv st)else k (b.vv st)|_=>au)else au
 |.build zero parts=>if zero.all A.ok1 then fk (aoJ st (zero.map A.aFD) parts) λcs=>k (.agg cs)else au
 |.bsl z zero n parts=>(match d with|some d=>fk (Zv H d) λt=>if zero.okV&&ao (t.z=z)&&ao (n*z<=16777216)then fk (zero.toV.alj t) λz0=>fk (aoK st t (bK n z0) parts) λxs=>k (.tok (8*d) t xs)else au|none=>au)
 |.ld n a=>if a.ok then(match a.vv st with|.loc q i c=>(match eX st.r q with|some (.var _ x)=>(match i with|0=>fk (tP x.cells c n) k|_=>au)|some (.sl t xs)=>af (xs[i]?) λx=>fk (tP (t.vs x) c n) k|none=>au)|.ptr cs c=>fk (tP cs c n) k|_=>au)else au
 |.aed x=>if x.ok then(match x.vv st with|.loc q i c=>(match eX st.r q with|some _=>k (.loc q i c)|none=>au)|.ptr cs c=>k (.ptr cs c)|.fn f caps=>k (.fn f caps)|_=>au)else au
 |.bin op x y=>if x.ok&&y.ok then aam op (x.vv st) (y.vv st) k else au
 |.eqb neq x y=>if x.ok&&y.ok then(match x.vv st,y.vv st with|.bool a,.bool b=>k (.bool (if neq then !(a==b)else a==b))|_,_=>au)else au
 |.un op x=>if x.ok then fk (vun op (x.vv st)) k else au
 |.conv c x=>if x.ok then(match c,x.vv st with|.int i,.int _ n=>k (.int i (i.wrap n))|.RN,a=>fk (atr st.r (.one (.int .u8)) a) λxs=>k (.str (xs.map vu8))|_,_=>au)else au
 |.fa off x=>if x.ok then(match x.vv st with|.loc q i c=>(match eX st.r q with|some _=>k (.loc q i (c+off))|none=>au)|.ptr cs c=>k (.ptr cs (c+off))|_=>au)else au
 |.ia z x i=>if x.ok&&i.ok then(match i.vv st,x.vv st with|.int _ n,.view q off len=>(match eX st.r q with|some (.sl t xs)=>if ao (t.z=z)then(if ao (0<=n)&&ao (n<(len:aw))then k (.loc q (aFJ off n.toNat) 0)else au)else au|_=>au)|.int _ n,.sl t xs=>if ao (t.z=z)then(if ao (0<=n)then af (xs[n.toNat]?) λx=>k (.ptr (t.vs x) 0)else au)else au|_,_=>au)else au
 |.iaa len z x i=>if x.ok&&i.ok then(match i.vv st,x.vv st with|.int _ n,.loc q j c=>(match eX st.r q with|some _=>Oe n (λm=>k (.loc q j (c+m*z))) len 0|none=>au)|.int _ n,.ptr cs c=>Oe n (λm=>k (.ptr cs (c+m*z))) len 0|_,_=>au)else au
 |.ix x i=>if x.ok&&i.ok then(match i.vv st,x.vv st with|.int _ n,.str s=>if ao (0<=n)then af (s[n.toNat]?) λb=>k (.int .u8 b.toNat)else au|_,_=>au)else au
 |.ixa len z n x i=>if x.ok&&i.ok then(match i.vv st,x.vv st with|.int _ j,.agg cs=>Oe j (λm=>fk (tP cs (m*z) n) k) len 0|_,_=>au)else au
 |.atc x lo hi=>if x.ok&&lo.all dI.ok&&hi.all dI.ok then(match lo.map (dI.vv st),hi.map (dI.vv st),x.vv st with|none,ai (.int _ h),.str s=>if ao (0<=h)&&ao (h<=(ae s:aw))then k (.str (s.take h.toNat))else au|some (.int _ l),ai (.int _ h),.str s=>if ao (0<=l)&&ao (l<=h)&&ao (h<=(ae s:aw))then k (.str ((s.take h.toNat).drop l.toNat))else au|none,au,.str s=>k (.str s)|some (.int _ l),au,.str s=>if ao (0<=l)&&ao (l<=(ae s:aw))then k (.str (s.drop l.toNat))else au|_,_,_=>au)else au
 |.slc z x lo hi=>if x.ok&&lo.all dI.ok&&hi.all dI.ok then(match lo.map (dI.vv st),hi.map (dI.vv st),x.vv st with|none,ai (.int _ h),.sl t xs=>if ao (t.z=z)then(if ao (0<=h)&&ao (h<=(ae xs:aw))then k (.sl t (xs.take h.toNat))else au)else au|some (.int _ l),ai (.int _ h),.sl t xs=>if ao (t.z=z)then(if ao (0<=l)&&ao (l<=h)&&ao (h<=(ae xs:aw))then k (.sl t ((xs.take h.toNat).drop l.toNat))else au)else au|none,au,.sl t xs=>if ao (t.z=z)then k (.sl t xs)else au|some (.int _ l),au,.sl t xs=>if ao (t.z=z)then(if ao (0<=l)&&ao (l<=(ae xs:aw))then k (.sl t (xs.drop l.toNat))else au)else au|none,ai (.int _ h),.view q off n=>(match eX st.r q with|some (.sl t xs)=>if ao (t.z=z)then(if ao (0<=h)&&ao (h<=(n:aw))then k (.view q off h.toNat)else au)else au|_=>au)|some (.int _ l),ai (.int _ h),.view q off n=>(match eX st.r q with|some (.sl t xs)=>if ao (t.z=z)then(if ao (0<=l)&&ao (l<=h)&&ao (h<=(n:aw))then k (.view q (aFJ off l.toNat) (h.toNat-l.toNat))else au)else au|_=>au)|none,au,.view q off n=>(match eX st.r q with|some (.sl t xs)=>if ao (t.z=z)then k (.view q off n)else au|_=>au)|some (.int _ l),au,.view q off n=>(match eX st.r q with|some (.sl t xs)=>if ao (t.z=z)then(if ao (0<=l)&&ao (l<=(n:aw))then k (.view q (aFJ off l.toNat) (n-l.toNat))else au)else au|_=>au)|_,_,_=>au)else au
 |.len x=>if x.ok then fk (aLG st.r (x.vv st)) λn=>k (.int .i64 (n:aw))else au
 |.lens x=>if x.ok then(match x.vv st with|.str s=>k (.int .i64 (ae s))|_=>au)else au
 |.max xs=>if xs.all dI.ok then(match xs.map (dI.vv st)with| []=>au|a::l=>fk (arD aF2 a l) k)else au
 |.min xs=>if xs.all dI.ok then(match xs.map (dI.vv st)with| []=>au|a::l=>fk (arD aF3 a l) k)else au
 |.mks z bytes zero l c=>if l.ok&&c.ok&&zero.okV then(match d,l.vv st,c.vv st with|some d,.int kl n,.int kc m=>fk (Zv H d) λt=>if ao (kl=.i64)&&ao (kc=.i64)&&ao (t.z=z)&&ao (bytes<=256)then fk (zero.toV.alj t) λz0=>if ao (0<=n)&&ao (n<=m)&&ao (m.toNat<lim)then k (.tok (8*d) t (bK n.toNat z0))else au else au|_,_,_=>au)else au
 |.mkf f caps=>if caps.all dI.ok&&(caps.map (dI.vv st)).all λx=>acE st.r x&& !Zi x then k (.fn f (caps.map (dI.vv st)))else au
 |.call f args=>if f.ok then(match f.vv st with|.fn g caps=>if(ayO D g).any id then au else YO st args λab=>if caps.any Zi then au else BA st.r caps λcs=>vcf D g (ab++cs) λrs _=>if(rs.all Tt|| !((args.map (dI.vv st)).any YR||caps.any Qo))&& !rs.any ah6 then k (U0 (match d with|some d=>d|none=>0) rs)else au|_=>au)else au
 |.ext x i=>if x.ok then(match x.vv st with|.xv xs=>fk (xs[i]?) k|_=>au)else au
 |_=>au
def yR:V->ah ax |.view q _ _|.loc q _ _=>[q] |_=>[]
def VR.names:VR->ah ax |.var _ x=>x.cells.flatMap yR |.sl _ _=>[]
def afG(r:ah (ax×aq VR)):V->ah ax
 |.view q _ _=>[q]
 |.loc q _ _=>q::(match eX r q with|some R=>R.names|none=>[])
 |_=>[]
def JV(r:ah (ax×aq VR)):V->ah ax |.fn _ cs|.agg cs|.xv cs=>cs.flatMap (afG r) |a=>afG r a
end
end Go.Ab
namespace Go.Ab
def um(r:ah (ax×aq VR))(ns:ah ax):ah (ax×aq VR):=r.map λp=>if ns.contains p.1 then(p.1,au)else p
def aoO(r:ah (ax×aq VR))(ns:ah ax):ah (ax×aq VR):=r.map λp=>if ns.contains p.1 then p else(p.1,au)
def awu:ax->ah V->ah (ax×V) |_,[]=>[] |i,v::l=>(i,v)::awu (i+1) l
def ah3:ah (ax×V)->ah (ax×V) | []=>[] |p::l=>if p.1<gs then p::ah3 l else ah3 l
def cy.lay(st:cy)(vs:ah V):cy:={st with t:=awu gs vs++ah3 st.t}
def cy.Um(st:cy)(m:aq MT)(j:ax):aq cy:=match iQ st.t (gs+j)with
 |.tok k t xs=>ai ((((st.eW k).kill (CN j)).bj (CN j) (ai (.sl t xs))).iW (gs+j) (.view (CN j) 0 (ae xs)))
 |.lz z=>(match m with|some (.l7 t)=>if t.z=z then ai (((st.kill (CN j)).bj (CN j) (ai (.sl t []))).iW (gs+j) (.view (CN j) 0 0))else au|_=>au)
 |_=>ai st
def cy.jt(st:cy):ah aW->ah MT->(j n:ax)->aq cy
 |_,_,_,0=>ai st
 |true::bs,ms,j,n+1=>match st.Um ms.head? j with|some st1=>cy.jt st1 bs ms.tail (j+1) n|none=>au
 |bs,ms,j,n+1=>match st.IS (gs+j) (iQ st.t (gs+j)).cells.length with|some st1=>cy.jt st1 bs.tail ms.tail (j+1) n|none=>au
def aO1(D:ah (ax×Callee))(g:ax):ah MT:=match adk D g with|some c=>c.ps|none=>[]
section
variable {R:Type}
def YQ(st:cy)(v:V)(k:ax->V->aq R):aq R:=match v with
 |.loc q 0 0=>(match eX st.r q with|some (.var z x)=>fk (HA st.r x.cells) λcs=>k q (.iU z (nw x cs))|_=>au)
 |.view q 0 n=>(match eX st.r q with|some (.sl t xs)=>if ao (n=ae xs)then k q (.l7 t xs)else au|_=>au)
 |_=>au
def C6(st:cy):ah aW->ah V->(ah (aq V)->ah ax->ah ax->aq R)->aq R |_,[],k=>k [] [] [] |true::bs,a::l,k=>YQ st a λq x=>C6 st bs l λxs qs ns=>k (ai x::xs) (q::qs) (JV st.r a++ns) |bs,a::l,k=>C6 st bs.tail l λxs qs ns=>k (au::xs) qs ns
def Hw(r:ah (ax×aq VR)):ah (aq V)->ah V->(ah V->aq R)->aq R |some x::xs,_::l,k=>Hw r xs l λr=>k (x::r) |none::xs,a::l,k=>if YR a then au else Ai r a λx=>Hw r xs l λr=>k (x::r) | [],[],k=>k [] |_,_,_=>au
def vn(st:cy):ah ax->ah V->aq cy
 | [],[]=>ai st
 |q::qs,.iU z x::l=>(match eX st.r q with|some (.var _ x0)=>vn {st with r:=(q,ai (.var z (nw x (x.cells.map λ_=>V.any))))::um st.r (x0.cells.flatMap yR)} qs l|_=>au)
 |q::qs,.l7 t xs::l=>vn (st.bj q (ai (.sl t xs))) qs l
 |q::qs,.any::l=>vn (st.bj q au) qs l
 |_,_=>au
def lZ(st:cy):ah ax->ah V->aq cy
 | [],[]=>ai st
 |q::qs,.iU z x::l=>if ae x.cells<=1000 then(match aic q 0 st x.cells with|some (cs,st1)=>lZ (st1.bj q (ai (.var z (nw x cs)))) qs l|none=>au) else au
 |_::qs,.l7 .. ::l=>lZ st qs l
 |_::qs,.any::l=>lZ st qs l
 |_,_=>au
def ah4(st:cy)(t:ET):ah t.ty->ah (ax×dI)->aq (ah t.ty×cy)
 |xs,[]=>ai (xs,st)
 |xs,(i,x)::l=>
  if x.ok then
   match st.pin (x.vv st)with
   |some (v,st1)=>(match v.alj t with|some y=>if i<ae xs then ah4 st1 t (xs.set i y) l else au|none=>au)
   |none=>au
  else au
def Rt(D:ah (ax×Callee))(H:ah (ax×ET))(d:aq ax)(st:cy)(o:O)(k:cy->aq R):aq R:=
 match o with
 |.asg x=>if x.ok then
  (match d,x.vv st with
   |some d,.tok n t xs=>if d<1000 then k ((((st.eW n).kill d).bj d (ai (.sl t xs))).put (ai d) (.view d 0 (ae xs)))else au
   |some d,.lz z=>fk (Zv H d) λt=>if ao (t.z=z)&&ao (d<1000)then k (((st.kill d).bj d (ai (.sl t []))).put (ai d) (.view d 0 (ae ([]:ah t.ty))))else au
   |d,a=>k (st.put d a))else au
 |.alloc z zero=>
  (match d with
   |some d=>if zero.okV&&ao (ae zero.toV.cells=z)&&ao (d<1000)&&zero.toV.cells.all C7 then k (((st.kill d).bj d (ai (.var z zero.toV))).put (ai d) (.loc d 0 0))else au
   |none=>au)
 |.box z x=>if x.ok then
  (match d with
   |some d=>
    if ao (d<1000)&&ao (z<=1000)&&ao ((x.vv st).cells.length=z)&&(x.vv st).cells.all (acE st.r)then
     match(((st.iW gs (x.vv st)).kill d).bj d au).jU d 0 0 z with
     |some (cs,st1)=>k ((((st1.iW gs .any).kill d).bj d (ai (.var z (nw (x.vv st) cs)))).put (ai d) (.loc d 0 0))
     |none=>au
    else au
   |none=>au)else au
 |.sto n a x=>if a.ok&&x.ok then
  if(x.vv st).cells.length=n then
   match a.vv st with
   |.loc q i c=>
    (match eX st.r q with
     |some (.var z e)=>
      (match i with
       |0=>
        if ao (q<1000)&&ao (c+n<=ae e.cells)&&ao (c+n<=1000)&&(x.vv st).cells.all (acE st.r)then
         match((st.iW gs (x.vv st)).bj q (ai (.var z (atp e c n)))).jU q c 0 n with
         |some (vs,st1)=>k (((st1.iW gs .any).bj q (ai (.var z (nw e (e.cells.take c++vs++e.cells.drop (c+n)))))).put d .any)
         |none=>au
        else au
       |_=>au)
     |some (.sl _ _)=>
      (match st.pin (x.vv st)with
       |some (v,st1)=>
        if ae v.cells=n then
         (match eX st1.r q with
          |some (.sl t xs)=>af (xs[i]?) λe=>fk (Zl (t.vs e) c v.cells) λcs=>fk ((nw (t.v e) cs).alj t) λy=>k ((st1.bj q (ai (.sl t (xs.set i y)))).put d .any)
          |_=>au)
        else au
       |none=>au)
     |none=>au)
   |_=>au
  else au else au
 |.app z bytes s x=>if s.ok&&x.ok then
  (match d with
   |none=>au
   |some d=>
    fk (Zv H d) λt=>
    fk (atr st.r t (x.vv st)) λys=>
     if ao (t.z=z)&&ao (bytes<=128)then
     match s.vv st with
     |.tok n u xs=>fk (WQ u t xs) λxs=>if ao (ae xs+ae ys<lim)then k ((st.eW n).put (ai d) (.tok (8*d) t (xs++ys)))else au
     |.lz z1=>if z1=z then(if ao (ae ys<lim)then k (st.put (ai d) (.tok (8*d) t ys))else au)else au
     |.view q off n=>
      (match eX st.r q with
       |some (.sl u xs)=>fk (WQ u t xs) λxs=>if ao (n+ae ys<lim)then k (((st.kill q).bj q au).put (ai d) (.tok (8*d) t ((nu off xs).take n++ys)))else au
       |_=>au)
     |_=>au
     else au)else au
 |.call f args=>if f.ok&&args.all dI.ok then
  (match f.vv st with
   |.fn g caps=>
    fk ((st.lay (args.map (dI.vv st)++caps)).jt (ayO D g) (aO1 D g) 0 (ae args+ae caps)) λst1=>
     let vs:=(Ay (ae args+ae caps)).map λj=>iQ st1.t (gs+j)
     C6 st1 (ayO D g) vs λls qs ns=>
      if decide ns.Nodup then
       Hw (um st1.r ns) ls vs λab=>vcf D g ab λres outs=>
        fk (vn (st1.lay []) qs outs) λst2=>fk (lZ st2 qs outs) λst3=>fk (ah8 st3 d res) k
      else au
   |_=>au)else au
 |.bsl z zero n parts=>
  (match d with
   |some d=>
    fk (Zv H d) λt=>if zero.okV&&ao (t.z=z)&&ao (n*z<=16777216)then
     fk (zero.toV.alj t) λz0=>fk (ah4 st t (bK n z0) parts) λ(xs,st1)=>k (st1.put (ai d) (.tok (8*d) t xs))else au
   |none=>au)
 |_=>au
def aa6(D:ah (ax×Callee))(H:ah (ax×ET))(st:cy)(o:Op)(k:cy->aq R):aq R:=if o.w then(if o.av.all (ajC st.a o.o o.d)then Rt D H o.d st o.o k else au)else jE D H o.d st o.o λv=>k (st.put o.d v)
def ahq:ah Op->ax->aq ax | [],_=>au |o::_,0=>o.d |_::l,j+1=>ahq l j
def ny(D:ah (ax×Callee))(H:ah (ax×ET))(all:ah Op):ah Op->cy->(cy->aq R)->aq R
 | [],st,k=>k st
 |o::l,st,k=>
  match o.g with
  |none=>aa6 D H st o λst'=>ny D H all l st' k
  |some (j,vp)=>
   match ahq all j with
   |some d=>
    (match iQ st.t d with
     |.bool b=>
      if b then
       (if vp then aa6 D H (st.iW d (.bool aB)) o λst'=>ny D H all l st' k else ny D H all l ((st.iW d (.bool aB)).put o.d .undef) k)
      else
       (if vp then ny D H all l ((st.iW d (.bool aA)).put o.d .undef) k else aa6 D H (st.iW d (.bool aA)) o λst'=>ny D H all l st' k)
     |.undef=>ny D H all l (st.put o.d .undef) k
     |_=>au)
   |none=>au
def aO0:V->V |.tok _ t xs=>.sl t xs |a=>a
def vfz:V->V:=Hz aO0
def cy.restrict(st:cy)(fI j5:ah ax):cy:={t:=fI.map λi=>(i,vfz (iQ st.t i)),r:=j5.map λi=>(i,eX st.r i)}
def atv(q:ax)(cs:ah V):V->V |.loc p i c=>if p=q then(if i=0 then .ptr cs c else .any)else .loc p i c |a=>a
def cy.PX(H:ah (ax×ET))(st:cy)(n:ax)(k:cy->aq R):aq R:=
 if 6000000<=n then
  (match eX st.r (n-6000000)with
   |some (.var _ x)=>if x.cells.all C7 then k ((st.map (Hz (atv (n-6000000) x.cells))).bj (n-6000000) au)else au
   |_=>au)else
 if 5000000<=n then fk (st.KY (n-5000000) 0) k else
 match eX st.r (n/1000-1)with
 |some (.var z (.agg cs))=>
  (match cs[n%1000]? with
   |some (.lz z1)=>if ao (1000<=n)&&(eX st.r n).isNone then fk (Zv H n) λt=>if t.z=z1 then k (((st.kill n).bj n (ai (.sl t []))).bj (n/1000-1) (ai (.var z (.agg (cs.set (n%1000) (.view n 0 (ae ([]:ah t.ty))))))))else au else au
   |some (.view ..)=>k st
   |_=>au)
 |_=>au
inductive Fr where
 |c (c:C)
 |e (id:ax)
 |l (b:C)
def unwind(id:ax):ah Fr->aq (ah Fr) | []=>au |.e j::s=>if j=id then ai s else unwind id s |_::s=>unwind id s
def tf(D:ah (ax×Callee))(H:ah (ax×ET))(leave:cy->aq R)(G N:ah Fr->cy->aq R):ah Fr->cy->aq R
 | [],st=>leave st
 |.e _::s,st=>G s st
 |.l b::s,st=>G (.c b::.l b::s) st
 |.c c::s,st=>
  match c with
  |.skip=>G s st
  |.reg dr ops fI j5=>ny D H ops (arr dr ops) st λst'=>G s (st'.restrict fI j5)
  |.seq a b=>G (.c a::.c b::s) st
  |.cond c a b=>if c.ok then(match c.vv st with|.bool t=>if t then G (.c a::s) st else G (.c b::s) st|_=>au)else au
  |.block id b=>G (.c b::.e id::s) st
  |.loop b=>G (.c b::.l b::s) st
  |.exit id=>fk (unwind id s) λs'=>G s' st
  |.ret=>leave st
  |.norm fI j5 b=>N (.c b::s) (st.restrict fI j5)
  |.opn i b=>st.PX H i λst'=>G (.c b::s) st'
  |.stop=>au
def gN(D:ah (ax×Callee))(H:ah (ax×ET))(leave:cy->aq R):ax->ah Fr->cy->aq R |0,_,_=>au |n+1,s,st=>tf D H leave (gN D H leave n) (gN D H leave n) s st
open Classical in
noncomputable def goL(D:ah (ax×Callee))(H:ah (ax×ET))(leave:cy->aq R)(s:ah Fr)(st:cy):aq R:=
 if h:∃n r,gN D H leave n s st=ai r then ai h.choose_spec.choose else au
def dn(D:ah (ax×Callee))(H:ah (ax×ET))(leave:cy->aq R)(N:ah Fr->cy->aq R):ax->ah Fr->cy->aq R |0,s,st=>N s st |n+1,s,st=>tf D H leave (dn D H leave N n) N s st
def aFX:V->aW |.fn ..=>aB |_=>aA
def att:V->aW |.iU .. |.l7 ..=>aB |_=>aA
def Zk:ah aW->ah V->aW |_,[]=>aB |b::bs,a::l=>(!att a||b)&&Zk bs l | [],a::l=>!att a&&Zk [] l
def rJ(i:ax):ah V->cy->aq cy
 | [],st=>ai st
 |.iU z x::l,st=>match afK st i z x with|some st1=>rJ (i+1) l (st1.put (ai i) (.loc i 0 0))|none=>au
 |.l7 t xs::l,st=>if i<1000 then rJ (i+1) l (((st.kill i).bj i (ai (.sl t xs))).put (ai i) (.view i 0 (ae xs)))else au
 |a::l,st=>if arI a||aFX a then rJ (i+1) l (st.put (ai i) a)else au
def acB(fn:Fn)(args:ah V):aq cy:=if ao (ae args=fn.np)&&Zk fn.io args then rJ 0 args ⟨[],[]⟩else au
def vrs(st:cy):Rs->(V->aq R)->aq R
 |.t i,k=>k (iQ st.t i)
 |.cell i n,k=>
  match iQ st.t i with
  |.loc q j c=>
   (match eX st.r q with
    |some (.var _ x)=>(match j with|0=>fk (tP x.cells c n) k|_=>au)
    |some (.sl t xs)=>af (xs[j]?) λx=>fk (tP (t.vs x) c n) k
    |none=>au)
  |_=>au
def aoQ(st:cy):ah Rs->(ah V->aq R)->aq R | [],k=>k [] |r::l,k=>vrs st r λa=>aoQ st l λxs=>k (a::xs)
def LJ(ks:ah ax):V->V |.tok k t xs=>if ks.contains k then .any else .tok k t xs |a=>a
def atu:V->ah ax |.tok k _ _=>[k] |_=>[]
def U5:V->ah ax |.agg cs|.xv cs=>cs.flatMap atu |a=>atu a
def afF(st:cy)(j:ax)(own:aW)(m:MT)(k:V->cy->aq R):aq R:=
 if own then
  match iQ st.t (gs+j)with
  |.tok n t xs=>k (.tok j t xs) (st.eW n)
  |.lz z=>(match m with|.tok t=>if t.z=z then k (.tok j t []) st else au|_=>au)
  |.view q off n=>
   (match eX st.r q with
    |some (.sl t xs)=>k (.tok j t ((nu off xs).take n)) {st with r:=um st.r [q]}
    |_=>au)
  |.loc q 0 0=>
   (match eX st.r q with
    |some (.var z x)=>fk (HA st.r x.cells) λcs=>k (.iU z (nw x cs)) {st with r:=um st.r (q::x.cells.flatMap yR)}
    |_=>au)
  |.agg cs=>if ao (cs.flatMap yR).Nodup then fk (HA st.r cs) λys=>k (.agg ys) {st with r:=um st.r (cs.flatMap yR)}else au
  |_=>au
 else
  Ai (aoO st.r (JV st.r (iQ st.t (gs+j)))) (iQ st.t (gs+j)) λx=>
   k x {t:=st.t.map λp=>(p.1,Hz (LJ (U5 (iQ st.t (gs+j)))) p.2),r:=um st.r (JV st.r (iQ st.t (gs+j)))}
def Ij(st:cy):(j:ax)->ah aW->ah MT->(ah V->cy->aq R)->aq R |j,b::bs,m::ms,k=>afF st j b m λx st1=>Ij st1 (j+1) bs ms λxs st2=>k (x::xs) st2 |_,[],[],k=>k [] st |_,_,_,_=>au
def Gp(st:cy)(i:ax):ah MT->ah ax->(ah V->aq R)->aq R
 | [],_,k=>k []
 |.box t::l,ns,k=>(match eX st.r i with|some (.var z x)=>if ao (z=t.z)&&ao (i<1000)then fk (HA st.r x.cells) λcs=>Gp st (i+1) l ns λr=>k (.iU z (nw x cs)::r)else au|_=>au)
 |.l7 t::l,n::ns,k=>(match eX st.r i with|some (.sl u ys)=>if ao (u.z=t.z)&&ao (i<1000)then(if ao (ae ys=n)then Gp st (i+1) l ns λr=>k (.l7 u ys::r)else au)else au|none=>Gp st (i+1) l ns λr=>k (.any::r)|_=>au)
 |.l7 t::l,[],k=>au
 |.d _::l,ns,k=>Gp st (i+1) l ns k
 |.p _::l,ns,k=>Gp st (i+1) l ns k
 |.tok _::l,ns,k=>au
 |.fn _ _::l,ns,k=>Gp st (i+1) l ns k
 |.gone::l,ns,k=>au
def lens:(ms:ah MT)->Hv ms->ah ax | [],_=>[] |.l7 _::ms,x=>ae x.1::lens ms x.2 |.d _::ms,x=>lens ms x.2 |.p _::ms,x=>lens ms x.2 |.tok _::ms,x=>lens ms x.2 |.box _::ms,x=>lens ms x.2 |.fn _ _::ms,x=>lens ms x.2 |.gone::ms,x=>lens ms x.2
def Og(fn:Fn)(ps rs os:ah MT)(ns:ah ax)(st:cy):aq (Ts (rs++os)):=if ao (ae fn.own=ae fn.res)then aoQ st fn.res λab=>Ij (st.lay ab) 0 fn.own rs λvs st1=>Gp {st1 with r:=um st1.r fn.gone} 0 ps ns λws=>of1 (rs++os) (vs++ws)else au
noncomputable def ik(D:ah (ax×Callee))(H:ah (ax×ET))(fn:Fn)(ps rs os:ah MT):Callee:={io:=fn.io,ps:=ps,rs:=rs,os:=os,f:=λx=>fk (acB fn (vsU 0 ps x)) λst=>goL D H (Og fn ps rs os (lens ps x)) [.c fn.body] st}
end
end Go.Ab
namespace Go.Ab
def cz{α R:Type}(F:(α->aq R)->aq R)(P:α->Prop):Prop:=∀k r,F k=ai r->∃x,P x/\k x=ai r/\∀k',F k'=k' x
section
variable {α β R:Type}
def cz.mk{P:α->Prop}{x:α}(h:P x):cz (λk:α->aq R=>k x) P:=λk r hk=>⟨x,h,hk,λ_=>rfl⟩
def cz.no{P:α->Prop}:cz (λ_:α->aq R=>au) P:=λk r hk=>by cases hk
def cz.ite{P:α->Prop}{c:Prop}[Decidable c]{F G:(α->aq R)->aq R}(hF:c->cz F P)(hG:¬c->cz G P):cz (λk=>if c then F k else G k) P:=by
 by_cases h:c;·simp only[h,aK];exact hF h
 .simp only[h,aJ];exact hG h
def cz.uj{P:α->Prop}{c:Prop}[Decidable c]{F:(α->aq R)->aq R}(hF:c->cz F P):cz (λk=>if c then F k else au) P:=cz.ite hF λ_=>cz.no
def cz.bind{P:α->Prop}{o:aq β}{F:β->(α->aq R)->aq R}(hF:∀x,o=ai x->cz (F x) P):cz (λk=>af o λx=>F x k) P:=by cases o with|none=>exact cz.no|some x=>exact hF x rfl
def cz.fk{P:α->Prop}{o:aq β}{F:β->(α->aq R)->aq R}(hF:∀x,o=ai x->cz (F x) P):cz (λk=>Ab.fk o λx=>F x k) P:=by cases o with|none=>exact cz.no|some x=>exact hF x rfl
def cz.V0{P:α->Prop}{o:aq α}(hF:∀x,o=ai x->P x):cz (λk:α->aq R=>Ab.fk o k) P:=cz.fk (F:=λx k=>k x) λx h=>cz.mk (hF x h)
def cz.seq{P:α->Prop}{Q:β->Prop}{F:(α->aq R)->aq R}{G:α->(β->aq R)->aq R}(hF:cz F P)(hG:∀x,P x->cz (G x) Q):cz (λk=>F λx=>G x k) Q:=by intro k r h;obtain⟨x,hx,h1,h2⟩:=hF _ r h;obtain⟨y,hy,h3,h4⟩:=hG x hx _ r h1;exact⟨y,hy,h3,λk'=>(h2 _).trans (h4 k')⟩
def cz.od{P Q:α->Prop}{F:(α->aq R)->aq R}(hF:cz F P)(h:∀x,P x->Q x):cz F Q:=λk r hk=>by obtain⟨x,hx,h1,h2⟩:=hF k r hk;exact⟨x,h x hx,h1,h2⟩
end
def St.ext'{a b:St}(h1:∀i,a.t i=b.t i)(h2:∀i,a.r i=b.r i):a=b:=by cases a;cases b;simp only[St.mk.injEq];exact⟨funext h1,funext h2⟩
def ah5(l:ah (ax×V))(d:ax)(v:V)(i:ax):iQ ((d,v)::l) i=if i=d then v else iQ l i:=rfl
def ari(l:ah (ax×aq VR))(d:ax)(v:aq VR)(i:ax):eX ((d,v)::l) i=if i=d then v else eX l i:=rfl
def cy.a_t(st:cy)(i:ax):st.a.t i=(iQ st.t i).a:=rfl
def cy.Rw(st:cy)(i:ax):st.a.r i=(eX st.r i).map VR.a:=rfl
def cy.EE(st:cy)(d:aq ax)(v:V):(st.put d v).a=st.a.put d v.a:=by cases d with|none=>rfl|some d=>refine St.ext' (λi=> ?_) λi=>rfl;simp only[cy.put,cy.a_t,ah5,St.put];split<;>rfl
def cy.Ur(st:cy)(d:ax)(v:V):(st.iW d v).a=st.a.iW d v.a:=by refine St.ext' (λi=> ?_) λi=>rfl;simp only[cy.iW,cy.a_t,ah5,St.iW];split<;>rfl
def cy.gG(st:cy)(q:ax)(R:aq VR):(st.bj q R).a=st.a.bj q (R.map VR.a):=by refine St.ext' (λi=>rfl) λi=> ?_;simp only[cy.bj,cy.Rw,ari,St.bj];split<;>rfl
def aFV(f:V->V)(l:ah (ax×V))(i:ax):iQ (l.map λp=>(p.1,f p.2)) i=f (iQ l i)\/(iQ (l.map λp=>(p.1,f p.2)) i=.any/\iQ l i=.any):=by induction l with|nil=>exact .inr ⟨rfl,rfl⟩|cons p l ih=>simp only[aY,iQ];split;(·exact .inl rfl);·exact ih
def cy.aqW(st:cy){f:V->V}{g:A->A}(h:∀v,(f v).a=g v.a)(h0:g .any=.any):(st.map f).a=st.a.map g:=by
 refine St.ext' (λi=> ?_) λi=>rfl;simp only[cy.map,cy.a_t,St.map];rcases aFV f st.t i with e|⟨e1,e2⟩
 .rw[e,h]
 .rw[e1,e2];exact h0.symm
def Of{f:V->V}{g:A->A}(h:∀v,(f v).a=g v.a)(v:V):(Hz f v).a=gn g v.a:=by
 have hl:∀l:ah V,V.ab (l.map f)=(V.ab l).map g:=λl=>by induction l with|nil=>rfl|cons x l ih=>simp only[aY,V.ab,h,ih]
 cases v<;>first
  |(simp only[Hz,V.a,gn,hl];done)
  |exact h _
def aF8(r:ax)(v:V):nM r v.a=aF7 r v:=by cases v<;>rfl
def aCe(r:ax)(v:V):axQ r v.a=aAc r v:=by cases v<;>rfl
def aFZ(r:ax)(v:V):(ayQ r v).a=MS r v.a:=by simp only[ayQ,MS,aF8];split<;>rfl
def awt(r:ax)(v:V):(ah7 r v).a=Er r v.a:=by simp only[ah7,Er,aCe];split<;>rfl
def cy.Es(st:cy)(r:ax):(st.kill r).a=st.a.kill r:=st.aqW (Of (aFZ r)) rfl
def cy.SJ(st:cy)(r:ax):(st.eW r).a=st.a.eW r:=st.aqW (Of (awt r)) rfl
def A.ayE{a:A}(h:a.ok1=aB):a.aFD.a=a:=by unfold A.ok1 at h;split at h<;>first|rfl|cases h
def A.awi{a:A}(h:a.okV=aB):a.toV.a=a:=by
 unfold A.okV at h;split at h
 .rename_i cs;simp only[A.toV,V.a,A.agg.injEq,V.gE,Ax];conv=>rhs;rw[<-List.map_id cs]
  refine kx λx hx=>A.ayE (bz.1 h x hx)
 .rename_i hn;unfold A.toV;split;·rename_i cs;exact bG rfl (hn cs)
  .exact A.ayE h
def dI.gi{x:dI}(st:cy)(h:x.ok=aB):(x.vv st).a=x.v st.a:=by cases x with|t i=>rfl|c a=>exact A.awi h
def dI.awx{xs:ah dI}(st:cy)(h:xs.all dI.ok=aB):xs.map (dI.v st.a)=(xs.map (dI.vv st)).map V.a:=by rw[Ax];refine kx λx hx=>(dI.gi st (bz.1 h x hx)).symm
def Bz(v:V):ek v.a=C7 v:=by cases v<;>first|rfl|(simp only[V.a,ek,C7,V.gE,List.isEmpty_map])|(simp only[V.a,ek,C7];rename_i l;cases l<;>rfl)
def afH(v:V):(acC v).a=vM v.a:=by cases v<;>rfl
def aF4(v:V):(ayT v).a=aq1 v.a:=by
 cases v<;>first
  |rfl
  |(simp only[ayT,V.a,aq1,V.gE,Ax,A.agg.injEq];exact kx λx _=>afH x)
def aAh(v:V):pure v.a=arI v:=by
 cases v<;>first
  |rfl
  |(simp only[V.a,Ab.pure,arI,V.gE,JX];congr 1;funext x;exact Bz x)
  |(simp only[V.a,Ab.pure,arI];exact Bz (.fn _ _))
def aFT{v w:V}(h:aIx v=ai w):dat v.a=ai w.a:=by
 unfold aIx at h;split at h;·rename_i hp;simp only[aC]at h;subst h;simp only[dat,aAh,hp,aK,aF4]
 .cases h
def Jd{α:Type}(n:ax)(l:ah α):nu n l=l.drop n:=by cases n<;>rfl
def atn(n m:ax):aFJ n m=n+m:=by cases n<;>simp[aFJ]
def ahh(t:ET)(xs:ah t.ty)(o n:ax):((nu o xs).take n).map t.enc=((xs.map t.enc).drop o).take n:=by rw[Jd,pO,nz]
def ane:∀(l:ah V) (j:ax),(asN l j).a=((l.map V.a)[j]?).getD .any
 | [],_=>rfl
 |v::l,0=>rfl
 |v::l,j+1=>by simpa[asN]using ane l j
def atq(v:V)(j:ax):(ai1 v j).a=comp v.a j:=by simp only[ai1,comp,V.jG,ane]
def aCl(k:ax)(v:V):(atw k v).a=UZ k v.a:=by cases v<;>first|rfl|(simp only[atw,V.a,UZ];split<;>rfl)
def ayW(q:ax)(t:ET)(xs:ah t.ty)(v:V):(aoT q t xs v).a=Ii q (VR.sl t xs).a v.a:=by
 cases v<;>first
  |rfl
  |(simp only[aoT,V.a,Ii,VR.a];split<;>first|rfl|(simp only[V.a,ahh]))
def cy.aya{st st1:cy}{i j:ax}(h:st.KY i j=ai st1):st.a.KY i j=ai st1.a:=by
 unfold cy.KY at h;unfold St.KY;rw[cy.a_t,<-atq];split at h;·rename_i k t xs e;simp only[aC]at h;subst h;rw[e];simp only[V.a];rw[st.aqW (f:=aGe k) (g:=arz k) (Of (aCl k)) rfl]
 .rename_i q o n e;rw[e];simp only[V.a,cy.Rw];split at h;·rename_i t xs e2;simp only[aC]at h;subst h;rw[e2];simp only[aS,ag,VR.a,ar,aJ,aC];rw[cy.gG,st.aqW (f:=aAk q t xs) (g:=YK q (VR.sl t xs).a) (Of (ayW q t xs)) rfl];rfl
  .cases h
 .rename_i h1 h2;simp only[aC]at h;subst h;revert h1 h2;cases ai1 (iQ st.t i) j<;>intro h1 h2<;>first|rfl|exact bG rfl (h1 _ _ _)|exact bG rfl (h2 _ _ _)
def cy.asV{st:cy}{i:ax}:∀{n:ax} {st1:cy},st.IS i n=ai st1->st.a.IS i n=ai st1.a
 |0,st1,h=>by simp only[cy.IS,aC]at h;subst h;rfl
 |n+1,st1,h=>by
  simp only[cy.IS]at h;split at h;·rename_i st2 e;simp only[St.IS,cy.asV e,ag];exact cy.aya h
  .cases h
def cy.aJy{st st1:cy}{x v:V}(h:st.pin x=ai (v,st1)):st.a.pin x.a=ai (v.a,st1.a):=by
 unfold cy.pin at h;split at h
 .rename_i st2 e;split at h;·rename_i w e2;simp only[aC,bS]at h;obtain⟨rfl,rfl⟩:=h;have h1:=cy.asV e;rw[cy.Ur]at h1;simp only[St.pin,V.jG,bf,h1,ag];rw[cy.a_t,aFT e2];simp only[aS,cy.Ur];rfl
  .cases h
 .cases h
def awm{st:cy}{v w:V}(h:acA st.r v=ai w):wU st.a.r v.a=ai w.a:=by
 unfold acA at h;split at h
 .rename_i q o n;split at h;·rename_i t xs e;simp only[aC]at h;subst h;simp only[V.a,wU,cy.Rw,e,aS,VR.a,ahh]
  .cases h
 .simp only[aC]at h;subst h;rfl
 .rename_i h1 h2;split at h;·rename_i hp;simp only[aC]at h;subst h;(have:∀a:A,(∀q o n,a≠ .view q o n)->(∀k z xs,a≠ .tok k z xs)->wU st.a.r a=if ek a then ai (vM a)else au:=λa ha hb=>by unfold wU;split;(·exact bG rfl (ha _ _ _));(·exact bG rfl (hb _ _ _));·rfl);rw[this,Bz,aQ hp,afH];(·intro q o n e;cases v<;>simp[V.a]at e;exact h1 _ _ _ rfl);·intro k z xs e;cases v<;>simp[V.a]at e;exact h2 _ _ _ rfl
  .cases h
def aoI{st:cy}:∀{l m:ah V},Rr st.r l=ai m->AW st.a.r (l.map V.a)=ai (m.map V.a)
 | [],m,h=>by simp only[Rr,aC]at h;subst h;rfl
 |a::l,m,h=>by
  simp only[Rr]at h;split at h;·rename_i x xs e1 e2;simp only[aC]at h;subst h;simp only[aY,AW,awm e1,aoI e2,ag,aS]
  .cases h
def CT.aqt{r:ax->aq eO}(c:CT)(x:c.ty)(h:c.data=aB):wU r (c.enc x)=ai (c.enc x):=by cases c<;>first|rfl|(simp[CT.data]at h)
def vq.Y1{r:ax->aq eO}:∀(cs:vq) (x:cs.ty),cs.data=aB->AW r (cs.enc x)=ai (cs.enc x)
 |.nil,_,_=>rfl
 |.cons c cs,x,h=>by simp only[vq.data,az]at h;simp only[vq.enc,AW,CT.aqt c x.1 h.1,vq.Y1 cs x.2 h.2,ag,aS]
def ET.Y1{r:ax->aq eO}(t:ET)(x:t.ty)(h:t.data=aB):AW r (t.enc x).cells=ai (t.enc x).cells:=by cases t with|one c=>simp only[ET.enc,CT.yX,AW,CT.aqt c x h,ag,aS]|agg cs=>exact vq.Y1 cs x h
section
variable {R:Type}
def ai3(st:cy)(v:V):cz (R:=R) (yS st.r v) λw=>nr st.a.r v.a=ai w.a:=by
 have gen:∀v:V,(∀q i c,v≠ .loc q i c)->(∀cs,v≠ .agg cs)->cz (R:=R) (yS st.r v) λw=>nr st.a.r v.a=ai w.a:=by intro v h1 h2;(have e1:∀k:V->aq R,yS st.r v k=fk (acA st.r v) k:=λk=>by unfold yS fk;split;(·exact bG rfl (h1 _ _ _));(·exact bG rfl (h2 _));·cases acA st.r v<;>rfl);(have e2:nr st.a.r v.a=wU st.a.r v.a:=by unfold nr;split;(·rename_i e;cases v<;>simp[V.a]at e;exact bG rfl (h1 _ _ _));(·rename_i e;cases v<;>simp[V.a]at e;exact bG rfl (h2 _));·rfl);have e3:yS (R:=R) st.r v=λk=>fk (acA st.r v) k:=funext e1;rw[e3,e2];exact cz.V0 λx hx=>awm hx
 cases v with|loc q i c=>((have e:yS (R:=R) st.r (.loc q i c)=λk=>match eX st.r q with|some (.var _ x)=>(match i,Rr st.r x.cells with|0,ai cs=>k (.ptr cs c)|_,_=>au)|some (.sl t xs)=>if t.data then af (xs[i]?) λx=>k (.ptr (t.vs x) c)else au|none=>au:=rfl);rw[e];simp only[V.a,nr,cy.Rw];cases hq:eX st.r q with|none=>exact cz.no|some R0=>cases R0 with|var z x=>(cases i with|zero=>(dsimp only;cases hc:Rr st.r x.cells with|none=>exact cz.no|some cs=>refine cz.mk (x:=V.ptr cs c) ?_;simp only[aS,VR.a,ag,aD,V.jG,aoI hc,V.gE,V.a])|succ n=>exact cz.no)|sl t xs=>refine cz.uj λhd=>cz.bind λy hy=>cz.mk ?_;simp only[aS,VR.a,ag,cC,hy,ET.Y1 _ _ hd,V.a,V.gE];rw[ET.aib])|agg cs=>((have e:yS (R:=R) st.r (.agg cs)=λk=>match Rr st.r cs with|some cs=>k (.agg cs)|none=>au:=rfl);rw[e];cases hc:Rr st.r cs with|none=>exact cz.no|some ds=>refine cz.mk (x:=V.agg ds) ?_;simp only[V.a,nr,V.gE,aoI hc,aS])|_=>exact gen _ (by intros;simp) (by intros;simp)
def YS(st:cy):∀l:ah V,cz (R:=R) (BA st.r l) λm=>Cs st.a.r (l.map V.a)=ai (m.map V.a)
 | []=>cz.mk (x:=[]) rfl
 |v::l=>by refine cz.seq (F:=yS st.r v) (G:=λx k=>BA st.r l λxs=>k (x::xs)) (ai3 st v) λx hx=> ?_;refine cz.seq (F:=BA st.r l) (G:=λxs k=>k (x::xs)) (YS st l) λxs LD=>cz.mk ?_;simp only[aY,Cs,hx,LD,ag,aS]
def ah1(v:V):uu v.a=Zi v:=by cases v<;>rfl
def alS{f:A->aW}{g:V->aW}(h:∀v,f v.a=g v)(l:ah V):(l.map V.a).any f=l.any g:=by rw[aMA];congr 1;funext x;exact h x
def auf{f:A->aW}{g:V->aW}(h:∀v,f v.a=g v)(l:ah V):(l.map V.a).all f=l.all g:=by rw[JX];congr 1;funext x;exact h x
def acF(st:cy)(v:V):cz (R:=R) (Ai st.r v) λw=>Hu st.a.r v.a=ai w.a:=by
 have gen:∀v:V,(∀f c,v≠ .fn f c)->cz (R:=R) (Ai st.r v) λw=>Hu st.a.r v.a=ai w.a:=by intro v hv;(have e1:Ai (R:=R) st.r v=yS st.r v:=by funext k;unfold Ai;split;(·exact bG rfl (hv _ _));·rfl);(have e2:Hu st.a.r v.a=nr st.a.r v.a:=by unfold Hu;split;(·rename_i e;cases v<;>simp[V.a]at e;exact bG rfl (hv _ _));·rfl);rw[e1,e2];exact ai3 st v
 cases v with|fn f caps=>(have e:Ai (R:=R) st.r (.fn f caps)=λk=>if caps.any Zi then au else BA st.r caps λcs=>k (.fn f cs):=rfl);rw[e];refine cz.ite (λ_=>cz.no) λhn=> ?_;refine cz.seq (F:=BA st.r caps) (G:=λcs k=>k (V.fn f cs)) (YS st caps) λcs oz=>cz.mk ?_;simp only[V.a,Hu,V.gE,alS ah1,oz,aS];rw[aP hn]|_=>exact gen _ (by intros;simp)
end
end Go.Ab
namespace Go.Ab
def awo{st:cy}{t:ET}{v:V}{xs:ah t.ty}(h:atr st.r t v=ai xs):elems st.a.r v.a=ai (t.z,xs.map t.enc):=by
 unfold atr at h;split at h;·obtain⟨rfl,h⟩:=DO h;cases h;rfl
 .obtain⟨rfl,h⟩:=DO h;cases h;rfl
 .split at h;·rename_i e;simp only[aC]at h;subst h;subst e;rfl
  .cases h
 .split at h;·rename_i e;simp only[aC]at h;subst h;subst e;rfl
  .cases h
 .split at h;·rename_i e;obtain⟨rfl,h⟩:=DO h;cases h;simp only[V.a,elems,cy.Rw,e,aS,VR.a,ahh]
  .cases h
 .cases h
def aLH{st:cy}{v:V}{n:ax}(h:aLG st.r v=ai n):axT st.a.r v.a=ai n:=by
 unfold aLG at h
 split at h<;>first
  |(simp only[aC]at h;subst h;simp only[V.a,axT,bf,bQ];done)
  |skip
 .split at h;·rename_i e;simp only[aC]at h;subst h;simp only[V.a,axT,cy.Rw,e,aS]
  .cases h
 .cases h
def Dt{cs:ah V}{c:ax}{n:aq ax}{v:V}(h:tP cs c n=ai v):lB (cs.map V.a) c n=ai v.a:=by cases n with|none=>simp only[tP]at h;simp only[lB,cC,h,aS]|some n=>simp only[tP]at h;split at h;(·rename_i hl;simp only[aC]at h;subst h;simp only[lB,bf,aQ hl,V.a,V.gE,Ax,aC,A.agg.injEq,<-nz,<-pO];exact kx λx _=>(afH x).symm);·cases h
def ai2{cs ds vs:ah V}{c:ax}(h:Zl cs c vs=ai ds):setCells (cs.map V.a) c (vs.map V.a)=ai (ds.map V.a):=by
 unfold Zl at h;split at h;·rename_i hl;simp only[aC]at h;subst h;simp only[setCells,bf,aQ hl,dP,pO,nz]
 .cases h
def wC(old:V)(cs:ah V):(nw old cs).a=gh old.a (cs.map V.a):=by
 cases old<;>first
  |(simp only[nw,V.a,gh,V.gE];done)
  |(cases cs<;>rfl)
def afJ(st:cy)(v:V):nS st.a.r v.a=acE st.r v:=by
 cases v<;>first
  |rfl
  |(simp only[V.a,nS,acE,cy.Rw,aAx];done)
  |(simp only[V.a,nS,acE];rename_i l;exact Bz (V.fn _ l))
def awp{st:cy}:∀{parts:ah (ax×ax×dI)} {cs ds:ah V},aoJ st cs parts=ai ds->JY st.a (cs.map V.a) parts=ai (ds.map V.a)
 | [],cs,ds,h=>by simp only[aoJ,aC]at h;subst h;rfl
 |(off,z,x)::l,cs,ds,h=>by
  simp only[aoJ]at h;split at h;·rename_i hc;simp only[az,aG]at hc;obtain⟨⟨hx,hz⟩,hs⟩:=hc;split at h;(·rename_i Vc e;simp only[JY,<-dI.gi st hx,V.jG,bf,auf (afJ st),hz,hs,lM,aK,ai2 e,ag];exact awp h);·cases h
  .cases h
def awr{st:cy}{t:ET}:∀{parts:ah (ax×dI)} {xs ys:ah t.ty},aoK st t xs parts=ai ys->RX st.a t.z (xs.map t.enc) parts=ai (ys.map t.enc)
 | [],xs,ys,h=>by simp only[aoK,aC]at h;subst h;rfl
 |(i,x)::l,xs,ys,h=>by
  simp only[aoK]at h;split at h;·rename_i hx;split at h;(·rename_i v ev;split at h;(·rename_i y ey;split at h;(·rename_i hi;simp only[RX,<-dI.gi st hx,aFT ev,ag,V.Rq ey,ET.Im,bf,hi,lM,aK];rw[<-aqj];exact awr h);·cases h);·cases h);·cases h
  .cases h
section
variable {R:Type}
def aIw(op:aoY)(x y:V):cz (R:=R) (aam op x y) λv=>ar6 op x.a y.a=ai v.a:=by
 intro k r h
 cases x<;>cases y<;>first
  |(simp[aam]at h;done)
  |skip
 .rename_i i a j b;by_cases hij:i=j
  .subst hij
   cases op<;>first
    |(simp[aam]at h;done)
    |(simp only[aam,aK]at h
      refine⟨_,?_,h,λk'=>by simp only[aam,aK]⟩
      simp only[V.a,ar6,Y6,ar,aJ,aK,aEy])
    |(simp only[aam,aK,aG]at h
      split at h
      .cases h
      .rename_i hb
       refine⟨_,?_,h,λk'=>by simp only[aam,aK,aG,aP hb]⟩
       simp only[V.a,ar6,Y6,ar,aJ,aK,aEy,an1,aP hb])
  .cases op<;>first
    |(simp[aam,hij]at h;done)
    |(simp only[aam,aG]at h
      split at h
      .cases h
      .rename_i hb
       refine⟨_,?_,h,λk'=>by simp only[aam,aG,aP hb]⟩
       simp only[V.a,ar6,Y6,aK,an1,aP hb])
 .rename_i a b
  cases op<;>first
   |(simp[aam]at h;done)
   |(simp only[aam]at h
     refine⟨_,?_,h,λk'=>by simp only[aam]⟩
     simp only[V.a,ar6,aFs])
   |(simp only[aam,aG]at h
     split at h
     .rename_i hb
      refine⟨_,?_,h,λk'=>by simp only[aam,aG,aQ hb]⟩
      simp only[V.a,ar6,aFs,aQ hb]
     .cases h)
def aO2{op:UnOp}{x v:V}(h:vun op x=ai v):unA op x.a=ai v.a:=by
 unfold vun at h;split at h;·simp only[aC]at h;subst h;rfl
 .simp only[aC]at h;subst h;rfl
 .cases h
def aIA{x y v:V}(h:aF2 x y=ai v):avk x.a y.a=ai v.a:=by
 unfold aF2 at h;split at h
 .split at h;·rename_i e;simp only[aC]at h;subst h;subst e;simp only[V.a,avk,aK]
  .cases h
 .cases h
def aIB{x y v:V}(h:aF3 x y=ai v):avl x.a y.a=ai v.a:=by
 unfold aF3 at h;split at h
 .split at h;·rename_i e;simp only[aC]at h;subst h;subst e;simp only[V.a,avl,aK]
  .cases h
 .cases h
def ats{f:V->V->aq V}{g:A->A->aq A}(hf:∀x y v,f x y=ai v->g x.a y.a=ai v.a):∀{l:ah V} {a v:V},arD f a l=ai v->adp g a.a (l.map V.a)=ai v.a
 | [],a,v,h=>by simp only[arD,aC]at h;subst h;rfl
 |b::l,a,v,h=>by
  simp only[arD]at h;split at h;·rename_i c e;simp only[aY,adp,hf _ _ _ e,ag];exact ats hf h
  .cases h
def aFY(v:V):agB v.a=ayP v:=by cases v<;>rfl
def aoP(d:ax):∀(l:ah V) (j:ax),(U1 d j l).map V.a=rN d j (l.map V.a)
 | [],_=>rfl
 |v::l,j=>by
  by_cases hv:∃cs,v=.agg cs
  .obtain⟨cs,rfl⟩:=hv
   have e:(V.ab cs).any agB=cs.any ayP:=by rw[V.gE,aMA];congr 1;funext v;exact aFY v
   simp only[U1,aY,V.a,rN,aoP d l (j+1),e]
   split<;>rfl
  .cases v<;>first
    |(simp only[U1,aY,V.a,rN,aoP d l (j+1)];done)
    |exact bG ⟨_,rfl⟩ hv
def arJ(d:ax):∀(l:ah V) (j:ax),(afI d j l).map V.a=wO d j (l.map V.a)
 | [],_=>rfl
 |v::l,j=>by cases v<;>simp only[afI,aY,V.a,wO,arJ d l (j+1)]
def aww(d:ax)(l:ah V):(U0 d l).a=Ge d (l.map V.a):=by
 by_cases hl:∃cs,l=[.agg cs];·obtain⟨cs,rfl⟩:=hl;simp only[U0,V.a,V.gE,arJ,aY,gJ,Ge]
 have e1:U0 d l=(match U1 d 0 l with| [a]=>a|l=>.xv l):=by unfold U0;split;(·exact bG ⟨_,rfl⟩ hl);·rfl
 have e2:Ge d (l.map V.a)=(match rN d 0 (l.map V.a)with| [a]=>a|l=>.xv l):=by
  unfold Ge;split
  .rename_i cs e;(rcases l with _|⟨v,_|⟨u,l⟩⟩);·cases e
   .cases v<;>first
     |exact bG ⟨_,rfl⟩ hl
     |(simp[V.a]at e;done)
   .simp at e
  .rfl
 rw[e1,e2];rw[<-aoP];split;·rename_i x e;rw[e];rfl
 .rename_i hn;split;·rename_i a e;cases hl:U1 d 0 l with|nil=>rw[hl]at e;simp at e|cons x m=>cases m with|nil=>exact bG hl (hn x)|cons y m=>rw[hl]at e;simp at e
  .simp only[V.a,V.gE]
def aws(v:V):aaD v.a=ah6 v:=by cases v<;>rfl
def aF6(v:V)(h:acD v=aB):v.a.plain=aB:=by cases v<;>first|rfl|(simp[acD]at h)
def arH:∀(l:ah V),l.all acD=aB->A.yx (l.map V.a)=aB
 | [],_=>rfl
 |v::l,h=>by simp only[eQ,az]at h;simp only[aY,A.yx,aF6 v h.1,arH l h.2,bw]
def aCh(v:V)(h:alL v=aB):v.a.plain=aB:=by
 cases v<;>first
  |rfl
  |(simp[alL,acD]at h;done)
  |(simp only[V.a,A.plain,V.gE];exact arH _ h)
def ayU(v:V)(h:Tt v=aB):aeZ v.a=aB:=by
 cases v<;>first
  |(simp only[V.a,aeZ,JX,bz];exactλx _=>ET.C9 _ x h)
  |rfl
  |(exact aCh _ h)
  |(simp[Tt,alL,acD]at h;done)
def arG(v:V):M3 v.a=Qo v:=by cases v<;>rfl
def awv(v:V):owned v.a=YR v:=by
 cases v<;>first
  |rfl
  |(simp only[V.a,owned,YR,V.gE];exact alS arG _)
def aq2:CT->A->A |.own t,.lz z=>if z=t.z then .own z []else .lz z |_,a=>a
def aq3:vq->ah A->ah A |.cons c cs,a::l=>aq2 c a::aq3 cs l |_,l=>l
def aq4:ET->A->A |.one c,a=>aq2 c a |.agg cs,.agg l=>.agg (aq3 cs l) |_,a=>a
def asM(t:ET)(cs:ah A)(c:ax):A:=match t with
 |.one _=>(match(cs[c]?).getD .any with|.agg _=>.any|a=>a)
 |.agg us=>.agg ((cs.drop c).take us.len)
def Vz:ah ET->ah A->ah A |t::ts,.ptr cs c::l=>.ptr (asM t cs c).cells 0::Vz ts l |_,l=>l
def MT.norm:MT->A->A |.fn _ ts,.fn g l=>.fn g (Vz ts l) |.p t,.ptr cs c=>.ptr (asM t cs c).cells 0 |.box t,.iU z [x]=>.iU z [aq4 t x] |_,a=>a
def MT.enc(j:ax)(m:MT)(x:m.ty):A:=(m.v j x).a
def Dj:ah MT->ah A->ah A |m::ms,a::l=>m.norm a::Dj ms l |_,l=>l
def KJ(ms:ah MT)(x:Hv ms):ah A:=(vsU 0 ms x).map V.a
def aAe(c:CT)(v:V):(aAd c v).a=aq2 c v.a:=by cases c with|own t=>(cases v<;>first|rfl|(simp only[aAd,V.a,aq2];split<;>first|(rename_i h;subst h;rfl)|rfl))|_=>cases v<;>rfl
def aAg:∀(cs:vq) (l:ah V),(aAf cs l).map V.a=aq3 cs (l.map V.a)
 |.nil,l=>by cases l<;>rfl
 |.cons c cs,[]=>rfl
 |.cons c cs,v::l=>by simp only[aAf,aY,aq3,aAe,aAg cs l]
def aIC(t:ET)(v:V):(aF5 t v).a=aq4 t v.a:=by cases t with|one c=>exact aAe c v|agg cs=>cases v<;>first|rfl|(simp only[aF5,V.a,aq4,V.gE,aAg])
def aGc(t:ET)(cs:ah V)(c:ax):(aGb t cs c).a=asM t (cs.map V.a) c:=by cases t with|one _=>simp only[aGb,asM,<-ane];cases asN cs c<;>rfl|agg us=>simp only[aGb,asM,V.a,V.gE,pO,nz]
def aJv:∀{ts:ah ET} {l:ah V} {x:ayJ ts},ofE ts l=ai x->Vz ts (l.map V.a)=(vsE ts x).map V.a
 | [],[],_,_=>rfl
 | [],_::_,_,h=>by simp[ofE]at h
 |t::ts,[],_,h=>by simp[ofE]at h
 |t::ts,v::l,x,h=>by
  cases v<;>first
   |(simp[ofE]at h;done)
   |skip
  rename_i cs c;simp only[ofE]at h;split at h;·rename_i y z e1 e2;simp only[aC]at h;subst h;have:=V.Rq e1;simp only[aY,V.a,Vz,vsE,V.gE,aJv e2,dU,A.ptr.injEq,pN];rw[<-aGc,this,ET.aib]
  .cases h
def MT.ax2{m:MT}{v:V}{x:m.ty}(hm:∀t,m≠ .tok t)(h:m.of v=ai x)(j:ax):m.norm v.a=m.enc j x:=by cases m with|d t=>simp only[MT.of]at h;rw[MT.enc,MT.v,ET.v_a,<-V.Rq h];cases v<;>rfl|p t=>(cases v<;>simp only[MT.of]at h<;>first|cases h|skip);rename_i cs c;have:=V.Rq h;simp only[V.a,MT.norm,MT.enc,MT.v,V.gE];rw[<-aGc,this,ET.aib]|tok t=>exact bG rfl (hm t)|box t=>(cases v<;>simp only[MT.of]at h<;>first|cases h|skip);rename_i z y;split at h;(·rename_i hz;subst hz;have:=V.Rq h;simp only[V.a,MT.norm,MT.enc,MT.v];rw[<-aIC,this,ET.v_a]);·cases h|l7 t=>(cases v<;>simp only[MT.of]at h<;>first|cases h|skip);obtain⟨rfl,h⟩:=DO h;cases h;rfl|fn f ts=>(cases v<;>simp only[MT.of]at h<;>first|cases h|skip);split at h;(·rename_i e;subst e;simp only[V.a,MT.norm,MT.enc,MT.v,V.gE,aJv h]);·cases h|gone=>(cases v<;>simp only[MT.of]at h<;>first|cases h|skip);rfl
def am7{m:MT}{ms:ah MT}(h:Gb (m::ms)=aB):(∀t,m≠ .tok t)/\Gb ms=aB:=by cases m<;>simp[Gb]at h⊢<;>exact h
def aDM:∀(ms:ah MT) (x:Hv ms) (j j':ax),Gb ms=aB->(vsU j ms x).map V.a=(vsU j' ms x).map V.a
 | [],_,_,_,_=>rfl
 |m::ms,x,j,j',h=>by(obtain⟨h1,h2⟩:=am7 h;simp only[vsU,aY,aDM ms x.2 (j+1) (j'+1) h2,dU,pN];cases m<;>first|rfl|exact bG rfl (h1 _))
def aJw:∀{ms:ah MT} {l:ah V} {x:Hv ms},Gb ms=aB->ofU ms l=ai x->Dj ms (l.map V.a)=KJ ms x
 | [],[],_,_,_=>rfl
 | [],_::_,_,_,h=>by simp[ofU]at h
 |m::ms,[],_,_,h=>by simp[ofU]at h
 |m::ms,v::l,x,ht,h=>by
  obtain⟨h1,h2⟩:=am7 ht;simp only[ofU]at h;split at h;·rename_i y z e1 e2;simp only[aC]at h;subst h;simp only[aY,Dj,KJ,vsU,MT.ax2 h1 e1 0,aJw h2 e2,dU];exact⟨rfl,aDM ms z 0 1 h2⟩
  .cases h
def aAj:∀{ts:ah ET} {x y:ayJ ts},(vsE ts x).map V.a=(vsE ts y).map V.a->x=y
 | [],_,_,_=>rfl
 |t::ts,x,y,h=>by(simp only[vsE,aY,dU,V.a,V.gE,A.ptr.injEq,pN]at h;refine Prod.ext (ET.rV t _ _ ?_) (aAj h.2);have h:=h.1;rw[<-ET.aib,<-ET.aib]at h;cases t with|one c=>simpa only[ET.enc,CT.yX,dU,pN]using h|agg cs=>simpa only[ET.enc,A.cells,A.agg.injEq]using h)
def MT.rV{m:MT}{x y:m.ty}{j:ax}(h:m.enc j x=m.enc j y):x=y:=by cases m with|d t=>exact ET.rV t x y (by simpa only[MT.enc,MT.v,ET.v_a]using h)|p t=>(simp only[MT.enc,MT.v,V.a,V.gE,A.ptr.injEq,pN]at h;refine ET.rV t x y ?_;rw[<-ET.aib,<-ET.aib]at h;cases t with|one c=>simpa only[ET.enc,CT.yX,dU,pN]using h|agg cs=>simpa only[ET.enc,A.cells,A.agg.injEq]using h)|tok t=>simp only[MT.enc,MT.v,V.a,A.tok.injEq,Ag]at h;exact XB (ET.rV t) h|box t=>simp only[MT.enc,MT.v,V.a,ET.v_a,A.iU.injEq,Ag,dU,pN]at h;exact ET.rV t x y h|l7 t=>simp only[MT.enc,MT.v,V.a,A.l7.injEq,Ag]at h;exact XB (ET.rV t) h|fn f ts=>simp only[MT.enc,MT.v,V.a,V.gE,A.fn.injEq,Ag]at h;exact aAj h|gone=>rfl
def aqz:∀{ms:ah MT} {x y:Hv ms} {j:ax},(vsU j ms x).map V.a=(vsU j ms y).map V.a->x=y
 | [],_,_,_,_=>rfl
 |m::ms,x,y,j,h=>by simp only[vsU,aY,dU]at h;exact Prod.ext (MT.rV (j:=j) h.1) (aqz h.2)
def JD(c:Callee)(y:Ts (c.rs++c.os)):ah A×ah A:=(((vs1 0 (c.rs++c.os) y).take (ae c.rs)).map V.a,((vs1 0 (c.rs++c.os) y).drop (ae c.rs)).map V.a)
open Classical in
noncomputable def Callee.cf(c:Callee)(ab:ah A):aq (ah A×ah A):=
 if h:∃x,Gb c.ps=aB/\Dj c.ps ab=KJ c.ps x then(c.f h.choose).map (JD c)else au
noncomputable def cfD(D:ah (ax×Callee)):CF:=λg ab=>af (adk D g) λc=>c.cf ab
def Callee.aun{c:Callee}{ab:ah A}{x:Hv c.ps}(ht:Gb c.ps=aB)(h:Dj c.ps ab=KJ c.ps x):c.cf ab=(c.f x).map (JD c):=by unfold Callee.cf;have he:∃x,Gb c.ps=aB/\Dj c.ps ab=KJ c.ps x:=⟨x,ht,h⟩;rw[aNh he];have:he.choose=x:=aqz (he.choose_spec.2.symm.trans h);rw[this]
end
end Go.Ab
namespace Go.Ab
def ioD(D:ah (ax×Callee))(g:ax):ah aW:=ayO D g
section
variable {R:Type} {D:ah (ax×Callee)} {H:ah (ax×ET)}
def aFS(D:ah (ax×Callee))(g:ax)(ab:ah V):cz (R:=R) (λk:ah V×ah V->aq R=>vcf D g ab λa b=>k (a,b)) λp=>cfD D g (ab.map V.a)=ai (p.1.map V.a,p.2.map V.a):=by unfold vcf;cases hc:adk D g with|none=>exact cz.no|some c=>dsimp only;cases hx:ofU c.ps ab with|none=>exact cz.no|some x=>dsimp only;refine cz.uj λht=>cz.bind λy hy=>cz.mk ?_;simp only[cfD,hc,ag,Callee.aun ht (aJw ht hx),hy,aS,JD]
def arC(st:cy):∀l:ah dI,cz (R:=R) (YO st l) λab=>LX st.a l=ai (ab.map V.a)/\l.all dI.ok=aB
 | []=>cz.mk (x:=[]) ⟨rfl,rfl⟩
 |x::l=>by
  have e:YO (R:=R) st (x::l)=λk=>if x.ok then Ai st.r (x.vv st) λa=>YO st l λr=>k (a::r)else au:=rfl
  rw[e];refine cz.uj λhx=> ?_;refine cz.seq (F:=Ai st.r (x.vv st)) (G:=λa k=>YO st l λr=>k (a::r)) (acF st _) λa ha=> ?_;refine cz.seq (F:=YO st l) (G:=λr k=>k (a::r)) (arC st l) λr hr=>cz.mk ?_;simp only[LX,<-dI.gi st hx,ha,hr.1,ag,aS,aY,eQ,hx,hr.2,bw,lM]
def afD{α:Type}{P:α->Prop}{F:ax->(α->aq R)->aq R}(n:aw)(len:ax):∀(m j:ax),j+m=len->(∀i:ax,i<len->n=(i:aw)->cz (F i) P)->cz (λk=>Oe n (λi=>F i k) m j) P
 |0,j,_,_=>by unfold Oe;exact cz.no
 |m+1,j,hj,hF=>by unfold Oe;refine cz.ite (λh=>hF j (by omega) (by simpa using h)) λ_=> ?_;exact afD n len m (j+1) (by omega) hF
def aCc(d:aq ax)(st:cy)(o:O):cz (R:=R) (jE D H d st o) λv=>ef (cfD D) (ioD D) d st.a o=ai v.a:=by
 cases o with
 |mv x=>
  unfold jE;dsimp only;refine cz.uj λhx=>cz.mk ?_;simp only[ef,dI.gi st hx]
 |asg x=>
  unfold jE;dsimp only;refine cz.uj λhx=> ?_
  cases hv:x.vv st<;>(try dsimp only)<;>first
   |exact cz.no
   |(refine cz.mk ?_;simp only[ef,<-dI.gi st hx,hv,V.a])
 |pick c a b=>
  unfold jE;dsimp only;refine cz.uj λhx=> ?_;simp only[az]at hx;obtain⟨⟨hc,ha⟩,hb⟩:=hx
  cases hv:c.vv st<;>(try dsimp only)<;>first
   |exact cz.no
   |skip
  refine cz.ite (λh=>cz.mk ?_) λh=>cz.mk ?_;·simp only[ef,<-dI.gi st hc,hv,V.a,dI.gi st ha,h,aK]
  .simp only[ef,<-dI.gi st hc,hv,V.a,dI.gi st hb,h,ar,aJ]
 |alloc z zero=>unfold jE;exact cz.no
 |box z x=>unfold jE;exact cz.no
 |sto n a x=>unfold jE;exact cz.no
 |app z b s x=>unfold jE;exact cz.no
 |build zero parts=>
  unfold jE;dsimp only;refine cz.uj λhz=>cz.fk λcs oz=>cz.mk ?_;have h0:(zero.map A.aFD).map V.a=zero:=by rw[Ax];(conv=>rhs;rw[<-List.map_id zero]);exact kx λx hx=>A.ayE (bz.1 hz x hx)
  have:=awp oz;rw[h0]at this;simp only[ef,this,aS,V.a,V.gE]
 |bsl z zero n parts=>
  unfold jE;cases d with|none=>exact cz.no|some d=>dsimp only;refine cz.fk λt ht=>cz.uj λhc=>cz.fk λz0 hz0=>cz.fk λxs LD=>cz.mk ?_;simp only[az,aG]at hc;obtain⟨⟨h1,h2⟩,h3⟩:=hc;have e0:zero=t.enc z0:=(A.awi h1).symm.trans (V.Rq hz0);have:=awr LD;rw[OO,<-e0]at this;subst h2;simp only[ef,h3,Ag,this,aS,V.a];rw[aQ (by rw[e0];exact ET.Im _ _)]
 |ld n a=>
  unfold jE;dsimp only;refine cz.uj λha=> ?_
  cases hv:a.vv st<;>(try dsimp only)<;>first
   |exact cz.no
   |skip
  .rename_i q i c;cases hq:eX st.r q with|none=>exact cz.no|some R0=>cases R0 with|var z x=>(cases i with|zero=>dsimp only;refine cz.V0 λv hg=> ?_;simp only[ef,<-dI.gi st ha,hv,V.a,cy.Rw,hq,aS,VR.a,ag,aD,V.jG,Dt hg]|succ i=>exact cz.no)|sl t xs=>dsimp only;refine cz.bind λx hx=>cz.V0 λv hg=> ?_;simp only[ef,<-dI.gi st ha,hv,V.a,cy.Rw,hq,aS,VR.a,ag,cC,hx];rw[ET.aib,Dt hg]
  .rename_i cs c;refine cz.V0 λv hg=> ?_;simp only[ef,<-dI.gi st ha,hv,V.a,V.gE,Dt hg]
 |aed x=>
  unfold jE;dsimp only;refine cz.uj λhx=> ?_
  cases hv:x.vv st<;>(try dsimp only)<;>first
   |exact cz.no
   |skip
  .rename_i q i c;cases hq:eX st.r q with|none=>exact cz.no|some R0=>refine cz.mk (x:=V.loc q i c) ?_;simp only[ef,<-dI.gi st hx,hv,V.a,cy.Rw,hq,aS]
  .refine cz.mk ?_;simp only[ef,<-dI.gi st hx,hv,V.a]
  .refine cz.mk ?_;simp only[ef,<-dI.gi st hx,hv,V.a]
 |bin op x y=>
  unfold jE;dsimp only;refine cz.uj λhx=> ?_;simp only[az]at hx;refine(aIw op (x.vv st) (y.vv st)).od λv hv=> ?_;simp only[ef,<-dI.gi st hx.1,<-dI.gi st hx.2,hv]
 |eqb neq x y=>
  unfold jE;dsimp only;refine cz.uj λhx=> ?_;simp only[az]at hx
  cases hv:x.vv st<;>(try dsimp only)<;>first
   |exact cz.no
   |skip
  cases hw:y.vv st<;>(try dsimp only)<;>first
   |exact cz.no
   |skip
  refine cz.mk ?_;simp only[ef,<-dI.gi st hx.1,<-dI.gi st hx.2,hv,hw,V.a]
 |un op x=>
  unfold jE;dsimp only;refine cz.uj λhx=>cz.V0 λv hv=> ?_;simp only[ef,<-dI.gi st hx,aO2 hv]
 |conv c x=>
  unfold jE;dsimp only;refine cz.uj λhx=> ?_
  cases c with
  |int i=>
   cases hv:x.vv st<;>(try dsimp only)<;>first
    |exact cz.no
    |skip
   refine cz.mk ?_;simp only[ef,<-dI.gi st hx,hv,V.a]
  |RN=>
   dsimp only;refine cz.fk λxs LD=>cz.mk ?_;(have hb:∀l:ah aw,bytesOf (l.map λn=>A.int .u8 n)=ai (l.map vu8):=by intro l;induction l with|nil=>rfl|cons n l ih=>simp only[aY,bytesOf,ih,aS,vu8]);have he:=awo LD;simp only[ef,<-dI.gi st hx,he,ag,ET.z,aK];have:(xs.map (ET.one (CT.int Gq)).enc)=xs.map λn=>A.int .u8 n:=rfl;rw[this,hb];rfl
 |fa off x=>
  unfold jE;dsimp only;refine cz.uj λhx=> ?_
  cases hv:x.vv st<;>(try dsimp only)<;>first
   |exact cz.no
   |skip
  .rename_i q i c;cases hq:eX st.r q with|none=>exact cz.no|some R0=>refine cz.mk (x:=V.loc q i (c+off)) ?_;simp only[ef,<-dI.gi st hx,hv,V.a,cy.Rw,hq,aS]
  .refine cz.mk ?_;simp only[ef,<-dI.gi st hx,hv,V.a]
 |ia z x i=>
  unfold jE;dsimp only;refine cz.uj λhx=> ?_;simp only[az]at hx
  cases hi:i.vv st<;>(try dsimp only)<;>first
   |exact cz.no
   |skip
  rename_i ki n
  cases hv:x.vv st<;>(try dsimp only)<;>first
   |exact cz.no
   |skip
  .rename_i t xs;refine cz.uj λhz=>cz.uj λhn=>cz.bind λy hy=>cz.mk ?_;simp only[aG]at hz hn;subst hz;simp only[ef,<-dI.gi st hx.1,<-dI.gi st hx.2,hi,hv,V.a,V.gE,hn,lM,aK,cC,hy,aS,ET.aib]
  .rename_i q o len;cases hq:eX st.r q with|none=>exact cz.no|some R0=>cases R0 with|var z x=>exact cz.no|sl t xs=>dsimp only;refine cz.uj λhz=>cz.uj λhn=>cz.mk ?_;simp only[aG,az]at hz hn;subst hz;simp only[ef,<-dI.gi st hx.1,<-dI.gi st hx.2,hi,hv,V.a,cy.Rw,hq,aS,VR.a,ag,hn,lM,aK,atn]
 |iaa len z x i=>
  unfold jE;dsimp only;refine cz.uj λhx=> ?_;simp only[az]at hx
  cases hi:i.vv st<;>(try dsimp only)<;>first
   |exact cz.no
   |skip
  rename_i ki n
  cases hv:x.vv st<;>(try dsimp only)<;>first
   |exact cz.no
   |skip
  .rename_i q j c;cases hq:eX st.r q with|none=>exact cz.no|some R0=>dsimp only;refine afD n len len 0 (by omega) λm hm hn=>cz.mk (x:=V.loc q j (c+m*z)) ?_;subst hn;simp only[ef,<-dI.gi st hx.1,<-dI.gi st hx.2,hi,hv,V.a,cy.Rw,hq,aS,aH];rw[aQ ⟨by omega,by omega⟩]
  .refine afD n len len 0 (by omega) λm hm hn=>cz.mk ?_;subst hn;simp only[ef,<-dI.gi st hx.1,<-dI.gi st hx.2,hi,hv,V.a,aH];rw[aQ ⟨by omega,by omega⟩]
 |ix x i=>
  unfold jE;dsimp only;refine cz.uj λhx=> ?_;simp only[az]at hx
  cases hi:i.vv st<;>(try dsimp only)<;>first
   |exact cz.no
   |skip
  rename_i ki n
  cases hv:x.vv st<;>(try dsimp only)<;>first
   |exact cz.no
   |skip
  refine cz.uj λhn=>cz.bind λy hy=>cz.mk ?_;simp only[aG]at hn;simp only[ef,<-dI.gi st hx.1,<-dI.gi st hx.2,hi,hv,V.a,hn,aK,hy,aS]
 |ixa len z n x i=>
  unfold jE;dsimp only;refine cz.uj λhx=> ?_;simp only[az]at hx
  cases hi:i.vv st<;>(try dsimp only)<;>first
   |exact cz.no
   |skip
  rename_i ki j
  cases hv:x.vv st<;>(try dsimp only)<;>first
   |exact cz.no
   |skip
  refine afD j len len 0 (by omega) λm hm hn=>cz.V0 λv hg=> ?_;subst hn;simp only[ef,<-dI.gi st hx.1,<-dI.gi st hx.2,hi,hv,V.a,aH,V.gE,Dt hg];rw[aQ ⟨by omega,by omega⟩]
 |atc x lo hi=>
  unfold jE;dsimp only;refine cz.uj λhx=> ?_;simp only[az]at hx;obtain⟨⟨h0,h1⟩,h2⟩:=hx
  cases lo with
  |none=>
   cases hi with
   |none=>
    simp only[dO]
    cases hv:x.vv st<;>(try dsimp only)<;>first
     |exact cz.no
     |skip
    refine cz.mk ?_;simp only[ef,<-dI.gi st h0,hv,V.a,dO,tQ];simp
   |some h=>
    simp only[dO,aS]
    cases hh:h.vv st<;>(try dsimp only)<;>first
     |exact cz.no
     |skip
    cases hv:x.vv st<;>(try dsimp only)<;>first
     |exact cz.no
     |skip
    refine cz.uj λhc=>cz.mk ?_;simp only[az,aG]at hc;simp only[Cw]at h2;simp only[ef,<-dI.gi st h0,<-dI.gi st h2,hv,hh,V.a,dO,aS,tQ];simp[hc]
  |some l=>
   simp only[Cw]at h1
   cases hi with
   |none=>
    simp only[dO,aS]
    cases hl:l.vv st<;>(try dsimp only)<;>first
     |exact cz.no
     |skip
    cases hv:x.vv st<;>(try dsimp only)<;>first
     |exact cz.no
     |skip
    refine cz.uj λhc=>cz.mk ?_;simp only[az,aG]at hc;simp only[ef,<-dI.gi st h0,<-dI.gi st h1,hv,hl,V.a,dO,aS,jA];simp[hc]
   |some h=>
    simp only[aS]
    cases hl:l.vv st<;>(try dsimp only)<;>first
     |exact cz.no
     |skip
    cases hh:h.vv st<;>(try dsimp only)<;>first
     |exact cz.no
     |skip
    cases hv:x.vv st<;>(try dsimp only)<;>first
     |exact cz.no
     |skip
    refine cz.uj λhc=>cz.mk ?_;simp only[az,aG]at hc;simp only[Cw]at h2;simp only[ef,<-dI.gi st h0,<-dI.gi st h1,<-dI.gi st h2,hv,hl,hh,V.a,aS,jA];simp[hc]
 |slc z x lo hi=>
  unfold jE;dsimp only;refine cz.uj λhx=> ?_;simp only[az]at hx;obtain⟨⟨h0,h1⟩,h2⟩:=hx
  cases lo with
  |none=>
   cases hi with
   |none=>
    simp only[dO]
    cases hv:x.vv st<;>(try dsimp only)<;>first
     |exact cz.no
     |skip
    (·refine cz.uj λhz=>cz.mk ?_;simp only[aG]at hz;subst hz;simp only[ef,<-dI.gi st h0,hv,V.a,dO,tQ];simp);·rename_i q o n;cases hq:eX st.r q with|none=>exact cz.no|some R0=>cases R0 with|var z x=>exact cz.no|sl t xs=>dsimp only;refine cz.uj λhz=>cz.mk ?_;simp only[aG]at hz;subst hz;simp only[ef,<-dI.gi st h0,hv,V.a,dO,tQ,cy.Rw,hq,aS,VR.a,ag];simp
   |some h=>
    simp only[Cw]at h2;simp only[dO,aS]
    cases hh:h.vv st<;>(try dsimp only)<;>first
     |exact cz.no
     |skip
    cases hv:x.vv st<;>(try dsimp only)<;>first
     |exact cz.no
     |skip
    (·refine cz.uj λhz=>cz.uj λhc=>cz.mk ?_;simp only[az,aG]at hc hz;subst hz;simp only[ef,<-dI.gi st h0,<-dI.gi st h2,hv,hh,V.a,dO,aS,tQ];simp[hc,pO]);·rename_i q o n;cases hq:eX st.r q with|none=>exact cz.no|some R0=>cases R0 with|var z x=>exact cz.no|sl t xs=>dsimp only;refine cz.uj λhz=>cz.uj λhc=>cz.mk ?_;simp only[az,aG]at hc hz;subst hz;simp only[ef,<-dI.gi st h0,<-dI.gi st h2,hv,hh,V.a,dO,tQ,cy.Rw,hq,aS,VR.a,ag];simp[hc]
  |some l=>
   simp only[Cw]at h1
   cases hi with
   |none=>
    simp only[dO,aS]
    cases hl:l.vv st<;>(try dsimp only)<;>first
     |exact cz.no
     |skip
    cases hv:x.vv st<;>(try dsimp only)<;>first
     |exact cz.no
     |skip
    (·refine cz.uj λhz=>cz.uj λhc=>cz.mk ?_;simp only[az,aG]at hc hz;subst hz;simp only[ef,<-dI.gi st h0,<-dI.gi st h1,hv,hl,V.a,dO,aS,jA];simp[hc,nz]);·rename_i q o n;cases hq:eX st.r q with|none=>exact cz.no|some R0=>cases R0 with|var z x=>exact cz.no|sl t xs=>dsimp only;refine cz.uj λhz=>cz.uj λhc=>cz.mk ?_;simp only[az,aG]at hc hz;subst hz;simp only[ef,<-dI.gi st h0,<-dI.gi st h1,hv,hl,V.a,dO,jA,cy.Rw,hq,aS,VR.a,ag,atn];simp[hc]
   |some h=>
    simp only[Cw]at h2;simp only[aS]
    cases hl:l.vv st<;>(try dsimp only)<;>first
     |exact cz.no
     |skip
    cases hh:h.vv st<;>(try dsimp only)<;>first
     |exact cz.no
     |skip
    cases hv:x.vv st<;>(try dsimp only)<;>first
     |exact cz.no
     |skip
    (·refine cz.uj λhz=>cz.uj λhc=>cz.mk ?_;simp only[az,aG]at hc hz;subst hz;simp only[ef,<-dI.gi st h0,<-dI.gi st h1,<-dI.gi st h2,hv,hl,hh,V.a,aS,jA];simp[hc,nz,pO]);·rename_i q o n;cases hq:eX st.r q with|none=>exact cz.no|some R0=>cases R0 with|var z x=>exact cz.no|sl t xs=>dsimp only;refine cz.uj λhz=>cz.uj λhc=>cz.mk ?_;simp only[az,aG]at hc hz;subst hz;simp only[ef,<-dI.gi st h0,<-dI.gi st h1,<-dI.gi st h2,hv,hl,hh,V.a,aS,jA,cy.Rw,hq,VR.a,ag,atn];simp[hc]
 |len x=>
  unfold jE;dsimp only;refine cz.uj λhx=>cz.fk λn hn=>cz.mk ?_;simp only[ef,<-dI.gi st hx,aLH hn,aS,V.a]
 |lens x=>
  unfold jE;dsimp only;refine cz.uj λhx=> ?_
  cases hv:x.vv st<;>(try dsimp only)<;>first
   |exact cz.no
   |skip
  refine cz.mk ?_;simp only[ef,<-dI.gi st hx,hv,V.a]
 |max xs=>
  unfold jE;dsimp only;refine cz.uj λhx=> ?_;have e:=dI.awx st hx;cases hl:xs.map (dI.vv st)with|nil=>exact cz.no|cons a l=>dsimp only;refine cz.V0 λv hv=> ?_;simp only[ef,e,hl,aY,ats (λ_ _ _=>aIA) hv]
 |min xs=>
  unfold jE;dsimp only;refine cz.uj λhx=> ?_;have e:=dI.awx st hx;cases hl:xs.map (dI.vv st)with|nil=>exact cz.no|cons a l=>dsimp only;refine cz.V0 λv hv=> ?_;simp only[ef,e,hl,aY,ats (λ_ _ _=>aIB) hv]
 |mks z bytes zero l c=>
  unfold jE;dsimp only;refine cz.uj λhx=> ?_;simp only[az]at hx;obtain⟨⟨h0,h1⟩,h2⟩:=hx
  cases d with
  |none=>exact cz.no
  |some d=>
   cases hl:l.vv st<;>(try dsimp only)<;>first
    |exact cz.no
    |skip
   cases hc:c.vv st<;>(try dsimp only)<;>first
    |exact cz.no
    |skip
   rename_i kl n kc m;refine cz.fk λt ht=>cz.uj λhz=>cz.fk λz0 hz0=>cz.uj λhn=> ?_;simp only[az,aG]at hz hn;obtain⟨⟨⟨rfl,rfl⟩,rfl⟩,hb⟩:=hz;have e0:zero=t.enc z0:=(A.awi h2).symm.trans (V.Rq hz0);refine cz.mk ?_;simp only[ef,<-dI.gi st h0,<-dI.gi st h1,hl,hc,V.a];(have dE:m<(lim:aw):=by have h1:=hn.1.1;have h2:=hn.1.2;have h3:=hn.2;omega);rw[aQ ⟨hn.1.1,hn.1.2,dE,hb,by rw[e0];exact ET.Im _ _⟩,OO,<-e0]
 |mkf f caps=>
  unfold jE;dsimp only;refine cz.uj λhx=>cz.mk ?_;simp only[az]at hx;have e:=dI.awx st hx.1;have:((caps.map (dI.vv st)).map V.a).all (λx=>nS st.a.r x&& !uu x)=aB:=by rw[JX];refine Tv ?_ hx.2;congr 1;funext x;simp only[Function.comp,afJ,ah1]
  simp only[ef,e,this,aK,V.a,V.gE]
 |call f args=>
  unfold jE;dsimp only;refine cz.uj λhx=> ?_
  cases hv:f.vv st<;>(try dsimp only)<;>first
   |exact cz.no
   |skip
  rename_i g caps;refine cz.ite (λ_=>cz.no) λhio=> ?_;refine cz.seq (F:=YO st args) (G:=λab (k:V->aq R)=>if caps.any Zi then au else BA st.r caps λcs=>vcf D g (ab++cs) λrs _=> if(rs.all Tt|| !((args.map (dI.vv st)).any YR||caps.any Qo))&& !rs.any ah6 then k (U0 (match d with|some d=>d|none=>0) rs)else au) (arC st args) λab has=> ?_;refine cz.ite (λ_=>cz.no) λht=> ?_;refine cz.seq (F:=BA st.r caps) (G:=λcs (k:V->aq R)=>vcf D g (ab++cs) λrs _=> if(rs.all Tt|| !((args.map (dI.vv st)).any YR||caps.any Qo))&& !rs.any ah6 then k (U0 (match d with|some d=>d|none=>0) rs)else au) (YS st caps) λcs oz=> ?_;refine cz.seq (F:=λk:ah V×ah V->aq R=>vcf D g (ab++cs) λa b=>k (a,b)) (G:=λp (k:V->aq R)=> if(p.1.all Tt|| !((args.map (dI.vv st)).any YR||caps.any Qo))&& !p.1.any ah6 then k (U0 (match d with|some d=>d|none=>0) p.1)else au) (aFS D g (ab++cs)) λp hp=> ?_;refine cz.uj λhc=>cz.mk ?_;have e:=dI.awx st has.2;simp only[ef,<-dI.gi st hx,hv,V.a,V.gE];rw[aP (show¬((ioD D g).any id=aB)from hio)];simp only[has.1,ag,alS ah1,aP ht,oz,<-dP,hp];rw[aQ,aww];·cases d<;>rfl
  .simp only[az,mZ]at hc⊢;refine⟨hc.1.imp (λh=> ?_) λh=> ?_,?_⟩;(·rw[bz]at h⊢;intro x hx;obtain⟨v,hv,rfl⟩:=dF.1 hx;exact ayU v (h v hv));(·rw[e,alS awv,alS arG];exact h);·rw[alS aws];exact hc.2
 |ext x i=>
  unfold jE;dsimp only;refine cz.uj λhx=> ?_
  cases hv:x.vv st<;>(try dsimp only)<;>first
   |exact cz.no
   |skip
  refine cz.V0 λv hg=> ?_;simp only[ef,<-dI.gi st hx,hv,V.a,V.gE,cC,hg,aS]
end
end Go.Ab
namespace Go.Ab
def aF1{st:cy}{v w:V}(h:ayS st.r v=ai w):ad9 st.a.r v.a=ai w.a:=by
 unfold ayS at h;split at h
 .rename_i q o n;split at h;·rename_i t xs e;simp only[aC]at h;subst h;simp only[V.a,ad9,cy.Rw,e,aS,VR.a,ahh]
  .cases h
 .rename_i h1;split at h;·rename_i hp;simp only[aC]at h;subst h;(have:∀a:A,(∀q o n,a≠ .view q o n)->ad9 st.a.r a=if ek a then ai a else au:=λa ha=>by unfold ad9;split;(·exact bG rfl (ha _ _ _));·rfl);rw[this,Bz,aQ hp];intro q o n e;cases v<;>simp[V.a]at e;exact h1 _ _ _ rfl
  .cases h
def YP{st:cy}:∀{l m:ah V},HA st.r l=ai m->SK st.a.r (l.map V.a)=ai (m.map V.a)
 | [],m,h=>by simp only[HA,aC]at h;subst h;rfl
 |a::l,m,h=>by
  simp only[HA]at h;split at h;·rename_i x xs e1 e2;simp only[aC]at h;subst h;simp only[aY,SK,aF1 e1,YP e2,ag,aS]
  .cases h
def aGd{q c:ax}{st st1:cy}{v w:V}(h:ayV q c st v=ai (w,st1)):YG q c st.a v.a=ai (w.a,st1.a):=by
 unfold ayV at h;split at h
 .rename_i t xs;split at h;·rename_i hc;simp only[aC,bS]at h;obtain⟨rfl,rfl⟩:=h;simp only[V.a,YG,aQ hc,bf,cy.gG,cy.Es,aS,VR.a]
  .cases h
 .rename_i h1;split at h;·rename_i hp;simp only[aC,bS]at h;obtain⟨rfl,rfl⟩:=h;(have:∀a:A,(∀z xs,a≠ .own z xs)->YG q c st.a a=if ek a then ai (a,st.a)else au:=λa ha=>by unfold YG;split;(·exact bG rfl (ha _ _));·rfl);rw[this,Bz,aQ hp];intro z xs e;cases v<;>simp[V.a]at e;exact h1 _ _ rfl
  .cases h
def aoS{q:ax}:∀{l m:ah V} {c:ax} {st st1:cy},aic q c st l=ai (m,st1)->Ob q c st.a (l.map V.a)=ai (m.map V.a,st1.a)
 | [],m,c,st,st1,h=>by simp only[aic,aC,bS]at h;obtain⟨rfl,rfl⟩:=h;rfl
 |v::l,m,c,st,st1,h=>by
  simp only[aic]at h;split at h;·rename_i x st2 e1;split at h;(·rename_i xs st3 e2;simp only[aC,bS]at h;obtain⟨rfl,rfl⟩:=h;simp only[aY,Ob,aGd e1,ag,aoS e2,aS]);·cases h
  .cases h
def aoR{st st1:cy}{q z:ax}{x:V}(h:afK st q z x=ai st1):vm st.a q z x.a=ai st1.a:=by
 unfold afK at h;split at h
 .rename_i hc;split at h;·rename_i cs st2 e;simp only[aC]at h;subst h;have:=aoS e;rw[cy.gG,cy.Es]at this;simp only[dO]at this;simp only[vm,V.jG,bf,aQ hc,this,aS,cy.gG,cy.Es,VR.a,wC]
  .cases h
 .cases h
def cy.aAy{st st1:cy}{q c j:ax}{w:V}(h:st.ur q c j=ai (w,st1)):st.a.ur q c j=ai (w.a,st1.a):=by
 unfold cy.ur at h;unfold St.ur;rw[cy.a_t,<-atq];split at h
 .rename_i k t xs e;split at h;·rename_i hc;simp only[aC,bS]at h;obtain⟨rfl,rfl⟩:=h;rw[e];simp only[V.a,aQ hc,bf,cy.gG,cy.Es,cy.SJ,aS,VR.a]
  .cases h
 .rename_i s o n e;rw[e];simp only[V.a,cy.Rw,aAx];split at h;·rename_i hc;simp only[aC,bS]at h;obtain⟨rfl,rfl⟩:=h;rw[aQ hc];rfl
  .rename_i hc;rw[aP hc];split at h;(·rename_i st2 e2;split at h;(·rename_i hp;simp only[aC,bS]at h;obtain⟨rfl,rfl⟩:=h;simp only[cy.aya e2,ag,cy.a_t,<-atq,Bz,hp,aK,afH]);·cases h);·cases h
 .rename_i z e;simp only[aC,bS]at h;obtain⟨rfl,rfl⟩:=h;rw[e];rfl
 .rename_i h1 h2 h3;split at h
  .rename_i hp;simp only[aC,bS]at h;obtain⟨rfl,rfl⟩:=h;revert h1 h2 h3 hp;generalize ai1 (iQ st.t gs) j=v;intro h1 h2 h3 hp;have hp':=hp;rw[<-Bz]at hp'
   cases v<;>first
    |exact bG rfl (h1 _ _ _)
    |exact bG rfl (h2 _ _ _)
    |exact bG rfl (h3 _)
    |(simp only[V.a]at hp'⊢;rw[aQ hp'];rfl)
    |(simp[C7]at hp;done)
  .cases h
def cy.afX{q c:ax}:∀{n j:ax} {st st1:cy} {vs:ah V},st.jU q c j n=ai (vs,st1)->st.a.jU q c j n=ai (vs.map V.a,st1.a)
 |0,j,st,st1,vs,h=>by simp only[cy.jU,aC,bS]at h;obtain⟨rfl,rfl⟩:=h;rfl
 |n+1,j,st,st1,vs,h=>by
  simp only[cy.jU]at h;split at h;·rename_i x st2 e1;split at h;(·rename_i xs st3 e2;simp only[aC,bS]at h;obtain⟨rfl,rfl⟩:=h;simp only[St.jU,cy.aAy e1,ag,cy.afX e2,aS,aY]);·cases h
  .cases h
def aFR(e:V)(c n:ax):(atp e c n).a=blank e.a c n:=by simp only[atp,blank,wC,V.jG,dP,pO,nz,OO,V.a]
def aF0{st st1:cy}{d:aq ax}{rs:ah V}(h:ah8 st d rs=ai st1):Xz st.a d (rs.map V.a)=ai st1.a:=by
 unfold ah8 at h;split at h
 .rename_i z x d;split at h;·rename_i st2 e;simp only[aC]at h;subst h;simp only[aY,gJ,V.a,Xz,aoR e,aS,cy.EE]
  .cases h
 .rename_i hn;split at h;·cases h
  .rename_i hi;simp only[aC]at h;subst h;(have:∀(l:ah A) (d:aq ax),(∀z x e,l=[A.iU z [x]]->d=ai e->JW)->Xz st.a d l=if l.any aaD then au else ai (st.a.put d (Ge (d.getD 0) l)):=λl d hl=>by unfold Xz;split;(·exact bG rfl (λh=>hl _ _ _ h rfl));·rfl);rw[this,alS aws,aP hi,cy.EE,aww];(·cases d<;>rfl);·intro z x e h1 h2;subst h2;(rcases rs with _|⟨v,_|⟨w,l⟩⟩<;>simp at h1);(cases v<;>simp[V.a]at h1);exact hn _ _ _ rfl rfl
def arj(r:ah (ax×aq VR))(ns:ah ax)(i:ax):eX (um r ns) i=if ns.contains i then au else eX r i:=by induction r with|nil=>simp[um,eX]|cons p l ih=>simp only[um,aY]at ih⊢;by_cases hi:i=p.1;(·subst hi;by_cases hc:ns.contains p.1;(·simp only[hc,aK,eX]);·simp only[hc,aJ,ar,eX,aK]);·(have:∀v,eX ((p.1,v)::l.map λp=>if ns.contains p.1 then(p.1,au)else p) i=eX (l.map λp=>if ns.contains p.1 then(p.1,au)else p) i:=λv=>by simp only[eX,hi,aJ]);split;(·rw[this];simp only[eX,hi,aJ];exact ih);·rw[show p=(p.1,p.2)from rfl,this];simp only[eX,hi,aJ];exact ih
def aBL(r:ah (ax×aq VR))(ns:ah ax)(i:ax):eX (aoO r ns) i=if ns.contains i then eX r i else au:=by induction r with|nil=>simp[aoO,eX]|cons p l ih=>simp only[aoO,aY]at ih⊢;by_cases hi:i=p.1;(·subst hi;by_cases hc:ns.contains p.1;(·simp only[hc,aK,eX]);·simp only[hc,aJ,ar,eX,aK]);·(have:∀v,eX ((p.1,v)::l.map λp=>if ns.contains p.1 then p else(p.1,au)) i=eX (l.map λp=>if ns.contains p.1 then p else(p.1,au)) i:=λv=>by simp only[eX,hi,aJ]);split;(·rw[show p=(p.1,p.2)from rfl,this];simp only[eX,hi,aJ];exact ih);·rw[this];simp only[eX,hi,aJ];exact ih
def cy.agD(st:cy)(t:ah (ax×V))(ns:ah ax):(cy.mk t (um st.r ns)).a={t:=λi=>(iQ t i).a,r:=less st.a.r ns}:=by refine St.ext' (λi=>rfl) λi=> ?_;simp only[cy.Rw,arj,less];split<;>rfl
def cy.aLl(st:cy)(t:ah (ax×V))(ns:ah ax):(cy.mk t (aoO st.r ns)).a={t:=λi=>(iQ t i).a,r:=only st.a.r ns}:=by refine St.ext' (λi=>rfl) λi=> ?_;simp only[cy.Rw,aBL,only];split<;>rfl
def U3(v:V):fE v.a=yR v:=by cases v<;>rfl
def LB{f:A->ah ax}{g:V->ah ax}(h:∀v,f v.a=g v)(l:ah V):(l.map V.a).flatMap f=l.flatMap g:=by induction l with|nil=>rfl|cons v l ih=>simp only[aY,cr,h,ih]
def CT.LZ(c:CT)(x:c.ty):fE (c.enc x)=[]:=by cases c<;>rfl
def vq.LZ:∀(cs:vq) (x:cs.ty),(cs.enc x).flatMap fE=[]
 |.nil,_=>rfl
 |.cons c cs,x=>by simp only[vq.enc,cr,CT.LZ,vq.LZ cs x.2,cD]
def ET.LZ(t:ET)(x:t.ty):(t.enc x).cells.flatMap fE=[]:=by cases t with|one c=>simp[ET.enc,CT.yX,CT.LZ]|agg cs=>exact vq.LZ cs x
def aoM(st:cy)(v:V):KX st.a.r v.a=afG st.r v:=by
 cases v<;>first|rfl|skip
 rename_i q i c;simp only[V.a,KX,afG,cy.Rw];cases hq:eX st.r q with|none=>rfl|some R=>cases R with|var z x=>simp only[aS,VR.a,VR.names,cr,List.flatMap_nil,cD,V.jG,LB U3]|sl t xs=>simp only[aS,VR.a,VR.names,List.flatMap_map];(have:∀l:ah t.ty,l.flatMap (λx=>(t.enc x).cells.flatMap fE)=[]:=λl=>by induction l with|nil=>rfl|cons x l ih=>rw[cr,ih,ET.LZ];rfl);rw[this]
def aoN(st:cy)(v:V):names st.a.r v.a=JV st.r v:=by
 have h:=aoM st v
 cases v<;>first
  |(simp only[V.a,names,JV,V.gE];exact LB (aoM st) _)
  |exact h
def arE:∀(vs:ah V) (b:ax) (l:ah (ax×V)) (i:ax),iQ (awu b vs++l) i=if b<=i/\i<b+ae vs then asN vs (i-b)else iQ l i
 | [],b,l,i=>by simp only[awu,cJ,bQ];rw[aP (by omega)]
 |v::vs,b,l,i=>by
  simp only[awu,Am,ah5,arE vs (b+1) l i,bl];by_cases h:i=b;·subst h;simp[asN]
  .rw[aP h];by_cases h2:b+1<=i/\i<b+1+ae vs;(·rw[aQ h2,aQ (by omega)];obtain⟨k,hk⟩:∃k,i-b=k+1:=⟨i-b-1,by omega⟩;rw[hk,show i-(b+1)=k from by omega];rfl);·rw[aP h2,aP (by omega)]
def ayN(l:ah (ax×V))(i:ax):iQ (ah3 l) i=if i<gs then iQ l i else .any:=by induction l with|nil=>simp[ah3,iQ]|cons p l ih=>simp only[ah3];split;(·rename_i hp;simp only[iQ,ih];by_cases h:i=p.1;(·subst h;simp[hp]);·simp[h]);·rename_i hp;rw[ih];by_cases h:i<gs;(·(have:i≠p.1:=by omega);simp[h,iQ,this]);·simp[h]
def aq6:∀(l:ah V) (j:ax),ae l<=j->asN l j=.any
 | [],_,_=>rfl
 |v::l,0,h=>by simp at h
 |v::l,j+1,h=>aq6 l j (by simpa using h)
def cy.aEF(st:cy)(vs:ah V):(st.lay vs).a=st.a.lay (vs.map V.a):=by
 refine St.ext' (λi=> ?_) λi=>rfl;simp only[cy.lay,cy.a_t,arE,ayN,St.lay];by_cases h:gs<=i
 .rw[aQ h];by_cases h2:i<gs+ae vs;·rw[aQ ⟨h,h2⟩,ane]
  .rw[aP (by omega),aP (by omega),<-ane,aq6 _ _ (by omega)]
 .rw[aP h,aP (by omega),aQ (by omega)]
def cy.aLn{st st1:cy}{m:aq MT}{j:ax}(h:st.Um m j=ai st1):st1.a=st.a.Um j:=by
 unfold cy.Um at h;split at h
 .rename_i k t xs e;simp only[aC]at h;subst h;have h2:st.a.t (gs+j)=.tok k t.z (xs.map t.enc):=by rw[cy.a_t,e];rfl
  unfold St.Um;rw[h2,cy.Ur,cy.gG,cy.Es,cy.SJ];simp only[V.a,aS,VR.a,bf]
 .rename_i z e;have h2:st.a.t (gs+j)=.lz z:=by rw[cy.a_t,e];rfl
  split at h;·split at h;(·rename_i t hz;subst hz;simp only[aC]at h;subst h;unfold St.Um;rw[h2,cy.Ur,cy.gG,cy.Es];rfl);·cases h
  .cases h
 .rename_i h1 h2;simp only[aC]at h;subst h;unfold St.Um;rw[cy.a_t]
  cases hv:iQ st.t (gs+j)<;>first
   |rfl
   |exact bG hv (h1 _ _ _)
   |exact bG hv (h2 _)
def cy.aeT:∀{n j:ax} {bs:ah aW} {ms:ah MT} {st st1:cy},st.jt bs ms j n=ai st1->st.a.jt bs j n=ai st1.a
 |0,j,bs,ms,st,st1,h=>by unfold cy.jt at h;simp only[aC]at h;subst h;unfold St.jt;rfl
 |n+1,j,bs,ms,st,st1,h=>by
  rcases bs with _|⟨b,bs⟩
  .simp only[cy.jt]at h;split at h;(·rename_i st2 e;simp only[St.jt,cy.a_t,V.jG,bf,cy.asV e,ag];exact cy.aeT h);·cases h
  .cases b;(·simp only[cy.jt]at h;split at h;(·rename_i st2 e;simp only[St.jt,cy.a_t,V.jG,bf,cy.asV e,ag];exact cy.aeT h);·cases h);·simp only[cy.jt]at h;split at h;(·rename_i st2 e;simp only[St.jt,<-cy.aLn e];exact cy.aeT h);·cases h
section
variable {R:Type} {D:ah (ax×Callee)} {H:ah (ax×ET)}
def aCg(st:cy)(v:V):cz (R:=R) (λk:ax×V->aq R=>YQ st v λq x=>k (q,x)) λp=>QW st.a v.a=ai (p.1,p.2.a):=by
 have no:(∀k:ax->V->aq R,YQ st v k=au)->cz (R:=R) (λk:ax×V->aq R=>YQ st v λq x=>k (q,x)) λp=>QW st.a v.a=ai (p.1,p.2.a):=λh k r hk=>by dsimp only at hk;rw[h]at hk;cases hk
 cases v with|view q o n=>(cases o with|succ o=>exact no λ_=>rfl|zero=>(have e:(λk:ax×V->aq R=>YQ st (.view q 0 n) λq x=>k (q,x))=λk=>match eX st.r q with|some (.sl t xs)=>if ao (n=ae xs)then k (q,.l7 t xs)else au|_=>au:=rfl);rw[e];cases hq:eX st.r q with|none=>exact cz.no|some R0=>cases R0 with|var z x=>exact cz.no|sl t xs=>refine cz.uj λhn=>cz.mk (x:=(q,V.l7 t xs)) ?_;simp only[aG]at hn;simp only[V.a,QW,cy.Rw,hq,aS,VR.a,ag,bf,hn,lM,aK])|loc q i c=>(cases i with|succ o=>exact no λ_=>rfl|zero=>cases c with|succ o=>exact no λ_=>rfl|zero=>(have e:(λk:ax×V->aq R=>YQ st (.loc q 0 0) λq x=>k (q,x))=λk=>match eX st.r q with|some (.var z x)=>fk (HA st.r x.cells) λcs=>k (q,.iU z (nw x cs))|_=>au:=rfl);rw[e];cases hq:eX st.r q with|none=>exact cz.no|some R0=>cases R0 with|sl t xs=>exact cz.no|var z x=>refine cz.fk λcs oz=>cz.mk (x:=(q,V.iU z (nw x cs))) ?_;simp only[V.a,QW,cy.Rw,hq,aS,VR.a,ag,V.jG,YP oz,wC])|_=>exact no λ_=>rfl
def aia(st:cy):∀(l:ah V) (bs:ah aW),cz (R:=R) (λk:ah (aq V)×ah ax×ah ax->aq R=>C6 st bs l λa b c=>k (a,b,c)) λp=>xe st.a bs (l.map V.a)=ai (p.1.map (ay2 V.a),p.2.1,p.2.2)
 | [],bs=>by
  have e:(λk:ah (aq V)×ah ax×ah ax->aq R=>C6 st bs [] λa b c=>k (a,b,c))=λk=>k ([],[],[]):=by funext k;unfold C6;rfl
  rw[e];refine cz.mk ?_;unfold xe;rfl
 |v::l,bs=>by
  have gen:∀bs:ah aW,(∀x,bs≠aB::x)->cz (R:=R) (λk:ah (aq V)×ah ax×ah ax->aq R=>C6 st bs (v::l) λa b c=>k (a,b,c)) λp=>xe st.a bs ((v::l).map V.a)=ai (p.1.map (ay2 V.a),p.2.1,p.2.2):=by intro bs hb;(have e:(λk:ah (aq V)×ah ax×ah ax->aq R=>C6 st bs (v::l) λa b c=>k (a,b,c))=λk=>C6 st bs.tail l λxs qs ns=>k (au::xs,qs,ns):=by funext k;(rcases bs with _|⟨b,bs⟩);(·rfl);·cases b;(·rfl);·exact bG rfl (hb _));rw[e];refine cz.seq (F:=λk:ah (aq V)×ah ax×ah ax->aq R=>C6 st bs.tail l λa b c=>k (a,b,c)) (G:=λp (k:ah (aq V)×ah ax×ah ax->aq R)=>k (au::p.1,p.2.1,p.2.2)) (aia st l bs.tail) λp hp=>cz.mk ?_;(have e2:xe st.a bs ((v::l).map V.a)=(xe st.a bs.tail (l.map V.a)).map λ(xs,qs,ns)=>(au::xs,qs,ns):=by(rcases bs with _|⟨b,bs⟩);(·rfl);·cases b;(·rfl);·exact bG rfl (hb _));rw[e2,hp];rfl
  rcases bs with _|⟨b,bs⟩
  .exact gen _ (by intro x h;cases h)
  .cases b;(·exact gen _ (by intro x h;cases h));·have e:(λk:ah (aq V)×ah ax×ah ax->aq R=>C6 st (aB::bs) (v::l) λa b c=>k (a,b,c))=λk=>YQ st v λq x=>C6 st bs l λxs qs ns=>k (ai x::xs,q::qs,JV st.r v++ns):=rfl;rw[e];refine cz.seq (F:=λk:ax×V->aq R=>YQ st v λq x=>k (q,x)) (G:=λp (k:ah (aq V)×ah ax×ah ax->aq R)=>C6 st bs l λxs qs ns=>k (ai p.2::xs,p.1::qs,JV st.r v++ns)) (aCg st v) λp hp=> ?_;refine cz.seq (F:=λk:ah (aq V)×ah ax×ah ax->aq R=>C6 st bs l λa b c=>k (a,b,c)) (G:=λr (k:ah (aq V)×ah ax×ah ax->aq R)=>k (ai p.2::r.1,p.1::r.2.1,JV st.r v++r.2.2)) (aia st l bs) λr hr=>cz.mk ?_;simp only[aY,xe,hp,ag,hr,aS,aoN]
def ah2(st:cy):∀(l:ah V) (xs:ah (aq V)),cz (R:=R) (Hw st.r xs l) λab=>OR st.a (xs.map (ay2 V.a)) (l.map V.a)=ai (ab.map V.a)
 | [],[]=>cz.mk (x:=[]) rfl
 | [],au::_=>cz.no
 | [],ai _::_=>cz.no
 |_::_,[]=>cz.no
 |v::l,ai x::xs=>by have e:Hw (R:=R) st.r (ai x::xs) (v::l)=λk=>Hw st.r xs l λr=>k (x::r):=rfl;rw[e];refine cz.seq (F:=Hw st.r xs l) (G:=λr (k:ah V->aq R)=>k (x::r)) (ah2 st l xs) λr hr=>cz.mk ?_;simp only[aY,aS,OR,hr]
 |v::l,au::xs=>by
  have e:Hw (R:=R) st.r (au::xs) (v::l)=λk=>if YR v then au else Ai st.r v λx=>Hw st.r xs l λr=>k (x::r):=rfl
  rw[e];refine cz.ite (λ_=>cz.no) λho=> ?_;refine cz.seq (F:=Ai st.r v) (G:=λx (k:ah V->aq R)=>Hw st.r xs l λr=>k (x::r)) (acF st v) λx hx=> ?_;refine cz.seq (F:=Hw st.r xs l) (G:=λr (k:ah V->aq R)=>k (x::r)) (ah2 st l xs) λr hr=>cz.mk ?_;simp only[aY,dO,OR,awv,aP ho,hx,ag,hr,aS]
def Zj:∀{qs:ah ax} {l:ah V} {st st1:cy},vn st qs l=ai st1->sr st.a qs (l.map V.a)=ai st1.a
 | [],[],st,st1,h=>by simp only[vn,aC]at h;subst h;rfl
 | [],_::_,st,st1,h=>by simp[vn]at h
 |q::qs,[],st,st1,h=>by simp[vn]at h
 |q::qs,v::l,st,st1,h=>by
  cases v<;>first
   |(simp[vn]at h;done)
   |skip
  .simp only[vn]at h;have:=Zj h;simp only[aY,V.a,sr];rw[cy.gG]at this;exact this
  .rename_i z x;simp only[vn]at h;split at h;(·rename_i z0 x0 e;have:=Zj h;simp only[aY,V.a,sr,cy.Rw,e,aS,VR.a,ag];rw[<-this];congr 1;refine St.ext' (λi=>rfl) λi=> ?_;simp only[cy.Rw,ari,arj,V.jG,LB U3];split;(·simp only[aS,VR.a,wC,Ax];rfl);·split<;>rfl);·cases h
  .rename_i t xs;simp only[vn]at h;have:=Zj h;simp only[aY,V.a,sr];rw[cy.gG]at this;exact this
def Qp:∀{qs:ah ax} {l:ah V} {st st1:cy},lZ st qs l=ai st1->lK st.a qs (l.map V.a)=ai st1.a
 | [],[],st,st1,h=>by simp only[lZ,aC]at h;subst h;rfl
 | [],_::_,st,st1,h=>by simp[lZ]at h
 |q::qs,[],st,st1,h=>by simp[lZ]at h
 |q::qs,v::l,st,st1,h=>by
  cases v<;>first
   |(simp[lZ]at h;done)
   |skip
  .simp only[lZ]at h;have:=Qp h;simp only[aY,V.a,lK,this]
  .rename_i z x;simp only[lZ]at h;split at h;(·rename_i hl;split at h;(·rename_i cs st2 e;have:=Qp h;rw[cy.gG]at this;simp only[aS,VR.a,wC]at this;simp only[aY,V.a,lK,V.jG,bf,aQ hl,aoS e,ag,this]);·cases h);·cases h
  .rename_i t xs;simp only[lZ]at h;have:=Qp h;simp only[aY,V.a,lK,this]
def awq{z:ax}{t:ET}(hz:t.z=z):∀{parts:ah (ax×dI)} {xs ys:ah t.ty} {st st1:cy},ah4 st t xs parts=ai (ys,st1)->eN.Ve st.a z (xs.map t.enc) parts=ai (ys.map t.enc,st1.a)
 | [],xs,ys,st,st1,h=>by simp only[ah4,aC,bS]at h;obtain⟨rfl,rfl⟩:=h;rfl
 |(i,x)::l,xs,ys,st,st1,h=>by
  simp only[ah4]at h;split at h;·rename_i hx;split at h;(·rename_i v st2 ev;split at h;(·rename_i y ey;split at h;(·rename_i hi;have:=awq hz h;rw[aqj]at this;simp only[eN.Ve,<-dI.gi st hx,cy.aJy ev,ag,V.Rq ey,ET.Im,bf,hz,hi,lM,aK,this]);·cases h);·cases h);·cases h
  .cases h
end
end Go.Ab
namespace Go.Ab
section
variable {R:Type} {D:ah (ax×Callee)} {H:ah (ax×ET)}
def aCi(d:aq ax)(st:cy)(o:O):cz (R:=R) (Rt D H d st o) λst'=>eN (cfD D) (ioD D) d st.a o=ai st'.a:=by
 cases o with
 |asg x=>
  unfold Rt;dsimp only;refine cz.uj λhx=> ?_;have gen:∀v,x.vv st=v->(∀n t xs,v≠ .tok n t xs)->(∀z,v≠ .lz z)->cz (R:=R) (λk=>k (st.put d v)) λst'=>eN (cfD D) (ioD D) d st.a (.asg x)=ai st'.a:=by intro v hv h1 h2;refine cz.mk ?_;simp only[eN,<-dI.gi st hx,hv];split;(·rename_i e;cases v<;>simp[V.a]at e;exact bG rfl (h1 _ _ _));(·rename_i e;cases v<;>simp[V.a]at e;exact bG rfl (h2 _));·rw[cy.EE]
  cases d with
  |none=>
   dsimp only;refine cz.mk ?_;simp only[eN,<-dI.gi st hx,cy.EE]
  |some d=>
   cases hv:x.vv st<;>(try dsimp only)<;>first
    |exact gen _ hv (by intros;simp) (by intros;simp)
    |skip
   (·rename_i z;refine cz.fk λt ht=>cz.uj λhc=>cz.mk ?_;simp only[az,aG]at hc;obtain⟨rfl,hd⟩:=hc;simp only[eN,<-dI.gi st hx,hv,V.a,aQ hd,cy.EE,cy.gG,cy.Es,aS,VR.a,gJ,bQ]);·rename_i n t xs;refine cz.uj λhd=>cz.mk ?_;simp only[eN,<-dI.gi st hx,hv,V.a,aQ hd,cy.EE,cy.gG,cy.Es,cy.SJ,aS,VR.a,bf]
 |alloc z zero=>
  unfold Rt;dsimp only;cases d with|none=>exact cz.no|some d=>dsimp only;refine cz.uj λhc=>cz.mk ?_;simp only[az,aG]at hc;obtain⟨⟨⟨h1,h2⟩,h3⟩,h4⟩:=hc;have e:=A.awi h1;(have hl:ae zero.cells=z:=by rw[<-e,V.jG,bf];exact h2);(have hp:zero.cells.all ek=aB:=by rw[<-e,V.jG,auf Bz];exact h4);simp only[eN,hl,h3,hp,lM,aK,cy.EE,cy.gG,cy.Es,aS,VR.a,V.a,e]
 |box z x=>
  unfold Rt;dsimp only;refine cz.uj λhx=> ?_;cases d with|none=>exact cz.no|some d=>dsimp only;refine cz.uj λhc=> ?_;simp only[az,aG]at hc;obtain⟨⟨⟨h1,h2⟩,h3⟩,h4⟩:=hc;cases hab:(((st.iW gs (x.vv st)).kill d).bj d au).jU d 0 0 z with|none=>exact cz.no|some p=>obtain⟨cs,st1⟩:=p;refine cz.mk ?_;have:=cy.afX hab;simp only[cy.gG,cy.Es,cy.Ur,dO]at this;simp only[eN,<-dI.gi st hx,V.jG,bf,auf (afJ st),h1,h2,h3,h4,lM,aK,this,aS,cy.EE,cy.gG,cy.Es,cy.Ur,VR.a,V.a,wC]
 |sto n a x=>
  unfold Rt;dsimp only;refine cz.uj λhx=>cz.uj λhn=> ?_;simp only[az]at hx
  cases hv:a.vv st<;>(try dsimp only)<;>first
   |exact cz.no
   |skip
  rename_i q i c;cases hq:eX st.r q with|none=>exact cz.no|some R0=>cases R0 with|var z e=>(cases i with|succ i=>exact cz.no|zero=>dsimp only;refine cz.uj λhc=> ?_;simp only[az,aG]at hc;obtain⟨⟨⟨h1,h2⟩,h3⟩,h4⟩:=hc;cases hab:((st.iW gs (x.vv st)).bj q (ai (.var z (atp e c n)))).jU q c 0 n with|none=>exact cz.no|some p=>obtain⟨vs,st1⟩:=p;refine cz.mk ?_;have:=cy.afX hab;simp only[cy.gG,cy.Ur,aS,VR.a,aFR]at this;simp only[eN,<-dI.gi st hx.1,<-dI.gi st hx.2,hv,V.a,cy.Rw,hq,aS,VR.a,ag];rw[V.jG,bf,aQ hn,V.jG,bf,auf (afJ st),aQ ⟨h1,h2,h3,h4⟩,this];simp only[aS,cy.EE,cy.gG,cy.Ur,VR.a,wC,dP,pO,nz,V.a])|sl t0 xs0=>cases hp:st.pin (x.vv st)with|none=>exact cz.no|some p=>obtain⟨v,st1⟩:=p;dsimp only;refine cz.uj λhvn=> ?_;cases hq1:eX st1.r q with|none=>exact cz.no|some R1=>cases R1 with|var z e=>exact cz.no|sl t xs=>refine cz.bind λe he=>cz.fk λcs oz=>cz.fk λy hy=>cz.mk ?_;have h1:=ai2 oz;have h2:=V.Rq hy;simp only[eN,<-dI.gi st hx.1,<-dI.gi st hx.2,hv,V.a,cy.Rw,hq,aS,VR.a,ag];rw[V.jG,bf,aQ hn,cy.aJy hp];simp only[ag,V.jG,bf,aQ hvn,cy.Rw,hq1,aS,VR.a,cC,he];rw[ET.aib,h1];simp only[aS,cy.EE,cy.gG,VR.a,V.a,aqj,<-h2,wC,ET.v_a]
 |app z bytes s x=>
  unfold Rt;dsimp only;refine cz.uj λhx=> ?_;simp only[az]at hx
  cases d with
  |none=>exact cz.no
  |some d=>
   dsimp only;refine cz.fk λt ht=>cz.fk λys OU=>cz.uj λhz=> ?_;simp only[az,aG]at hz;obtain⟨rfl,hb⟩:=hz;have hy:=awo OU;have hf:(ys.map t.enc).all Vf=aB:=by rw[JX,bz];exactλy _=>ET.auA t y
   cases hv:s.vv st<;>(try dsimp only)<;>first
    |exact cz.no
    |skip
   (·refine cz.uj λh1=>cz.uj λh2=>cz.mk ?_;simp only[aG]at h2;simp only[eN,<-dI.gi st hx.1,<-dI.gi st hx.2,hy,ag,hv,V.a,h1,h2,hb,hf,bf,lM,aK,cy.EE]);(·rename_i n u xs;refine cz.fk λxs' LD=>cz.uj λh2=>cz.mk ?_;obtain⟨rfl,LD⟩:=DO LD;cases LD;simp only[aG]at h2;simp only[eN,<-dI.gi st hx.1,<-dI.gi st hx.2,hy,ag,hv,V.a,h2,hb,hf,bf,lM,aK,cy.EE,cy.SJ,dP]);·rename_i q o n;cases hq:eX st.r q with|none=>exact cz.no|some R0=>cases R0 with|var z e=>exact cz.no|sl u xs=>dsimp only;refine cz.fk λxs' LD=>cz.uj λh2=>cz.mk ?_;obtain⟨rfl,LD⟩:=DO LD;cases LD;simp only[aG]at h2;simp only[eN,<-dI.gi st hx.1,<-dI.gi st hx.2,hy,ag,hv,V.a,cy.Rw,hq,aS,VR.a,h2,hb,hf,bf,lM,aK,cy.EE,cy.gG,cy.Es,dP,ahh,dO]
 |call f args=>
  unfold Rt;dsimp only;refine cz.uj λhx=> ?_;simp only[az]at hx
  cases hv:f.vv st<;>(try dsimp only)<;>first
   |exact cz.no
   |skip
  rename_i g caps;refine cz.fk λst1 aSu=> ?_
  refine cz.seq (F:=λk:ah (aq V)×ah ax×ah ax->aq R=>C6 st1 (ayO D g) ((Ay (ae args+ae caps)).map λj=>iQ st1.t (gs+j)) λa b c=>k (a,b,c))
   (G:=λp (k:cy->aq R)=>if decide p.2.2.Nodup then
        Hw (um st1.r p.2.2) p.1 ((Ay (ae args+ae caps)).map λj=>iQ st1.t (gs+j)) λab=>vcf D g ab λres outs=>
         fk (vn (st1.lay []) p.2.1 outs) λst2=>fk (lZ st2 p.2.1 outs) λst3=>fk (ah8 st3 d res) k
      else au) (aia st1 _ _) λp hp=> ?_
  refine cz.uj λJg=> ?_
  refine cz.seq (F:=Hw (cy.mk st1.t (um st1.r p.2.2)).r p.1 ((Ay (ae args+ae caps)).map λj=>iQ st1.t (gs+j)))
   (G:=λab (k:cy->aq R)=>vcf D g ab λres outs=>
        fk (vn (st1.lay []) p.2.1 outs) λst2=>fk (lZ st2 p.2.1 outs) λst3=>fk (ah8 st3 d res) k) (ah2 _ _ _) λab has=> ?_
  refine cz.seq (F:=λk:ah V×ah V->aq R=>vcf D g ab λa b=>k (a,b)) (G:=λr (k:cy->aq R)=>fk (vn (st1.lay []) p.2.1 r.2) λst2=>fk (lZ st2 p.2.1 r.2) λst3=>fk (ah8 st3 d r.1) k) (aFS D g ab) λr hr=> ?_;refine cz.fk λst2 h2=>cz.fk λst3 h3=>cz.V0 λst4 h4=> ?_;have e:=dI.awx st hx.2;have e1:=cy.aeT aSu;rw[cy.aEF,dP,<-e]at e1;simp only[eN,<-dI.gi st hx.1,hv,V.a,V.gE,bf];rw[show ioD D g=ayO D g from rfl,e1];simp only[ag];have e2:(Ay (ae args+ae caps)).map (λj=>st1.a.t (gs+j))=((Ay (ae args+ae caps)).map λj=>iQ st1.t (gs+j)).map V.a:=by rw[Ax];rfl
  rw[e2,hp];simp only[ag];rw[aQ Jg];have e3:=has;rw[cy.agD]at e3;rw[show({st1.a with r:=less st1.a.r p.2.2}:St)={t:=λi=>(iQ st1.t i).a,r:=less st1.a.r p.2.2}from rfl,e3];simp only[ag];rw[hr];simp only[ag,auK];have e4:=Zj h2;rw[cy.aEF]at e4;simp only[gJ]at e4;rw[e4];simp only[ag];rw[Qp h3];simp only[ag];exact aF0 h4
 |bsl z zero n parts=>
  unfold Rt;dsimp only;cases d with|none=>exact cz.no|some d=>dsimp only;refine cz.fk λt ht=>cz.uj λhc=>cz.fk λz0 hz0=>cz.fk λp hp=>cz.mk ?_;simp only[az,aG]at hc;obtain⟨⟨h1,h2⟩,h3⟩:=hc;have e0:zero=t.enc z0:=(A.awi h1).symm.trans (V.Rq hz0);have:=awq h2 (show ah4 st t (bK n z0) parts=ai (p.1,p.2)from hp);rw[OO,<-e0]at this;simp only[eN,h3,Ag,this,aS,cy.EE,V.a];rw[aQ (by rw[e0,<-h2];exact ET.Im _ _),h2]
 |_=>unfold Rt;exact cz.no
def aGa(st:cy)(o:Op):cz (R:=R) (aa6 D H st o) λst'=>step (cfD D) (ioD D) st.a o=ai st'.a:=by
 unfold aa6;refine cz.ite (λh=> ?_) λh=> ?_;·refine cz.uj λhs=>(aCi o.d st o.o).od λst' hs'=> ?_;rw[step,aQ h,aQ hs,hs']
 .refine cz.seq (F:=jE D H o.d st o.o) (G:=λv (k:cy->aq R)=>k (st.put o.d v)) (aCc o.d st o.o) λv hv=>cz.mk ?_;rw[step,aP h,hv,aS,cy.EE]
def art:∀(l:ah Op) (j:ax),ahq l j=af (l[j]?) (·.d)
 | [],_=>rfl
 |o::_,0=>rfl
 |_::l,j+1=>by simpa[ahq]using art l j
def arb{st:cy}{d:ax}{v:V}(h:(iQ st.t d).a=v.a):(st.iW d v).a=st.a:=by
 rw[cy.Ur];refine St.ext' (λi=> ?_) λi=>rfl;simp only[St.iW];split;·rename_i e;subst e;rw[cy.a_t,h]
 .rfl
def U4(all:ah Op):∀(l:ah Op) (st:cy),cz (R:=R) (ny D H all l st) λst'=>yB (cfD D) (ioD D) all l st.a=ai st'.a
 | [],st=>cz.mk (x:=st) rfl
 |o::l,st=>by
  have stp:∀s:cy,guardOf all s.a o.g=ai aB->cz (R:=R) (λk=>aa6 D H s o λst'=>ny D H all l st' k) λst'=>yB (cfD D) (ioD D) all (o::l) s.a=ai st'.a:=by intro s hg;refine cz.seq (F:=aa6 D H s o) (G:=λst' (k:cy->aq R)=>ny D H all l st' k) (aGa s o) λst' hs=> ?_;refine(U4 all l st').od λs2 h2=> ?_;simp only[yB,hg,hs,ag,h2]
  have skp:∀s:cy,guardOf all s.a o.g=ai aA->cz (R:=R) (λk=>ny D H all l (s.put o.d .undef) k) λst'=>yB (cfD D) (ioD D) all (o::l) s.a=ai st'.a:=by intro s hg;refine(U4 all l (s.put o.d .undef)).od λs2 h2=> ?_;rw[cy.EE]at h2;simp only[yB,hg];exact h2
  have e:ny (R:=R) D H all (o::l) st=λk=>match o.g with
   |none=>aa6 D H st o λst'=>ny D H all l st' k
   |some (j,vp)=>
    match ahq all j with
    |some d=>
     (match iQ st.t d with
      |.bool b=>
       if b then
        (if vp then aa6 D H (st.iW d (.bool aB)) o λst'=>ny D H all l st' k else ny D H all l ((st.iW d (.bool aB)).put o.d .undef) k)
       else
        (if vp then ny D H all l ((st.iW d (.bool aA)).put o.d .undef) k else aa6 D H (st.iW d (.bool aA)) o λst'=>ny D H all l st' k)
      |.undef=>ny D H all l (st.put o.d .undef) k
      |_=>au)
    |none=>au:=rfl
  rw[e]
  cases hg:o.g with
  |none=>exact stp st (by rw[hg];rfl)
  |some p=>
   obtain⟨j,vp⟩:=p;dsimp only
   cases hs:ahq all j with
   |none=>exact cz.no
   |some d=>
    dsimp only;have hsl:af (all[j]?) (·.d)=ai d:=by rw[<-art,hs]
    cases hv:iQ st.t d<;>(try dsimp only)<;>first
     |exact cz.no
     |skip
    (·exact skp st (by rw[hg];simp only[guardOf,hsl,cy.a_t,hv,V.a]));·rename_i b;(have hgd:∀c:aW,b=c->guardOf all (st.iW d (.bool c)).a o.g=ai (c==vp):=λc hc=>by rw[arb (by rw[hv,hc]),hg];simp only[guardOf,hsl,cy.a_t,hv,V.a,hc]);have same:∀c:aW,b=c->(st.iW d (.bool c)).a=st.a:=λc hc=>arb (by rw[hv,hc]);refine cz.ite (λhb=> ?_) λhb=> ?_;(·rw[<-same aB hb];refine cz.ite (λhw=> ?_) λhw=> ?_;(·exact stp _ (by rw[hgd aB hb,hw];rfl));·exact skp _ (by rw[hgd aB hb];simp at hw;rw[hw];rfl));·simp only[aJJ]at hb;rw[<-same aA hb];refine cz.ite (λhw=> ?_) λhw=> ?_;(·exact skp _ (by rw[hgd aA hb,hw];rfl));·exact stp _ (by rw[hgd aA hb];simp at hw;rw[hw];rfl)
def aLF(v:V):(aO0 v).a=fz1 v.a:=by cases v<;>rfl
def aCd(f:ax->V)(l:ah ax)(i:ax):iQ (l.map λj=>(j,f j)) i=if i∈l then f i else .any:=by induction l with|nil=>simp[iQ]|cons j l ih=>simp only[aY,iQ,ih];by_cases h:i=j;(·subst h;simp);·simp[h]
def aBK(f:ax->aq VR)(l:ah ax)(i:ax):eX (l.map λj=>(j,f j)) i=if i∈l then f i else au:=by induction l with|nil=>simp[eX]|cons j l ih=>simp only[aY,eX,ih];by_cases h:i=j;(·subst h;simp);·simp[h]
def awd(f:ax->A):∀(l:ah ax) (i:ax),tab (l.map λj=>(j,f j)) i=if i∈l then f i else .any
 | [],i=>rfl
 |j::l,i=>by
  have ih:=awd f l i;simp only[tab,aY,aph]at ih⊢;by_cases h:i=j;·subst h;simp
  ·(have:(i==j)=aA:=by simpa using h);simp only[this];rw[ih];simp[h]
def arn(r:ax->aq eO):∀(l:ah ax) (i:ax),apR (l.filterMap λj=>(r j).map λR=>(j,R)) i=if i∈l then r i else au
 | [],i=>rfl
 |j::l,i=>by(have ih:=arn r l i;simp only[afT];cases hj:r j with|none=>simp only[dO];rw[ih];by_cases h:i=j;(·subst h;simp[hj]);·simp[h]|some R'=>simp only[aS,apR,aph]at ih⊢;by_cases h:i=j;(·subst h;simp[hj]);·(have:(i==j)=aA:=by simpa using h);simp only[this];rw[ih];simp[h])
def cy.avz{R:Type}(H:ah (ax×ET))(st:cy)(n:ax):(∀k:cy->aq R,st.PX H n k=au)\/∃st',(∀k:cy->aq R,st.PX H n k=k st')/\st'.a=st.a.PX n:=by
 unfold cy.PX;by_cases RY:6000000<=n
 .simp only[aQ RY];split
  .rename_i z x hR;by_cases hp:x.cells.all C7=aB
   .simp only[hp,aK];refine .inr ⟨_,λ_=>rfl,?_⟩;(have hRa:st.a.r (n-6000000)=ai ⟨aB,z,[x.a]⟩:=by rw[cy.Rw,hR];rfl);(have hpa:x.a.cells.all ek=aB:=by rw[V.jG,auf Bz];exact hp);unfold St.PX;rw[aQ RY];simp only[St.alG,hRa,hpa,aK]
    rw[cy.gG,st.aqW (f:=Hz (atv (n-6000000) x.cells)) (g:=gn (Od (n-6000000) x.a.cells)) (Of λv=>by
     cases v<;>first
      |rfl
      |(simp only[atv,V.a,Od]
        split
        .split
         .simp only[V.a,V.jG,V.gE]
         .rfl
        .rfl)) rfl]
    rfl
   .simp only[hp,aJ,ar];exact .inl λ_=>trivial
  .exact .inl λ_=>rfl
 simp only[aP RY];by_cases auR:5000000<=n;·simp only[aQ auR];cases hp:st.KY (n-5000000) 0 with|none=>exact .inl λ_=>rfl|some s=>exact .inr ⟨s,λ_=>rfl,by unfold St.PX;rw[aP RY,aQ auR,cy.aya hp]⟩
 simp only[aP auR];split;rotate_left;·exact .inl λ_=>rfl
 rename_i z cs hR;have hRa:st.a.r (n/1000-1)=ai ⟨aB,z,[.agg (cs.map V.a)]⟩:=by rw[cy.Rw,hR];simp only[aS,VR.a,V.a,V.gE]
 split
 .rename_i z1 hc;have hca:(cs.map V.a)[n%1000]? =ai (.lz z1):=by rw[cC,hc];rfl
  by_cases gF:(ao (1000<=n)&&(eX st.r n).isNone)=aB;·simp only[gF,aK];cases hh:Zv H n with|none=>exact .inl λ_=>rfl|some t=>simp only[fk];by_cases hz:t.z=z1;(·simp only[hz,aK];refine .inr ⟨_,λ_=>rfl,?_⟩;simp only[az,aG]at gF;(have hnn:(st.a.r n).isNone=aB:=by rw[cy.Rw];cases e:eX st.r n with|none=>rfl|some R=>rw[e]at gF;simp at gF);unfold St.PX;rw[aP RY,aP auR,hRa];simp only[hca];rw[aQ ⟨gF.1,hnn⟩,cy.gG,cy.gG,cy.Es];simp only[aS,VR.a,V.a,V.gE,aqj,gJ,hz,bQ]);·simp only[hz,aJ];exact .inl λ_=>trivial
  .simp only[gF,aJ,ar];exact .inl λ_=>trivial
 .rename_i r off l hc;have hca:(cs.map V.a)[n%1000]? =ai (.view r off l):=by rw[cC,hc];rfl
  refine .inr ⟨st,λ_=>rfl,?_⟩;unfold St.PX;rw[aP RY,aP auR,hRa];simp only[hca]
 .exact .inl λ_=>rfl
def cy.anT(st:cy)(fI j5:ah ax):(st.restrict fI j5).a=st.a.restrict fI j5:=by
 refine St.ext' (λi=> ?_) λi=> ?_
 .have h:=awd (λi=>fz (st.a.t i)) fI i;refine Tv ?_ (show(if i∈fI then fz (st.a.t i)else .any)=(st.a.restrict fI j5).t i from h.symm);rw[cy.a_t,show iQ (st.restrict fI j5).t i=if i∈fI then vfz (iQ st.t i)else .any from aCd (λi=>vfz (iQ st.t i)) fI i];split;·exact Of aLF _
  .rfl
 .have h:=arn st.a.r j5 i;refine Tv ?_ (show(if i∈j5 then st.a.r i else au)=(st.a.restrict fI j5).r i from h.symm);rw[cy.Rw,show eX (st.restrict fI j5).r i=if i∈j5 then eX st.r i else au from aBK (λi=>eX st.r i) j5 i];split<;>rfl
end
end Go.Ab
namespace Go.Ab
section
variable {R:Type} {D:ah (ax×Callee)} {H:ah (ax×ET)} {leave:cy->aq R}
inductive To(D:ah (ax×Callee))(H:ah (ax×ET))(leave:cy->aq R)(s:ah Fr)(st:cy):Type
 |g (s':ah Fr) (st':cy) (h:∀G N,tf D H leave G N s st=G s' st')
 |n (s':ah Fr) (st':cy) (h:∀G N,tf D H leave G N s st=N s' st')
 |e (h:∀G N,tf D H leave G N s st=leave st)
theorem agE{G N:ah Fr->cy->aq R}{s:ah Fr}{st:cy}{r:R}(h:tf D H leave G N s st=ai r):Nonempty (To D H leave s st):=by
 cases s with
 |nil=>exact⟨.e λ_ _=>rfl⟩
 |cons f s=>
  cases f with
  |e i=>exact⟨.g s st λ_ _=>rfl⟩
  |l b=>exact⟨.g (.c b::.l b::s) st λ_ _=>rfl⟩
  |c c=>
   cases c with
   |stop=>simp[tf]at h
   |skip=>exact⟨.g s st λ_ _=>rfl⟩
   |reg d ops fI j5=>
    have hF:=U4 (R:=R) (D:=D) (H:=H) ops (arr d ops) st;obtain⟨st',_,_,h3⟩:=hF _ r (show ny D H ops (arr d ops) st (λst'=>G s (st'.restrict fI j5))=ai r from h);exact⟨.g s (st'.restrict fI j5) λG' _=>h3 _⟩
   |seq a b=>exact⟨.g (.c a::.c b::s) st λ_ _=>rfl⟩
   |cond c a b=>
    by_cases hc:c.ok=aB
    .cases hv:c.vv st<;>first
      |(simp[tf,hc,hv]at h;done)
      |skip
     rename_i t;cases t;(·exact⟨.g (.c b::s) st λG' N'=>by simp[tf,hc,hv]⟩);·exact⟨.g (.c a::s) st λG' N'=>by simp[tf,hc,hv]⟩
    .simp[tf,hc]at h
   |block id b=>exact⟨.g (.c b::.e id::s) st λ_ _=>rfl⟩
   |loop b=>exact⟨.g (.c b::.l b::s) st λ_ _=>rfl⟩
   |exit id=>
    cases hu:unwind id s with|none=>simp[tf,hu,fk]at h|some s'=>exact⟨.g s' st λG' N'=>by simp[tf,hu,fk]⟩
   |ret=>exact⟨.e λ_ _=>rfl⟩
   |opn i b=>
    (rcases cy.avz (R:=R) H st i with h1|⟨st',h1,_⟩);(·simp only[tf,h1]at h;cases h);·exact⟨.g (.c b::s) st' λG' N'=>by simp only[tf,h1]⟩
   |norm fI j5 b=>exact⟨.n (.c b::s) (st.restrict fI j5) λ_ _=>rfl⟩
def als:∀(n:ax) {s:ah Fr} {st:cy} {r:R},gN D H leave n s st=ai r->gN D H leave (n+1) s st=ai r
 |0,s,st,r,h=>by simp[gN]at h
 |n+1,s,st,r,h=>by(have h':tf D H leave (gN D H leave n) (gN D H leave n) s st=ai r:=h;show tf D H leave (gN D H leave (n+1)) (gN D H leave (n+1)) s st=ai r;obtain⟨t⟩:=agE h';cases t with|g s' st' e=>rw[e]at h'⊢;exact als n h'|n s' st' e=>rw[e]at h'⊢;exact als n h'|e e=>rw[e]at h'⊢;exact h')
def aI6{m n:ax}(hmn:m<=n){s:ah Fr}{st:cy}{r:R}(h:gN D H leave m s st=ai r):gN D H leave n s st=ai r:=by induction hmn with|refl=>exact h|step _ ih=>exact als _ ih
def DQ{s:ah Fr}{st:cy}{r:R}:goL D H leave s st=ai r↔∃n,gN D H leave n s st=ai r:=by
 constructor
 .intro h;unfold goL at h;split at h;·rename_i he;simp only[aC]at h;exact⟨he.choose,h▸he.choose_spec.choose_spec⟩
  .cases h
 .rintro⟨n,hn⟩;unfold goL;have he:∃n r,gN D H leave n s st=ai r:=⟨n,r,hn⟩;rw[aNh he];have h1:=he.choose_spec.choose_spec;have h2:=aI6 (apk n he.choose) hn;have h3:=aI6 (alQ n he.choose) h1;rw[h2]at h3;exact h3.symm
def aG7(s:ah Fr)(st:cy):goL D H leave s st=tf D H leave (goL D H leave) (goL D H leave) s st:=by
 apply Option.ext;intro r;constructor;·intro h;obtain⟨n,hn⟩:=DQ.1 h;have hn:tf D H leave (gN D H leave n) (gN D H leave n) s st=ai r:=als n hn;obtain⟨t⟩:=agE hn;cases t with|g s' st' e=>rw[e]at hn⊢;exact DQ.2 ⟨n,hn⟩|n s' st' e=>rw[e]at hn⊢;exact DQ.2 ⟨n,hn⟩|e e=>rw[e]at hn⊢;exact hn
 .intro h;obtain⟨t⟩:=agE h;cases t with|g s' st' e=>rw[e]at h;obtain⟨n,hn⟩:=DQ.1 h;exact DQ.2 ⟨n+1,by rw[gN,e];exact hn⟩|n s' st' e=>rw[e]at h;obtain⟨n,hn⟩:=DQ.1 h;exact DQ.2 ⟨n+1,by rw[gN,e];exact hn⟩|e e=>rw[e]at h;exact DQ.2 ⟨1,by rw[gN,e];exact h⟩
end
def axr{R:Type}(D:ah (ax×Callee))(H:ah (ax×ET))(leave:cy->aq R):∀(n:ax) (s:ah Fr) (st:cy),goL D H leave s st=dn D H leave (goL D H leave) n s st
 |0,s,st=>rfl
 |n+1,s,st=>by
  have ih:dn D H leave (goL D H leave) n=goL D H leave:=by funext s st;exact(axr D H leave n s st).symm
  rw[aG7,dn,ih]
def aTo(D:ah (ax×Callee))(H:ah (ax×ET))(fn:Fn)(ps rs os:ah MT)(x:Hv ps)(n:ax): (ik D H fn ps rs os).f x=fk (acB fn (vsU 0 ps x)) λst=>dn D H (Og fn ps rs os (lens ps x)) (goL D H (Og fn ps rs os (lens ps x))) n [.c fn.body] st:=by simp only[ik,<-axr]
end Go.Ab
namespace Go.Ab
noncomputable def FF(D:ah (ax×Callee))(g:ax):aq Def:=(adk D g).map λc=>.ayg c.io λ_ ab=>c.cf ab
def al0(D:ah (ax×Callee))(ex:C->St->aq (Ex×St)):ade (FF D) ex=cfD D:=by funext f ab;unfold ade FF cfD;cases adk D f<;>rfl
def axO(D:ah (ax×Callee)):au4 (FF D)=ioD D:=by funext f;unfold au4 FF ioD ayO;cases adk D f<;>rfl
def adn(M:ax->aq Def)(n:ax)(a b:C)(st:St):exec M (n+1) (.seq a b) st=match exec M n a st with|some (.normal,st')=>exec M n b st'|r=>r:=rfl
def L8(M:ax->aq Def)(n:ax)(id:ax)(b:C)(st:St):exec M (n+1) (.block id b) st=match exec M n b st with|some (.exit j,st')=>if j=id then ai (.normal,st')else ai (.exit j,st')|r=>r:=rfl
def Y3(M:ax->aq Def)(n:ax)(b:C)(st:St):exec M (n+1) (.loop b) st=match exec M n b st with|some (.normal,st')=>exec M n (.loop b) st'|r=>r:=rfl
def KL(D:ah (ax×Callee)):∀(m:ax) {c:C} {st:St} {r:Ex×St},exec (FF D) m c st=ai r->exec (FF D) (m+1) c st=ai r
 |0,c,st,r,h=>by simp[exec]at h
 |m+1,c,st,r,h=>by(cases c with|skip=>simpa[exec]using h|reg d ops k kr=>(have e:∀n,exec (FF D) (n+1) (.reg d ops k kr) st=(yB (cfD D) (au4 (FF D)) ops (arr d ops) st).map λst'=>(.normal,st'.restrict k kr):=λn=>by rw[<-al0 D (exec (FF D) n)];rfl);rw[e]at h⊢;exact h|seq a b=>(rw[adn]at h⊢;cases ha:exec (FF D) m a st with|none=>rw[ha]at h;cases h|some p=>obtain⟨e,st'⟩:=p;rw[ha]at h;rw[KL D m ha];cases e with|normal=>exact KL D m h|exit i=>exact h|ret=>exact h)|cond c a b=>(have e:∀n,exec (FF D) (n+1) (.cond c a b) st=match c.v st with|.bool t=>exec (FF D) n (if t then a else b) st|_=>au:=λn=>rfl);rw[e]at h⊢;split at h;(·exact KL D m h);·cases h|block id b=>(rw[L8]at h⊢;cases hb:exec (FF D) m b st with|none=>rw[hb]at h;cases h|some p=>rw[hb]at h;rw[KL D m hb];exact h)|loop b=>(rw[Y3]at h⊢;cases hb:exec (FF D) m b st with|none=>rw[hb]at h;cases h|some p=>obtain⟨e,st'⟩:=p;rw[hb]at h;rw[KL D m hb];cases e with|normal=>exact KL D m h|exit i=>exact h|ret=>exact h)|exit id=>simpa[exec]using h|ret=>simpa[exec]using h|norm k kr b=>exact KL D m (show exec (FF D) m b (st.restrict k kr)=ai r from h)|opn i b=>exact KL D m (show exec (FF D) m b (st.PX i)=ai r from h)|stop=>simp[exec]at h)
def alr{D:ah (ax×Callee)}{m n:ax}(hmn:m<=n){c:C}{st:St}{r:Ex×St}(h:exec (FF D) m c st=ai r):exec (FF D) n c st=ai r:=by induction hmn with|refl=>exact h|step _ ih=>exact KL D _ ih
def after(e:Ex)(s:ah Fr):aq (ah Fr):=match e with
 |.normal=>ai s
 |.exit id=>unwind id s
 |.ret=>ai []
inductive Run(D:ah (ax×Callee)):ah Fr->St->St->Prop
 |nil (st:St):Run D [] st st
 |e (id:ax) (s:ah Fr) (st f:St) (h:Run D s st f):Run D (.e id::s) st f
 |c (c:C) (s s':ah Fr) (st st' f:St) (m:ax) (ex:Ex) (h:exec (FF D) m c st=ai (ex,st')) (ha:after ex s=ai s') (hr:Run D s' st' f):Run D (.c c::s) st f
 |l (b:C) (s:ah Fr) (st f:St) (h:Run D (.c (.loop b)::s) st f):Run D (.l b::s) st f
def Run.seq{D:ah (ax×Callee)}{a b:C}{s:ah Fr}{st f:St}(h:Run D (.c a::.c b::s) st f):Run D (.c (.seq a b)::s) st f:=by cases h with|c _ _ s1 _ st1 _ m ex he ha hr=>cases ex with|normal=>(simp only[after,aC]at ha;subst ha;cases hr with|c _ _ s2 _ st2 _ m2 ex2 he2 ha2 hr2=>refine .c _ _ s2 _ st2 _ (max m m2+1) ex2 ?_ ha2 hr2;rw[adn,alr (apk m m2) he];exact alr (alQ m m2) he2)|exit id=>refine .c _ _ s1 _ st1 _ (m+1) (.exit id) ?_ ha hr;rw[adn,he]|ret=>refine .c _ _ s1 _ st1 _ (m+1) .ret ?_ ha hr;rw[adn,he]
def Run.loop{D:ah (ax×Callee)}{b:C}{s:ah Fr}{st f:St}(h:Run D (.c b::.l b::s) st f):Run D (.c (.loop b)::s) st f:=by cases h with|c _ _ s1 _ st1 _ m ex he ha hr=>cases ex with|normal=>(simp only[after,aC]at ha;subst ha;cases hr with|l _ _ _ _ hr=>cases hr with|c _ _ s2 _ st2 _ m2 ex2 he2 ha2 hr2=>refine .c _ _ s2 _ st2 _ (max m m2+1) ex2 ?_ ha2 hr2;rw[Y3,alr (apk m m2) he];exact alr (alQ m m2) he2)|exit id=>refine .c _ _ s1 _ st1 _ (m+1) (.exit id) ?_ ha hr;rw[Y3,he]|ret=>refine .c _ _ s1 _ st1 _ (m+1) .ret ?_ ha hr;rw[Y3,he]
def Run.block{D:ah (ax×Callee)}{id:ax}{b:C}{s:ah Fr}{st f:St}(h:Run D (.c b::.e id::s) st f):Run D (.c (.block id b)::s) st f:=by cases h with|c _ _ s1 _ st1 _ m ex he ha hr=>cases ex with|normal=>(simp only[after,aC]at ha;subst ha;cases hr with|e _ _ _ _ hr=>refine .c _ _ s _ st1 _ (m+1) .normal ?_ rfl hr;rw[L8,he])|exit j=>simp only[after,unwind]at ha;by_cases hj:id=j;(·subst hj;simp only[aK,aC]at ha;subst ha;refine .c _ _ s _ st1 _ (m+1) .normal ?_ rfl hr;rw[L8,he];simp only[aK]);·rw[aP hj]at ha;refine .c _ _ s1 _ st1 _ (m+1) (.exit j) ?_ ha hr;rw[L8,he];simp only;rw[aP (λe=>hj e.symm)]|ret=>refine .c _ _ s1 _ st1 _ (m+1) .ret ?_ ha hr;rw[L8,he]
section
variable {R:Type} {D:ah (ax×Callee)} {H:ah (ax×ET)} {leave:cy->aq R}
def Jl:∀(n:ax) {s:ah Fr} {st:cy} {r:R},gN D H leave n s st=ai r->∃Ot:cy,leave Ot=ai r/\Run D s st.a Ot.a
 |0,s,st,r,h=>by simp[gN]at h
 |n+1,s,st,r,h=>by
  cases s with
  |nil=>exact⟨st,h,.nil _⟩
  |cons f s=>
   cases f with
   |e i=>
    obtain⟨Ot,h1,h2⟩:=Jl n (show gN D H leave n s st=ai r from h)
    exact⟨Ot,h1,.e _ _ _ _ h2⟩
   |l b=>
    obtain⟨Ot,h1,h2⟩:=Jl n (show gN D H leave n (.c b::.l b::s) st=ai r from h)
    exact⟨Ot,h1,.l _ _ _ _ h2.loop⟩
   |c c=>
    cases c with
    |stop=>simp[gN,tf]at h
    |skip=>
     obtain⟨Ot,h1,h2⟩:=Jl n (show gN D H leave n s st=ai r from h)
     exact⟨Ot,h1,.c _ _ s _ _ _ 1 .normal rfl rfl h2⟩
    |reg d ops fI j5=>
     obtain⟨st',e1,e2,_⟩:=U4 (R:=R) (D:=D) (H:=H) ops (arr d ops) st _ r (show ny D H ops (arr d ops) st (λst'=>gN D H leave n s (st'.restrict fI j5))=ai r from h)
     obtain⟨Ot,h1,h2⟩:=Jl n e2
     refine⟨Ot,h1,.c _ _ s _ _ _ 1 .normal ?_ rfl h2⟩
     show(yB (ade (FF D) (exec (FF D) 0)) (au4 (FF D)) ops (arr d ops) st.a).map _=_
     rw[al0,axO,e1,aS,cy.anT]
    |seq a b=>
     obtain⟨Ot,h1,h2⟩:=Jl n (show gN D H leave n (.c a::.c b::s) st=ai r from h)
     exact⟨Ot,h1,h2.seq⟩
    |cond c a b=>
     by_cases hc:c.ok=aB
     .cases hv:c.vv st<;>first
       |(simp[gN,tf,hc,hv]at h;done)
       |skip
      rename_i t
      have h':gN D H leave n (.c (if t then a else b)::s) st=ai r:=by
       cases t<;>simpa[gN,tf,hc,hv]using h
      obtain⟨Ot,h1,h2⟩:=Jl n h'
      refine⟨Ot,h1,?_⟩
      cases h2 with
      |c _ _ s1 _ st1 _ m ex he ha hr=>
       refine .c _ _ s1 _ st1 _ (m+1) ex ?_ ha hr
       show(match c.v st.a with|.bool t=>exec (FF D) m (if t then a else b) st.a|_=>au)=_
       rw[<-dI.gi st hc,hv]
       exact he
     .simp[gN,tf,hc]at h
    |block id b=>
     obtain⟨Ot,h1,h2⟩:=Jl n (show gN D H leave n (.c b::.e id::s) st=ai r from h)
     exact⟨Ot,h1,h2.block⟩
    |loop b=>
     obtain⟨Ot,h1,h2⟩:=Jl n (show gN D H leave n (.c b::.l b::s) st=ai r from h)
     exact⟨Ot,h1,h2.loop⟩
    |exit id=>
     cases hu:unwind id s with
     |none=>simp[gN,tf,hu,fk]at h
     |some s'=>
      obtain⟨Ot,h1,h2⟩:=Jl n (show gN D H leave n s' st=ai r by simpa[gN,tf,hu,fk]using h)
      exact⟨Ot,h1,.c _ _ s' _ _ _ 1 (.exit id) rfl hu h2⟩
    |ret=>exact⟨st,h,.c _ _ [] _ _ _ 1 .ret rfl rfl (.nil _)⟩
    |opn i b=>
     rcases cy.avz (R:=R) H st i with h0|⟨st',h0,h0a⟩
     .simp only[gN,tf,h0]at h;cases h
     .obtain⟨Ot,h1,h2⟩:=Jl n (show gN D H leave n (.c b::s) st'=ai r by simpa only[gN,tf,h0]using h)
      refine⟨Ot,h1,?_⟩
      cases h2 with
      |c _ _ s1 _ st1 _ m ex he ha hr=>
       refine .c _ _ s1 _ st1 _ (m+1) ex ?_ ha hr
       rw[h0a]at he
       exact he
    |norm fI j5 b=>
     obtain⟨Ot,h1,h2⟩:=Jl n (show gN D H leave n (.c b::s) (st.restrict fI j5)=ai r from h)
     refine⟨Ot,h1,?_⟩
     cases h2 with
     |c _ _ s1 _ st1 _ m ex he ha hr=>
      refine .c _ _ s1 _ st1 _ (m+1) ex ?_ ha hr
      rw[cy.anT]at he
      exact he
def aG8{c:C}{st:cy}{r:R}(h:goL D H leave [.c c] st=ai r):∃(Ot:cy) (m:ax) (ex:Ex),leave Ot=ai r/\exec (FF D) m c st.a=ai (ex,Ot.a)/\(ex=.normal\/ex=.ret):=by obtain⟨n,hn⟩:=DQ.1 h;obtain⟨Ot,h1,h2⟩:=Jl n hn;cases h2 with|c _ _ s1 _ st1 _ m ex he ha hr=>(have:s1=[]/\(ex=.normal\/ex=.ret):=by cases ex with|normal=>simp only[after,aC]at ha;exact⟨ha.symm,.inl rfl⟩|exit id=>simp[after,unwind]at ha|ret=>simp only[after,aC]at ha;exact⟨ha.symm,.inr rfl⟩);obtain⟨rfl,hx⟩:=this;generalize hf:Ot.a=f at hr;cases hr with|nil=>exact⟨Ot,m,ex,h1,by rw[hf];exact he,hx⟩
end
end Go.Ab
namespace Go.Ab
def aIz(v:V):aHz v.a=aFX v:=by cases v<;>rfl
def arF(v:V):abG v.a=att v:=by cases v<;>rfl
def ah9:∀(bs:ah aW) (l:ah V),QU bs (l.map V.a)=Zk bs l
 |bs,[]=>by cases bs<;>rfl
 | [],v::l=>by simp only[aY,QU,Zk,arF,ah9 [] l]
 |b::bs,v::l=>by simp only[aY,QU,Zk,arF,ah9 bs l]
def Lu:∀{l:ah V} {i:ax} {st st1:cy},rJ i l st=ai st1->kd i (l.map V.a) st.a=ai st1.a
 | [],i,st,st1,h=>by simp only[rJ,aC]at h;subst h;rfl
 |v::l,i,st,st1,h=>by
  have gen:(∀z x,v≠ .iU z x)->(∀t xs,v≠ .l7 t xs)->kd i ((v::l).map V.a) st.a=ai st1.a:=by intro h1 h2;(have e:rJ i (v::l) st=if arI v||aFX v then rJ (i+1) l (st.put (ai i) v)else au:=by cases v<;>first|rfl|exact bG rfl (h1 _ _)|exact bG rfl (h2 _ _));rw[e]at h;split at h;(·rename_i hp;have:=Lu h;rw[cy.EE]at this;(have e2:∀a:A,(∀z x,a≠ .iU z [x])->(∀z xs,a≠ .l7 z xs)->kd i (a::l.map V.a) st.a=if Ab.pure a||aHz a then kd (i+1) (l.map V.a) (st.a.put (ai i) a)else au:=by intro a ha hb;rw[kd];(·intro z x e;exact ha _ _ e);·intro z xs e;exact hb _ _ e);rw[aY,e2,aAh,aIz,aQ hp,this];(·intro z x e;cases v<;>simp[V.a]at e;exact h1 _ _ rfl);·intro z xs e;cases v<;>simp[V.a]at e;exact h2 _ _ rfl);·cases h
  cases v<;>first
   |(refine gen ?_ ?_<;>(intros;simp;done))
   |skip
  .rename_i z x;simp only[rJ]at h;split at h;(·rename_i st2 e;have:=Lu h;rw[cy.EE]at this;simp only[aY,V.a,kd,aoR e,ag];exact this);·cases h
  .rename_i t xs;simp only[rJ]at h;split at h;(·rename_i hi;have:=Lu h;rw[cy.EE,cy.gG,cy.Es]at this;simp only[aY,V.a,kd,aQ hi,bf];exact this);·cases h
def aFU{fn:Fn}{l:ah V}{st:cy}(h:acB fn l=ai st):fn.enter (l.map V.a)=ai st.a:=by
 unfold acB at h;split at h;·rename_i hc;simp only[az,aG]at hc;have:=Lu h;unfold Fn.enter;rw[bf,ah9,aQ hc];exact this
 .cases h
section
variable {R:Type}
def aLI(st:cy)(r:Rs):cz (R:=R) (vrs st r) λv=>r.v st.a=ai v.a:=by
 cases r with
 |t i=>exact cz.mk (x:=iQ st.t i) rfl
 |cell i n=>
  have e:vrs (R:=R) st (.cell i n)=λk=>match iQ st.t i with|.loc q j c=>(match eX st.r q with|some (.var _ x)=>(match j with|0=>fk (tP x.cells c n) k|_=>au)|some (.sl t xs)=>af (xs[j]?) λx=>fk (tP (t.vs x) c n) k|none=>au)|_=>au:=rfl
  rw[e]
  cases hv:iQ st.t i<;>(try dsimp only)<;>first
   |exact cz.no
   |skip
  rename_i q j c;cases hq:eX st.r q with|none=>exact cz.no|some R0=>cases R0 with|var z x=>(cases j with|zero=>dsimp only;refine cz.V0 λv hg=> ?_;simp only[Rs.v,cy.a_t,hv,V.a,cy.Rw,hq,aS,VR.a,ag,aD,V.jG,Dt hg]|succ j=>exact cz.no)|sl t xs=>dsimp only;refine cz.bind λx hx=>cz.V0 λv hg=> ?_;simp only[Rs.v,cy.a_t,hv,V.a,cy.Rw,hq,aS,VR.a,ag,cC,hx];rw[ET.aib,Dt hg]
def arK(st:cy):∀l:ah Rs,cz (R:=R) (aoQ st l) λvs=>X6 st.a l=ai (vs.map V.a)
 | []=>cz.mk (x:=[]) rfl
 |r::l=>by refine cz.seq (F:=vrs st r) (G:=λa (k:ah V->aq R)=>aoQ st l λxs=>k (a::xs)) (aLI st r) λa ha=> ?_;refine cz.seq (F:=aoQ st l) (G:=λxs (k:ah V->aq R)=>k (a::xs)) (arK st l) λxs LD=>cz.mk ?_;simp only[X6,ha,LD,ag,aS,aY]
def awn(ks:ah ax)(v:V):(LJ ks v).a=vu ks v.a:=by cases v<;>first|rfl|(simp only[LJ,V.a,vu];split<;>rfl)
def aCj(v:V):ah0 v.a=atu v:=by cases v<;>rfl
def aCk(v:V):YH v.a=U5 v:=by cases v<;>first|rfl|(simp only[V.a,YH,U5,V.gE];exact LB aCj _)
def afZ{t:ET}(h:t.plain=aB)(xs:ah t.ty):(xs.map t.enc).all A.plain=aB:=by rw[JX,bz];exactλx _=>ET.C9 t x h
def ayR(st:cy)(j:ax)(own:aW)(m:MT):cz (R:=R) (λk:V×cy->aq R=>afF st j own m λx s=>k (x,s)) λp=>st.a.MU j own=ai (p.1.a,p.2.a):=by
 unfold afF;refine cz.ite (λho=> ?_) λho=> ?_
 .subst ho
  cases hv:iQ st.t (gs+j)<;>(try dsimp only)<;>first
   |exact cz.no
   |skip
  .rename_i cs;refine cz.uj λJg=>cz.fk λys OU=>cz.mk (x:=(V.agg ys,cy.mk st.t (um st.r (cs.flatMap yR)))) ?_;simp only[St.MU,aK,cy.a_t,hv,V.a,V.gE,cy.Rw,LB U3,YP OU,aS,cy.agD,Jg];rfl
  .rename_i z
   cases m<;>(try dsimp only)<;>first
    |exact cz.no
    |skip
   rename_i t;refine cz.uj λhz=>cz.mk (x:=(V.tok j t [],st)) ?_;subst hz;simp only[St.MU,aK,cy.a_t,hv,V.a,gJ]
  .rename_i n t xs;refine cz.mk (x:=(V.tok j t xs,st.eW n)) ?_;simp only[St.MU,aK,cy.a_t,hv,V.a,cy.SJ]
  .rename_i q o n;cases hq:eX st.r q with|none=>exact cz.no|some R0=>cases R0 with|var z x=>exact cz.no|sl t xs=>dsimp only;refine cz.mk (x:=(V.tok j t ((nu o xs).take n),cy.mk st.t (um st.r [q]))) ?_;simp only[St.MU,aK,cy.a_t,hv,V.a,cy.Rw,hq,aS,VR.a,<-ahh,cy.agD];rfl
  .rename_i q i c
   have no:(∀k:V->cy->aq R,(match V.loc q i c with
    |.tok n t xs=>k (.tok j t xs) (st.eW n)
    |.lz z=>(match m with|.tok t=>if t.z=z then k (.tok j t []) st else au|_=>au)
    |.view q off n=>
     (match eX st.r q with
      |some (.sl t xs)=>k (.tok j t ((nu off xs).take n)) {st with r:=um st.r [q]}
      |_=>au)
    |.loc q 0 0=>
     (match eX st.r q with
      |some (.var z x)=>fk (HA st.r x.cells) λcs=>k (.iU z (nw x cs)) {st with r:=um st.r (q::x.cells.flatMap yR)}
      |_=>au)
    |_=>au)=au)->cz (R:=R) (λk:V×cy->aq R=>match V.loc q i c with
    |.tok n t xs=>k (.tok j t xs,st.eW n)
    |.lz z=>(match m with|.tok t=>if t.z=z then k (.tok j t [],st)else au|_=>au)
    |.view q off n=>
     (match eX st.r q with
      |some (.sl t xs)=>k (.tok j t ((nu off xs).take n),{st with r:=um st.r [q]})
      |_=>au)
    |.loc q 0 0=>
     (match eX st.r q with
      |some (.var z x)=>fk (HA st.r x.cells) λcs=>k (.iU z (nw x cs),{st with r:=um st.r (q::x.cells.flatMap yR)})
      |_=>au)
    |_=>au) λp=>st.a.MU j aB=ai (p.1.a,p.2.a):=λh k r hk=>by
     have h2:=h λa b=>k (a,b)
     exact bG (h2.symm.trans hk) (by simp)
   cases i with|succ i=>exact no λ_=>rfl|zero=>cases c with|succ c=>exact no λ_=>rfl|zero=>show cz (R:=R) (λk:V×cy->aq R=>match eX st.r q with|some (.var z x)=>fk (HA st.r x.cells) λcs=>k (.iU z (nw x cs),{st with r:=um st.r (q::x.cells.flatMap yR)})|_=>au) _;cases hq:eX st.r q with|none=>exact cz.no|some R0=>cases R0 with|sl t xs=>exact cz.no|var z x=>dsimp only;refine cz.fk λcs oz=>cz.mk (x:=(V.iU z (nw x cs),cy.mk st.t (um st.r (q::x.cells.flatMap yR)))) ?_;simp only[St.MU,aK,cy.a_t,hv,V.a,cy.Rw,hq,aS,VR.a,ag,V.jG,YP oz,wC,LB U3,cy.agD];rfl
 .have hv:=acF (R:=R) (cy.mk st.t (aoO st.r (JV st.r (iQ st.t (gs+j))))) (iQ st.t (gs+j));rw[cy.aLl]at hv;refine cz.seq (F:=Ai (cy.mk st.t (aoO st.r (JV st.r (iQ st.t (gs+j))))).r (iQ st.t (gs+j))) (G:=λx (k:V×cy->aq R)=>k (x,{t:=st.t.map λp=>(p.1,Hz (LJ (U5 (iQ st.t (gs+j)))) p.2),r:=um st.r (JV st.r (iQ st.t (gs+j)))})) hv λx hx=>cz.mk ?_;have ho':own=aA:=by cases own<;>simp at ho⊢
  subst ho';have e1:st.a.MU j aA=(Hu (only st.a.r (names st.a.r (iQ st.t (gs+j)).a)) (iQ st.t (gs+j)).a).map λx=> (x,{t:=λi=>gn (vu (YH (iQ st.t (gs+j)).a)) (st.a.t i),r:=less st.a.r (names st.a.r (iQ st.t (gs+j)).a)}):=rfl;have e2:(cy.mk (st.t.map λp=>(p.1,Hz (LJ (U5 (iQ st.t (gs+j)))) p.2)) (um st.r (JV st.r (iQ st.t (gs+j))))).a ={t:=λi=>gn (vu (YH (iQ st.t (gs+j)).a)) (st.a.t i),r:=less st.a.r (names st.a.r (iQ st.t (gs+j)).a)}:=by rw[cy.agD,aoN,aCk];refine St.ext' (λi=> ?_) λi=>rfl;have:=st.aqW (f:=Hz (LJ (U5 (iQ st.t (gs+j))))) (g:=gn (vu (U5 (iQ st.t (gs+j))))) (Of (awn _)) rfl;exact congrFun (wE St.t this) i
  rw[e1,e2,aoN,hx];rfl
def aoL:∀(bs:ah aW) (ms:ah MT) (st:cy) (j:ax),cz (R:=R) (λk:ah V×cy->aq R=>Ij st j bs ms λxs s=>k (xs,s)) λp=>st.a.leaves j bs=ai (p.1.map V.a,p.2.a)/\ae p.1=ae ms
 | [],[],st,j=>by
  have e:(λk:ah V×cy->aq R=>Ij st j [] [] λxs s=>k (xs,s))=λk=>k ([],st):=by funext k;rfl
  rw[e];exact cz.mk ⟨rfl,rfl⟩
 | [],_::_,st,j=>by
  have e:∀m ms,(λk:ah V×cy->aq R=>Ij st j [] (m::ms) λxs s=>k (xs,s))=λk=>au:=by intro m ms;funext k;rfl
  rw[e];exact cz.no
 |_::_,[],st,j=>by
  have e:∀b bs,(λk:ah V×cy->aq R=>Ij st j (b::bs) [] λxs s=>k (xs,s))=λk=>au:=by intro b bs;funext k;rfl
  rw[e];exact cz.no
 |b::bs,m::ms,st,j=>by
  have e:(λk:ah V×cy->aq R=>Ij st j (b::bs) (m::ms) λxs s=>k (xs,s))=λk=>afF st j b m λx st1=>Ij st1 (j+1) bs ms λxs st2=>k (x::xs,st2):=by funext k;rfl
  rw[e];refine cz.seq (F:=λk:V×cy->aq R=>afF st j b m λx s=>k (x,s)) (G:=λp (k:ah V×cy->aq R)=>Ij p.2 (j+1) bs ms λxs st2=>k (p.1::xs,st2)) (ayR st j b m) λp hp=> ?_;refine cz.seq (F:=λk:ah V×cy->aq R=>Ij p.2 (j+1) bs ms λxs s=>k (xs,s)) (G:=λr (k:ah V×cy->aq R)=>k (p.1::r.1,r.2)) (aoL bs ms p.2 (j+1)) λr hr=>cz.mk ⟨?_,?_⟩;·simp only[St.leaves,hp,ag,hr.1,aS,aY]
  .simp only[bl,hr.2]
def Oh(st:cy):∀(ms:ah MT) (i:ax) (x:Hv ms),Gb ms=aB->cz (R:=R) (Gp st i ms (lens ms x)) λws=>∀j,Ab.outs st.a i ((vsU j ms x).map V.a)=ai (ws.map V.a)
 | [],i,_,_=>cz.mk (x:=[]) λ_=>rfl
 |.d t::ms,i,x,hn=>by
  refine(Oh st ms (i+1) x.2 hn).od λws hw j=> ?_
  have:∀a:A,abG a=aA->∀l,Ab.outs st.a i (a::l)=Ab.outs st.a (i+1) l:=λa ha l=>by
   cases a<;>first|rfl|(simp[abG]at ha)
  simp only[vsU,aY]
  rw[this,hw]
  rw[MT.v,ET.v_a]
  cases t with
  |one c=>cases c<;>rfl
  |agg cs=>rfl
 |.p t::ms,i,x,hn=>(Oh st ms (i+1) x.2 hn).od λws hw j=>hw (j+1)
 |.tok t::ms,i,x,hn=>by simp[Gb]at hn
 |.fn f ts::ms,i,x,hn=>(Oh st ms (i+1) x.2 hn).od λws hw j=>hw (j+1)
 |.gone::ms,i,x,hn=>by
  have e:Gp (R:=R) st i (.gone::ms) (lens (.gone::ms) x)=λk=>au:=by funext k;rfl
  rw[e];exact cz.no
 |.box t::ms,i,x,hn=>by
  have e:Gp (R:=R) st i (.box t::ms) (lens (.box t::ms) x)=λk=>match eX st.r i with
   |some (.var z x')=>if ao (z=t.z)&&ao (i<1000)then fk (HA st.r x'.cells) λcs=>Gp st (i+1) ms (lens ms x.2) λr=>k (.iU z (nw x' cs)::r)else au
   |_=>au:=rfl
  rw[e]
  cases hq:eX st.r i with
  |none=>exact cz.no
  |some R0=>
   cases R0 with
   |sl u xs=>exact cz.no
   |var z y=>
    dsimp only
    refine cz.uj λhc=>cz.fk λcs oz=> ?_
    simp only[az,aG]at hc
    refine cz.seq (F:=Gp st (i+1) ms (lens ms x.2)) (G:=λr (k:ah V->aq R)=>k (.iU z (nw y cs)::r)) (Oh st ms (i+1) x.2 hn) λr hr=>cz.mk λj=> ?_
    simp only[vsU,aY,MT.v,V.a,Ab.outs,cy.Rw,hq,aS,VR.a,ag,hc,lM,aK,V.jG,YP oz,hr,wC]
 |.l7 t::ms,i,x,hn=>by
  have e:Gp (R:=R) st i (.l7 t::ms) (lens (.l7 t::ms) x)=λk=>match eX st.r i with
   |some (.sl u ys)=>if ao (u.z=t.z)&&ao (i<1000)then(if ao (ae ys=ae x.1)then Gp st (i+1) ms (lens ms x.2) λr=>k (.l7 u ys::r)else au)else au
   |none=>Gp st (i+1) ms (lens ms x.2) λr=>k (.any::r)
   |_=>au:=rfl
  rw[e]
  cases hq:eX st.r i with
  |none=>
   dsimp only
   refine cz.seq (F:=Gp st (i+1) ms (lens ms x.2)) (G:=λr (k:ah V->aq R)=>k (.any::r)) (Oh st ms (i+1) x.2 hn) λr hr=>cz.mk λj=> ?_
   simp only[vsU,aY,MT.v,V.a,Ab.outs,cy.Rw,hq,dO,hr,aS]
  |some R0=>
   cases R0 with
   |var u xs=>exact cz.no
   |sl u ys=>
    dsimp only
    refine cz.uj λhc=>cz.uj λhl=> ?_
    simp only[az,aG]at hc hl
    refine cz.seq (F:=Gp st (i+1) ms (lens ms x.2)) (G:=λr (k:ah V->aq R)=>k (.l7 u ys::r)) (Oh st ms (i+1) x.2 hn) λr hr=>cz.mk λj=> ?_
    simp only[vsU,aY,MT.v,V.a,Ab.outs,cy.Rw,hq,aS,VR.a,ag,hc,hl,bf,lM,aK,hr]
def aCf{fn:Fn}{ps rs os:ah MT}{x:Hv ps}{st:cy}{y:Ts (rs++os)}(hn:Gb ps=aB)(h:Og fn ps rs os (lens ps x) st=ai y): ∃vs ws:ah V,fn.leave (KJ ps x) st.a=ai (vs.map V.a,ws.map V.a)/\ae vs=ae rs/\of1 (rs++os) (vs++ws)=ai y:=by
 unfold Og at h;split at h;·rename_i hl;simp only[aG]at hl;obtain⟨ab,has,h,_⟩:=arK st fn.res _ y h;obtain⟨p,hp,h,_⟩:=aoL fn.own rs (st.lay ab) 0 (λp=>Gp {p.2 with r:=um p.2.r fn.gone} 0 ps (lens ps x) λws=>of1 (rs++os) (p.1++ws)) y h;obtain⟨ws,hws,h,_⟩:=Oh {p.2 with r:=um p.2.r fn.gone} ps 0 x hn _ y h;refine⟨p.1,ws,?_,hp.2,h⟩;have h1:=hp.1;rw[cy.aEF]at h1;simp only[Fn.leave,aQ hl,has,ag,h1];have e1:(cy.a {p.2 with r:=um p.2.r fn.gone})={p.2.a with r:=Ab.less p.2.a.r fn.gone}:=cy.agD p.2 p.2.t fn.gone;rw[KJ,<-e1,hws 0];rfl
 .cases h
end
end Go.Ab
namespace Go.Ab
inductive aDk:A->A->Prop
 |refl (a:A):aDk a a
 |lz (z:ax):aDk (.lz z) (.own z [])
inductive xE:ah A->ah A->Prop
 |nil:xE [] []
 |cons (a b:A) (l m:ah A) (h:aDk a b) (t:xE l m):xE (a::l) (b::m)
inductive abe:ah A->ah A->Prop
 |refl (l:ah A):abe l l
 |ptr (cs:ah A) (c n:ax) (l m:ah A) (t:abe l m):abe (.ptr cs c::l) (.ptr ((cs.drop c).take n) 0::m)
inductive apm:A->A->Prop
 |refl (a:A):apm a a
 |ptr (cs:ah A) (c n:ax):apm (.ptr cs c) (.ptr ((cs.drop c).take n) 0)
 |tok (k j z:ax) (xs:ah A):apm (.tok k z xs) (.tok j z xs)
 |iU (z:ax) (x y:A) (h:xE x.cells y.cells):apm (.iU z [x]) (.iU z [y])
 |fn (f:ax) (l m:ah A) (h:abe l m):apm (.fn f l) (.fn f m)
inductive An:ah A->ah A->Prop
 |nil:An [] []
 |cons (a b:A) (l m:ah A) (h:apm a b) (t:An l m):An (a::l) (b::m)
def xE.refl:∀l:ah A,xE l l | []=>.nil |a::l=>.cons _ _ _ _ (.refl a) (xE.refl l)
def xE.len{l m:ah A}(h:xE l m):ae l=ae m:=by induction h with|nil=>rfl|cons a b l m h t ih=>simp[ih]
section
variable {φ:ax->ax} {w:aU} {K:ax->Prop}
def dK.od{vs:ah aL}{l m:ah A}{bs:ah ax}(h:dK φ w K vs l bs)(hw:xE l m):dK φ w K vs m bs:=by induction h generalizing m with|nil=>cases hw;exact .nil|cons v a b vs ab bs h t ih=>cases hw with|cons _ a' _ m' h1 h2=>refine .cons _ _ _ _ _ _ ?_ (ih h2);cases h1 with|refl=>exact h|lz z=>cases h with|data _ hr ha=>cases hr;exact .own _ _ _ _ (.empty _ _)
def kE.od{v:aL}{z:ax}{x y:A}{bs:ah ax}(h:kE φ w K v z x bs)(hw:xE x.cells y.cells):kE φ w K v z y bs:=by cases h with|mk b o z x vs bs h hv hr hz=>exact .mk b o z y vs bs (h.od hw) hv hr (hw.len▸hz)
def gY.aoU{v:aL}{cs:ah A}{c:ax}(h:gY φ w K v (.ptr cs c))(n:ax):gY φ w K v (.ptr ((cs.drop c).take n) 0):=by cases h with|ptr b o c cs vs hb h hv=>exact .ptr b (o+c) 0 _ ((vs.drop c).take n) hb ((h.drop c).take n) ((hv.drop c).take n)
def dp.aO8{vs:ah aL}{l m:ah A}(h:dp φ w K vs l)(hw:abe l m):dp φ w K vs m:=by induction hw generalizing vs with|refl=>exact h|ptr cs c n l m t ih=>cases h with|cons v _ vs _ h1 h2=>exact .cons _ _ _ _ (h1.aoU n) (ih h2)
def gY.aAl{v:aL}{f:ax}{l m:ah A}(h:gY φ w K v (.fn f l))(hw:abe l m):gY φ w K v (.fn f m):=by cases h with|fn _ _ vs h=>exact .fn _ _ vs (h.aO8 hw)
def Qt.od{v:aL}{a b:A}{bs:ah ax}(h:Qt φ w K v a bs)(hw:apm a b):Qt φ w K v b bs:=by cases hw with|refl=>exact h|ptr cs c n=>(cases h with|data _ hr=>exact .data _ _ (hr.aoU n))|tok k j z xs=>(cases h with|data _ hr=>cases hr)|iU z x y hc=>(cases h with|data _ hr=>cases hr|iU _ _ _ hb=>exact .iU _ _ _ _ (hb.od hc))|fn f l m hl=>cases h with|data _ hr=>exact .data _ _ (hr.aAl hl)
def xD.od{v:aL}{a b:A}{bs:ah ax}(h:xD φ w K v a bs)(hw:apm a b):xD φ w K v b bs:=by cases hw with|refl=>exact h|ptr cs c n=>(cases h with|data _ hr=>exact .data _ _ (hr.aoU n))|tok k j z xs=>(cases h with|data _ hr=>cases hr|tok _ _ _ b ho=>exact .tok _ _ _ _ _ ho)|iU z x y hc=>(cases h with|data _ hr=>cases hr|iU _ _ _ hb=>exact .iU _ _ _ _ (hb.od hc))|fn f l m hl=>cases h with|data _ hr=>exact .data _ _ (hr.aAl hl)
def gy.od{vs:ah aL}{l m:ah A}{bs:ah ax}(h:gy φ w K vs l bs)(hw:An l m):gy φ w K vs m bs:=by induction h generalizing m with|nil=>cases hw;exact .nil|cons v a b vs ab bs h t ih=>cases hw with|cons _ a' _ m' h1 h2=>exact .cons _ _ _ _ _ _ (h.od h1) (ih h2)
def gz.od{vs:ah aL}{l m:ah A}{bs:ah ax}(h:gz φ w K vs l bs)(hw:An l m):gz φ w K vs m bs:=by induction h generalizing m with|nil=>cases hw;exact .nil|cons v a b vs ab bs h t ih=>cases hw with|cons _ a' _ m' h1 h2=>exact .cons _ _ _ _ _ _ (h.od h1) (ih h2)
def jF.od{vs:ah aL}{ab as0 os os1:ah A}{bs:ah ax}(h:jF φ w K vs ab os bs)(ha:An as0 ab)(ho:An os os1):jF φ w K vs as0 os1 bs:=by induction h generalizing as0 os1 with|nil=>cases ha;cases ho;exact .nil|data v a vs ab os bs h t ih=>(cases ha with|cons a0 _ l _ h1 h2=>refine .data _ _ _ _ _ _ ?_ (ih h2 ho);cases h1 with|refl=>exact h|ptr=>exact⟨by intros;simp,by intros;simp⟩|tok=>exact⟨by intros;simp,by intros;simp⟩|iU z x y _=>exact bG rfl (h.1 z [y])|fn=>exact⟨by intros;simp,by intros;simp⟩)|iU v z x y b vs ab os bs h t ih=>(cases ha with|cons a0 _ l _ h1 h2=>cases ho with|cons _ o1 _ m h3 h4=>(have:∃x0,a0=.iU z [x0]:=by cases h1<;>exact⟨_,rfl⟩);obtain⟨x0,rfl⟩:=this;cases h3 with|refl=>exact .iU _ _ _ _ _ _ _ _ _ h (ih h2 h4)|iU _ _ y1 hc=>exact .iU _ _ _ _ _ _ _ _ _ (h.od hc) (ih h2 h4))|l7 v z xs ys b vs ab os bs h hl t ih=>(cases ha with|cons a0 _ l _ h1 h2=>cases ho with|cons _ o1 _ m h3 h4=>cases h1;cases h3;exact .l7 _ _ _ _ _ _ _ _ _ h hl (ih h2 h4))|gone v z xs vs ab os bs t ih=>cases ha with|cons a0 _ l _ h1 h2=>cases ho with|cons _ o1 _ m h3 h4=>cases h1;cases h3;exact .gone _ _ _ _ _ _ _ (ih h2 h4)
end
def dx.od{P:bV}{φ:ax->ax}{f:ax}{ab as0 res aOK outs aJx:ah A}(h:dx P φ f ab res outs)(ha:An as0 ab)(hr:An res aOK)(ho:An outs aJx):dx P φ f as0 aOK aJx:=by intro w K vs bs h1 h2 h3 h4 h5;refine(h w K vs bs (h1.od ha) h2 h3 h4 h5).mono λe w' hb=> ?_;obtain⟨v,he,hb⟩:=hb;refine⟨v,he,hb.grow,hb.frame,hb.env,hb.fr,hb.room,?_⟩;obtain⟨qQ,K',rb,ob,e1,e2,e3,e4,e5,e6⟩:=hb.rest;exact⟨qQ,K',rb,ob,e1,e2,e3,e4.od hr,e5.od ha ho,e6⟩
def CT.azl(c:CT)(x:c.ty):c.enc x≠ .any:=by cases c<;>(intro h;cases h)
def anb:∀(cs:vq) (l:ah A),xE l (aq3 cs l)
 |.nil,l=>by
  have:aq3 .nil l=l:=by cases l<;>rfl
  rw[this];exact xE.refl l
 |.cons c cs,[]=>.nil
 |.cons c cs,a::l=>by
  refine .cons _ _ _ _ ?_ (anb cs l);unfold aq2;split;·split;(·exact .lz _);·exact .refl _
  .exact .refl _
def ax1(t:ET)(x:A):xE x.cells (aq4 t x).cells:=by cases t with|one c=>simp only[aq4,aq2];split;(·split;(·exact .cons _ _ _ _ (.lz _) .nil);·exact xE.refl _);·exact xE.refl _|agg cs=>unfold aq4;split;(·rename_i h;cases h);(·rename_i h;cases h;exact anb _ _);·exact xE.refl _
def anc{t:ET}{cs:ah A}{c:ax}{x:t.ty}(h:A.ptr (asM t cs c).cells 0=.ptr ((t.vs x).map V.a) 0):(asM t cs c).cells=(cs.drop c).take t.z:=by
 cases t with
 |one c0=>
  have h':=h;simp only[A.ptr.injEq,pN]at h';rw[<-ET.aib]at h';simp only[ET.enc,CT.yX]at h';rw[h'];simp only[asM]at h'
  cases hc:cs[c]? with
  |none=>
   rw[hc]at h';simp only[tQ,A.cells,dU,pN]at h';exact bG h'.symm (CT.azl c0 x)
  |some d=>
   rw[hc]at h';(have hd:(cs.drop c).take 1=[d]:=by(have dE:c<ae cs:=by(rcases bL c (ae cs)with h1|h1);(·exact h1);·rw[bU h1]at hc;cases hc);rw[ba dE];rw[aE dE]at hc;simp only[aC]at hc;simp[hc]);simp only[ET.z,hd];simp only[jA]at h'
   cases d<;>simp only[A.cells,dU,pN]at h'<;>first
    |exact bG h'.symm (CT.azl c0 x)
    |rw[h']
 |agg us=>rfl
def ana:∀{ts:ah ET} {l:ah A} {x:ayJ ts},Vz ts l=(vsE ts x).map V.a->abe l (Vz ts l)
 | [],l,_,_=>by
  have:Vz [] l=l:=by cases l<;>rfl
  rw[this];exact .refl _
 |t::ts,[],_,h=>by simp[Vz,vsE]at h
 |t::ts,a::l,x,h=>by
  by_cases ha:∃cs c,a=.ptr cs c;·obtain⟨cs,c,rfl⟩:=ha;simp only[Vz,vsE,aY,dU,V.a,V.gE]at h⊢;rw[anc h.1];exact .ptr _ _ _ _ _ (ana h.2)
  ·(have:Vz (t::ts) (a::l)=a::l:=by unfold Vz;split;(·rename_i e1 e2;cases e2;exact bG ⟨_,_,rfl⟩ ha);·rfl);rw[this];exact .refl _
def MT.G0{m:MT}{a:A}{x:m.ty}{j:ax}(h:m.norm a=m.enc j x):apm a (m.enc j x):=by
 rw[<-h];unfold MT.norm;split
 .rename_i f ts g l;refine .fn _ _ _ ?_;have h':A.fn g (Vz ts l)=.fn f ((vsE ts x).map V.a):=by have:=h;simp only[MT.norm,MT.enc,MT.v,V.a,V.gE]at this;exact this
  simp only[A.fn.injEq]at h';exact ana h'.2
 .rename_i t cs c;have h':A.ptr (asM t cs c).cells 0=.ptr ((t.vs x).map V.a) 0:=by have:=h;simp only[MT.norm,MT.enc,MT.v,V.a,V.gE]at this;exact this
  rw[anc h'];exact .ptr _ _ _
 .exact .iU _ _ _ (ax1 _ _)
 .exact .refl _
def abN:∀{ms:ah MT} {ab:ah A} {x:Hv ms} {j:ax},Dj ms ab=(vsU j ms x).map V.a->An ab ((vsU j ms x).map V.a)
 | [],[],_,_,_=>.nil
 | [],_::_,_,_,h=>by simp[Dj,vsU]at h
 |m::ms,[],_,_,h=>by simp[Dj,vsU]at h
 |m::ms,a::ab,x,j,h=>by simp only[Dj,vsU,aY,dU]at h;exact .cons _ _ _ _ (MT.G0 h.1) (abN h.2)
def MT.azQ{m:MT}{v:V}{x:m.ty}(h:m.of v=ai x)(j:ax):apm v.a (m.enc j x):=by cases m with|tok t=>(cases v<;>simp only[MT.of]at h<;>first|cases h|skip);obtain⟨rfl,h⟩:=DO h;cases h;exact .tok _ _ _ _|d t=>exact MT.G0 (MT.ax2 (by intro t h;cases h) h j)|p t=>exact MT.G0 (MT.ax2 (by intro t h;cases h) h j)|box t=>exact MT.G0 (MT.ax2 (by intro t h;cases h) h j)|l7 t=>exact MT.G0 (MT.ax2 (by intro t h;cases h) h j)|fn f ts=>exact MT.G0 (MT.ax2 (by intro t h;cases h) h j)|gone=>exact MT.G0 (MT.ax2 (by intro t h;cases h) h j)
def avw:∀{ms:ah MT} {l:ah V} {y:Ts ms} {j:ax},of1 ms l=ai y->An (l.map V.a) ((vs1 j ms y).map V.a)
 | [],[],_,_,_=>.nil
 | [],_::_,_,_,h=>by simp[of1]at h
 | [m],[],_,_,h=>by simp[of1]at h
 | [m],[v],y,j,h=>.cons _ _ _ _ (MT.azQ h j) .nil
 | [m],_::_::_,_,_,h=>by simp[of1]at h
 |m::n::ms,[],_,_,h=>by simp[of1]at h
 |m::n::ms,v::l,y,j,h=>by
  simp only[of1]at h;split at h;·rename_i x z e1 e2;simp only[aC]at h;subst h;exact .cons _ _ _ _ (MT.azQ e1 j) (avw e2)
  .cases h
def An.split{l1 l2 m:ah A}(h:An (l1++l2) m):An l1 (m.take (ae l1))/\An l2 (m.drop (ae l1)):=by induction l1 generalizing m with|nil=>exact⟨by simpa using An.nil,by simpa using h⟩|cons a l ih=>cases h with|cons _ b _ m' h1 h2=>obtain⟨i1,i2⟩:=ih h2;exact⟨.cons _ _ _ _ h1 i1,i2⟩
def DOk(P:bV)(φ:ax->ax)(D:ah (ax×Callee)):Prop:=∀g c,adk D g=ai c->lA P (φ g)/\∀ab res outs,c.cf ab=ai (res,outs)->dx P φ g ab res outs
def oQ(P:bV)(φ:ax->ax)(g:ax)(c:Callee):Prop:=lA P (φ g)/\∀ab res outs,c.cf ab=ai (res,outs)->dx P φ g ab res outs
def DOk.nil{P:bV}{φ:ax->ax}:DOk P φ []:=λg c h=>by simp[adk]at h
def DOk.cons{P:bV}{φ:ax->ax}{D:ah (ax×Callee)}{g:ax}{c:Callee}(h:oQ P φ g c)(hD:DOk P φ D):DOk P φ ((g,c)::D):=λg' c' h'=>by
 simp only[adk]at h';split at h';·rename_i e;simp only[aC]at h';subst h';subst e;exact h
 .exact hD g' c' h'
def WR(P:bV)(φ:ax->ax)(g:ax)(fn:Fn):aW:=
 match P.funcs[φ g]? with
 |some mf=>
  match mf.body with
  |some c=> !(mf.name== "runtime.NumGoroutine")&&(iX P φ mf.ntmps (avi fn.io 0 fn.gone) fn.body c&&(RS P mf.results.toList fn.res&&ao (fn.np≤mf.ntmps)))
  |none=>aA
 |none=>aA
def ado{P:bV}{φ:ax->ax}(hm:P.follows .mixedOrders=aB){D:ah (ax×Callee)}(hD:DOk P φ D){g:ax}{fn:Fn}(hc:WR P φ g fn=aB)(H:ah (ax×ET))(ps rs os:ah MT): oQ P φ g (ik D H fn ps rs os):=by
 have hir:∃mf c,P.funcs[φ g]? =ai mf∧mf.name≠ "runtime.NumGoroutine" ∧mf.body=ai c∧iX P φ mf.ntmps (avi fn.io 0 fn.gone) fn.body c=aB∧RS P mf.results.toList fn.res=aB∧fn.np≤mf.ntmps:=by unfold WR at hc;split at hc;(·rename_i mf e1;split at hc;(·rename_i c e2;simp only[az,gj,nc,aG]at hc;exact⟨mf,c,e1,hc.1,e2,hc.2.1,hc.2.2.1,hc.2.2.2⟩);·cases hc);·cases hc
 refine⟨?_,λab res outs h=> ?_⟩;·obtain⟨mf,c,e1,e2,e3,_⟩:=hir;exact⟨mf,e1,e2,by rw[e3];rfl⟩
 .unfold Callee.cf at h;split at h;·rename_i hx;obtain⟨y,hy,h⟩:=aM.1 h;obtain⟨ht,hn⟩:=hx.choose_spec;generalize hx.choose=x at hy hn;have ht:Gb ps=aB:=ht;have hy':fk (acB fn (vsU 0 ps x)) (λst=>goL D H (Og fn ps rs os (lens ps x)) [.c fn.body] st)=ai y:=hy;cases he:acB fn (vsU 0 ps x)with|none=>rw[he]at hy';cases hy'|some st0=>rw[he]at hy';obtain⟨Ot,m,ex,hl,hex,hxe⟩:=aG8 (show goL D H _ _ _=ai y from hy');obtain⟨vs,ws,aEb,eJ,hof⟩:=aCf ht hl;have hen:=aFU he;(have hMD:arZ P φ (FF D):=by refine⟨λf fn' hf=> ?_,λf io gg hf args res outs hg=> ?_⟩;(·unfold FF at hf;cases hd:adk D f<;>rw[hd]at hf<;>simp at hf);·unfold FF at hf;cases hd:adk D f with|none=>rw[hd]at hf;simp at hf|some c=>rw[hd]at hf;simp only[aS,aC,Def.ayg.injEq]at hf;obtain⟨rfl,rfl⟩:=hf;exact⟨(hD f c hd).1,(hD f c hd).2 args res outs hg⟩);(have hM:arZ P φ (λk=>if k=g then ai (.ir fn)else au):=by refine⟨λf fn' hf=> ?_,λf io gg hf=> ?_⟩;(·split at hf;(·rename_i e;simp only[aC,Def.ir.injEq]at hf;subst hf;subst e;exact hir);·cases hf);·split at hf<;>cases hf);have hcf:=auj hM (aKe hm hMD m);(have jn:ade (λk=>if k=g then ai (.ir fn)else au) (exec (FF D) m) g (KJ ps x)=ai (vs.map V.a,ws.map V.a):=by unfold ade;simp only[aK];rw[show KJ ps x=(vsU 0 ps x).map V.a from rfl,hen];simp only[ag,hex];(rcases hxe with rfl|rfl);(·exact aEb);·exact aEb);have Ap:=(hcf g _ _ _ jn).2;have hw:=avw (j:=0) hof;rw[dP]at hw;obtain⟨w1,w2⟩:=hw.split;rw[bf,eJ,<-pO]at w1;rw[bf,eJ,<-nz]at w2;have V7:(res,outs)=JD (ik D H fn ps rs os) y:=h.symm;simp only[JD,bS]at V7;rw[V7.1,V7.2];exact Ap.od (abN hn) w1 w2
  .cases h
end Go.Ab
namespace Go.Ab
open Go.ChangeShapes Go.WideShapes Go.ChangeAt Go.RowKit
mutual
def CT.wf:(c:CT)->c.ty->Prop |.bool,_=>True |.int k,n=>(Lit.int k n).wf=aB |.str,s=>ae s<=Go.maxLen |.sl t,xs=>ae xs<=Go.maxLen/\∀x∈xs,t.wf x |.own t,xs=>JW
def ET.wf:(t:ET)->t.ty->Prop |.one c,x=>c.wf x |.agg cs,x=>cs.wf x
def vq.wf:(cs:vq)->cs.ty->Prop |.nil,_=>True |.cons c cs,x=>c.wf x.1/\cs.wf x.2
end
mutual
def aB6(P:bV):ax->bO->vq->aq (ax×vq)
 |0,_,_=>au
 |n+1,t,cs=>
  match P.underlying t with
  |some .bool=>(match cs with|.cons .bool r=>ai (1,r)|_=>au)
  |some (.int k)=>(match cs with|.cons (.int k') r=>if k=k' then ai (1,r)else au|_=>au)
  |some .string=>(match cs with|.cons .str r=>ai (1,r)|_=>au)
  |some (.slice e)=>(match cs with|.cons (.sl E) r=>if auy P n e E then ai (1,r)else au|_=>au)
  |some (.struct fs)=>(match aA3 P n fs.toList 0 cs with|some (u,r)=>if P.cellsOf t=u then ai (u,r)else au|none=>au)
  |_=>au
def aA3(P:bV):ax->ah Field->ax->vq->aq (ax×vq)
 |0,_,_,_=>au
 |n+1,[],pos,cs=>ai (pos,cs)
 |n+1,f::fs,pos,cs=>
  match aB6 P n f.type cs with
  |some (u,r)=>if f.offset=pos/\P.cellsOf f.type=u then aA3 P n fs (pos+u) r else au
  |none=>au
def auy(P:bV):ax->bO->ET->aW
 |0,_,_=>aA
 |n+1,e,.agg us=>
  match aB6 P n e us with
  |some (u,.nil)=>ao (P.cellsOf e=u)&&ao (us.len=u)&&ao (0<u)
  |_=>aA
 |n+1,e,.one c=>
  match aB6 P n e (.cons c .nil)with
  |some (u,.nil)=>ao (P.cellsOf e=u)&&ao (u=1)
  |_=>aA
end
section
variable {H:Type} {enc:bO×aL->H} {P:bV} {φ:ax->ax} {w:aU} {base:ax} {sp:ax->aW} {held:aW}
def Pre(φ:ax->ax)(w:aU)(Ah:ah aL)(cs r:vq):Prop:=∀(ai0:ah aL) (y:r.ty),dp φ w (λb=>b<w.heap.size) ai0 (r.enc y)->r.wf y->∃x:cs.ty,dp φ w (λb=>b<w.heap.size) (Ah++ai0) (cs.enc x)/\cs.wf x
def Pre.one{v:aL}{c:CT}{r:vq}(x:c.ty)(h:gY φ w (λb=>b<w.heap.size) v (c.enc x))(hw:c.wf x):Pre φ w [v] (.cons c r) r:=λai0 y hy hwy=>⟨(x,y),.cons _ _ _ _ h hy,hw,hwy⟩
def as3:∀(n:ax),
 (∀(t:bO) (cs:vq) (u:ax) (r:vq) (OA:ax) (Ah:ah aL) (x:FI H×ah Ik),aB6 P n t cs=ai (u,r)->aAs enc P w base sp held OA t Ah=ai x->ae Ah=u/\Pre φ w Ah cs r)/\
 (∀(fs:ah Field) (pos:ax) (cs:vq) (u:ax) (r:vq) (Ah:ah aL),aA3 P n fs pos cs=ai (u,r)->ae Ah=u->
   (∀f∈fs,∃OA x,aAs enc P w base sp held OA f.type ((Ah.drop f.offset).take (P.cellsOf f.type))=ai x)->Pre φ w (Ah.drop pos) cs r)/\
 (∀(e:bO) (E:ET) (OA:ax) (Ah:ah aL) (x:FI H×ah Ik),auy P n e E=aB->aAs enc P w base sp held OA e Ah=ai x->
   ae Ah=P.cellsOf e/\P.cellsOf e=E.z/\0<E.z/\∃y:E.ty,dp φ w (λb=>b<w.heap.size) Ah (E.enc y).cells/\E.wf y)
 |0=>⟨λt cs u r OA Ah x h=>by simp[aB6]at h,λfs pos cs u r Ah h=>by simp[aA3]at h,λe E OA Ah x h=>by simp[auy]at h⟩
 |n+1=>by
  obtain⟨ih1,ih2,ih3⟩:=as3 n
  refine⟨λt cs u r OA Ah x h ht=> ?_,λfs pos cs u r Ah h hl hf=> ?_,λe E OA Ah x h ht=> ?_⟩
  .unfold aB6 at h
   split at h
   .rename_i hu
    obtain⟨b,rfl,rfl⟩:=DataW.trod_bool hu ht
    split at h
    .simp only[aC,bS]at h
     obtain⟨rfl,rfl⟩:=h
     exact⟨rfl,Pre.one (c:=.bool) b (.bool b) trivial⟩
    .cases h
   .rename_i k hu
    obtain⟨m,rfl,rfl,hw⟩:=DataW.trod_int hu ht
    split at h
    .split at h
     .rename_i hk
      subst hk
      simp only[aC,bS]at h
      obtain⟨rfl,rfl⟩:=h
      exact⟨rfl,Pre.one (c:=.int k) m (.int k m) hw⟩
     .cases h
    .cases h
   .rename_i hu
    obtain⟨s,rfl,rfl,hs⟩:=DataW.trod_string hu ht
    split at h
    .simp only[aC,bS]at h
     obtain⟨rfl,rfl⟩:=h
     refine⟨rfl,Pre.one (c:=.str) s.data.toList ?_ ?_⟩
     .have:s=⟨s.data.toList.toArray⟩:=by cases s;simp
      exact this▸gY.str s.data.toList
     .show ae s.data.toList<=_
      simpa using hs
    .cases h
   .rename_i e hu
    split at h
    .rename_i E r'
     split at h
     .rename_i hE
      simp only[aC,bS]at h
      obtain⟨rfl,rfl⟩:=h
      rcases Go.Deep.open_slice hu ht with ⟨rfl,_⟩|⟨a,len,cap,m,fu,Dd,Pl,rfl,hb,hlc,hcm,hm,_,hx⟩
      .exact⟨rfl,Pre.one (c:=.sl E) [] (.Rx au 0 _) ⟨jJ _,by intro x hx;cases hx⟩⟩
      .refine⟨rfl,?_⟩
       have hlm:len<=m:=by rw[hm];split<;>omega
       have els:∀i,i<len->∃(Vc:ah aL) (y:E.ty),w.cells? base (a.add (i*P.cellsOf e)) (P.cellsOf e)=ai Vc/\ae Vc=E.z/\P.cellsOf e=E.z/\0<E.z/\dp φ w (λb=>b<w.heap.size) Vc (E.enc y).cells/\E.wf y:=λi hi=>by
        obtain⟨Vc,h1,h2⟩:=hx i (by omega)
        obtain⟨g1,g2,g3,y,g4,g5⟩:=ih3 e E fu Vc _ hE h2
        exact⟨Vc,y,h1,by omega,g2,g3,g4,g5⟩
       by_cases h0:len=0
       .subst h0
        exact Pre.one (c:=.sl E) [] (.Rx (ai a) cap _) ⟨jJ _,by intro x hx;cases hx⟩
       .obtain⟨cs0,y0,q1,q2,q3,q4,_⟩:=els 0 (by omega)
        have aOf:a.spot=au/\a.block<w.heap.size:=by
         obtain⟨_,WW,hc0⟩:=aCE q1
         have h3:=hc0 0 (by omega)
         rw[aE (by omega)]at h3
         simp only[Nat.zero_mul,Addr.add,aK]at h3
         unfold b9 at h3
         split at h3
         .rename_i c t' f' hbk
          refine⟨?_,?_⟩
          .cases hs:a.spot with
           |none=>rfl
           |some p=>rw[hs]at h3;simp at h3
          .rcases bL a.block w.heap.size with dE|hge
           .exact dE
           .rw[qd hge]at hbk;cases hbk
         .cases h3
        obtain⟨b,o,spt⟩:=a
        obtain⟨hsn,hbw⟩:=aOf
        simp only at hsn hbw
        subst hsn
        have build:∀k,k<=len->∃(vs:ah aL) (ys:ah E.ty),ae ys=k/\ae vs=k*E.z/\dp φ w (λb=>b<w.heap.size) vs ((ys.map E.enc).flatMap A.cells)/\dw w b o vs/\∀y∈ys,E.wf y:=by
         intro k
         induction k with
         |zero=>exactλ_=>⟨[],[],rfl,by simp,.nil,dw.nil,by intro y hy;cases hy⟩
         |succ k ihk=>
          intro hk
          obtain⟨vs,ys,e1,e2,e3,e4,e5⟩:=ihk (by omega)
          obtain⟨Vc,y,f1,f2,f3,f4,f5,f6⟩:=els k (by omega)
          refine⟨vs++Vc,ys++ [y],by simp[e1],by simp[e2,f2,eK],?_,?_,?_⟩
          .rw[dP,RH]
           refine e3.append ?_
           simpa using f5
          .refine e4.append ?_
           obtain⟨_,g1,g2⟩:=aCE f1
           intro j v hj
           have hjl:j<ae Vc:=by
            rcases bL j (ae Vc)with h1|h1
            .exact h1
            .rw[bU h1]at hj;cases hj
           have:=g2 j (by omega)
           rw[hj]at this
           rw[<-this,e2,<-f3]
           congr 1
           have aa:∀(x y:ax),(Addr.add ⟨b,x,au⟩ y)=⟨b,x+y,au⟩:=λx y=>by
            unfold Addr.add;split
            .rename_i h;subst h;rfl
            .rfl
           rw[aa,aa]
          .intro z hz
           rcases bt.1 hz with h1|h1
           .exact e5 z h1
           .simp at h1;subst h1;exact f6
        obtain⟨vs,ys,e1,e2,e3,e4,e5⟩:=build len (bx _)
        refine Pre.one (c:=.sl E) ys ?_ ⟨by omega,e5⟩
        have:=gY.sl (φ:=φ) (w:=w) (ok:=λb=>b<w.heap.size) b o cap E.z (ys.map E.enc) vs hbw (λx hx=>by obtain⟨y,_,rfl⟩:=dF.1 hx;exact ET.Im E y) (by rw[bf];omega) e3 e4
        rw[bf,e1]at this
        exact this
     .cases h
    .cases h
   .rename_i fs hu
    split at h
    .rename_i u' r' hfs
     split at h
     .rename_i jy
      simp only[aC,bS]at h
      obtain⟨rfl,rfl⟩:=h
      obtain⟨xs,m,rfl,rfl,eJ,hxl,hx⟩:=DataW.trod_struct hu ht
      refine⟨by omega,?_⟩
      have:=ih2 fs.toList 0 cs _ _ Ah hfs (by omega) (λf hf=>by obtain⟨i,hi,hfi⟩:=List.getElem_of_mem hf;(have Vj:i<fs.size:=by simpa using hi);have h1:=hx i f (by rw[<-rL,aE hi,hfi]);rw[aE (by omega)]at h1;exact⟨m,_,h1⟩)
      simpa using this
     .cases h
    .cases h
   .cases h
  .cases fs with
   |nil=>
    simp only[aA3,aC,bS]at h
    obtain⟨rfl,rfl⟩:=h
    intro ai0 y hy hwy
    exact⟨y,by rw[br (by omega)];exact hy,hwy⟩
   |cons f fs=>
    simp only[aA3]at h
    split at h
    .rename_i u' r' hty
     split at h
     .rename_i hc
      obtain⟨aSc,Ao⟩:=hc
      obtain⟨OA,x,hx⟩:=hf f (by simp)
      obtain⟨Vk,hp1⟩:=ih1 f.type cs u' r' OA _ x hty hx
      have hp2:=ih2 fs (pos+u') r' u r Ah h hl (λg hg=>hf g (by simp[hg]))
      intro ai0 y hy hwy
      obtain⟨y1,hy1,hw1⟩:=hp2 ai0 y hy hwy
      obtain⟨y2,hy2,hw2⟩:=hp1 _ y1 hy1 hw1
      refine⟨y2,?_,hw2⟩
      have e:Ah.drop pos++ai0=(Ah.drop f.offset).take (P.cellsOf f.type)++(Ah.drop (pos+u')++ai0):=by
       rw[aSc,Ao,<-df]
       congr 1
       rw[<-List.drop_drop,aGU]
      rw[e];exact hy2
     .cases h
    .cases h
  .cases E with
   |agg us=>
    simp only[auy]at h
    split at h
    .rename_i u' hty
     simp only[az,aG]at h
     obtain⟨⟨h1,h2⟩,h3⟩:=h
     obtain⟨Vk,hp1⟩:=ih1 e us u' .nil OA Ah x hty ht
     obtain⟨y,hy,hw⟩:=hp1 [] () .nil trivial
     rw[cD]at hy
     exact⟨by omega,by rw[ET.z];omega,by rw[ET.z];omega,y,hy,hw⟩
    .cases h
   |one c=>
    simp only[auy]at h
    split at h
    .rename_i u' hty
     simp only[az,aG]at h
     obtain⟨h1,h2⟩:=h
     obtain⟨Vk,hp1⟩:=ih1 e (.cons c .nil) u' .nil OA Ah x hty ht
     obtain⟨y,hy,hw⟩:=hp1 [] () .nil trivial
     rw[cD]at hy
     refine⟨by omega,by rw[ET.z];omega,by rw[ET.z];omega,y.1,?_,hw.1⟩
     rw[ET.enc,CT.yX]
     exact hy
    .cases h
end
end Go.Ab
namespace Go.Ab
open Go.ChangeShapes Go.WideShapes Go.ChangeAt Go.RowKit
def aoE(P:bV)(n:ax)(t:bO):MT->aW
 |.d (.agg us)=>(match P.underlying t with|some (.struct _)=>auy P n t (.agg us)|_=>aA)
 |.d (.one c)=>(match P.underlying t with|some .bool|some (.int _)|some .string|some (.slice _)=>auy P n t (.one c)|_=>aA)
 |_=>aA
def UY(P:bV)(n:ax):ah bO->ah MT->aW | [],[]=>aB |t::ts,m::ms=>aoE P n t m&&UY P n ts ms |_,_=>aA
def wfM:(m:MT)->m.ty->Prop |.d t,x=>t.wf x |_,_=>JW
def wfU:(ms:ah MT)->Hv ms->Prop | [],_=>True |m::ms,x=>wfM m x.1/\wfU ms x.2
section
variable {H:Type} {enc:bO×aL->H} {P:bV} {φ:ax->ax} {w:aU} {base:ax} {sp:ax->aW}
def aLy{n:ax}{t:bO}{m:MT}(hc:aoE P n t m=aB){v:aL}{d:FI H}{p:ah Ik}{b0:ax}(hv:Gt P w .any b0 t v)(h:DataW.Trod enc P w base sp aB t v d p): ∃x:m.ty,Qt φ w (λb=>b<w.heap.size) v (m.enc 0 x) []/\wfM m x:=by
 obtain⟨OA,h⟩:=h
 cases m with
 |d E=>
  cases E with
  |agg us=>
   simp only[aoE]at hc;split at hc;(·rename_i fs hu;obtain⟨_,_,_,y,hy,hw⟩:=(as3 (φ:=φ) n).2.2 t (.agg us) OA _ _ hc h;simp only[Gt,hu]at hv;obtain⟨cs,rfl,_,_⟩:=hv;refine⟨y,.data _ _ ?_,hw⟩;rw[MT.enc,MT.v,ET.v_a];have:=gY.agg (φ:=φ) (w:=w) (ok:=λb=>b<w.heap.size) cs.toList _ hy;simpa[aoZ,ET.enc,A.cells]using this);·cases hc
  |one c=>
   simp only[aoE]at hc
   have hna:∃u,P.underlying t=ai u/\(u=.bool\/(∃k,u=.int k)\/u=.string\/∃e,u=.slice e)/\auy P n t (.one c)=aB:=by
    split at hc<;>first
     |(rename_i hu;exact⟨_,hu,by simp,hc⟩)
     |cases hc
   obtain⟨u,hu,hk,hc⟩:=hna;obtain⟨_,_,_,y,hy,hw⟩:=(as3 (φ:=φ) n).2.2 t (.one c) OA _ _ hc h
   have jy:v.cells= #[v]:=by
    rcases hk with rfl|⟨k,rfl⟩|rfl|⟨e,rfl⟩<;>
     (simp only[Gt,hu,Cell.okWide,Cell.ok]at hv
      cases v<;>first|rfl|(simp at hv))
   rw[jy]at hy;refine⟨y,.data _ _ ?_,hw⟩;rw[MT.enc,MT.v,ET.v_a];(have hy':dp φ w (λb=>b<w.heap.size) [v] [c.enc y]:=by have e:(ET.enc (.one c) y).cells=[c.enc y]:=CT.yX c y;rw[e]at hy;exact hy);cases hy' with|cons _ _ _ _ h1 _=>exact h1
 |_=>simp[aoE]at hc
def az9{n:ax}:∀{ts:ah bO} {ms:ah MT} {vs:ah aL} {ds:ah (FI H)} {p:ah Ik} {j b0:ax},UY P n ts ms=aB->
 (∀(i:ax) t v,ts[i]? =ai t->vs[i]? =ai v->Gt P w .any b0 t v)->RB enc P w base sp aB ts vs ds p->
 ∃x:Hv ms,gy φ w (λb=>b<w.heap.size) vs ((vsU j ms x).map V.a) []/\wfU ms x/\ae ds=ae ts
 | [],[],vs,ds,p,j,b0,_,_,h=>by obtain⟨rfl,rfl,rfl⟩:=trodAll_nil h;exact⟨(),.nil,trivial,rfl⟩
 | [],_::_,_,_,_,_,_,hc,_,_=>by simp[UY]at hc
 |_::_,[],_,_,_,_,_,hc,_,_=>by simp[UY]at hc
 |t::ts,m::ms,vs,ds,p,j,b0,hc,hv,h=>by
  simp only[UY,az]at hc;obtain⟨v,vs',d,ds',p1,p2,rfl,rfl,rfl,h1,h2⟩:=trodAll_cons h;obtain⟨x,hx,hwx⟩:=aLy (φ:=φ) hc.1 (hv 0 t v rfl rfl) h1;obtain⟨y,hy,hwy,hl⟩:=az9 (j:=j+1) hc.2 (λi t v ht rW=>hv (i+1) t v (by simpa using ht) (by simpa using rW)) h2;refine⟨(x,y),?_,⟨hwx,hwy⟩,by simp[hl]⟩;simp only[vsU,aY];have TL:Qt φ w (λb=>b<w.heap.size) v (m.v j x).a []:=by(have:(m.v j x).a=m.enc 0 x:=by cases m<;>first|rfl|(simp[aoE]at hc));rw[this];exact hx
  exact .cons _ _ [] _ _ [] TL hy
def aa5{W W':aU}{sp':ax->aW}(hl:laidOutB P=aB):∀{ts:ah bO} {vs:ah aL} {ds:ah (FI H)} {p:ah Ik},
 (∀t∈ts,P.readableRec t=aB/\t<P.types.size)->RB enc P W 0 (λ_=>aB) aB ts vs ds p->(∀q∈p,W.sameAt W' q)->(∀q∈p,sp' q.block=aB)->RB enc P W' 0 sp' aB ts vs ds p
 | [],vs,ds,p,_,h,_,_=>by obtain⟨rfl,rfl,rfl⟩:=trodAll_nil h;exact trodAll_mk0
 |t::ts,vs,ds,p,hr,h,hs,hsp=>by obtain⟨v,vs',d,ds',p1,p2,rfl,rfl,rfl,h1,h2⟩:=trodAll_cons h;exact trodAll_cons_mk (Go.WideElems.Trod_stays hl (hr t (by simp)).1 (hr t (by simp)).2 h1 (λq hq=>hs q (dZ _ hq)) (λq hq=>hsp q (dZ _ hq))) (aa5 hl (λt ht=>hr t (by simp[ht])) h2 (λq hq=>hs q (bN _ hq)) (λq hq=>hsp q (bN _ hq)))
def avJ{f:Func}{s:ChangeSpec}{apart amg alv aza:aW}{W W':aU}{args:kZ aL}{v:aL}{ds gs:ah (FI H)}{uv pa pv:ah Ik} (hW:aAr enc P f.params.toList s.vars apart W args.toList ds gs uv) (V7:∀(b:ax) (sp:ax->aW) (hd:aW),RB enc P W' b sp hd f.resultTypes.toList (v.resultList f.resultTypes.size) (s.fn H (ds++gs)).results []) (ui:∀sp:ax->aW,(∀p∈uv,sp p.block=aB)->RB enc P W' 0 sp aB f.params.toList args.toList (s.fn H (ds++gs)).args pa) (au2:∀sp:ax->aW,(∀p∈uv,sp p.block=aB)->DataW.TrodVars enc P W' sp s.vars (s.fn H (ds++gs)).vars pv) (hps:uv=pa++pv) (hk:W.keptBut W' (· ∈uv)) (hfz:∀a:afQ,a.block<W.heap.size->W'.frozen? a=W.frozen? a) (Ap:∀(j:ax) (t:bO) (r:aL),f.resultTypes[j]? =ai t->(v.resultList f.resultTypes.size)[j]? =ai r->Gt P W' .any 0 t r): s.post enc P f apart amg alv aza W args v W':=by
 have adu:∀p∈uv,(λb=>ao (b<W.heap.size)) p.block=aB:=λp hp=>by simpa using hW.lt p hp
 have dE:=λp hp=>hW.lt (p:=p) hp;refine⟨ds,gs,uv,[],pa,pv,hW,V7 _ _ _,ui _ adu,au2 _ adu,World.keptBut_mono (λp hp=>⟨hp,?_⟩) hk,λ_=> ?_⟩;·rw[hps,bt]at hp;exact Or.inr hp
 .obtain⟨_,_,_,_,_,hz,hn⟩:=hW;refine⟨Ap,_,_,([]++pa)++pv,⟨[]++pa,pv,trodAll_append (ui _ (λ_ _=>rfl)) (V7 _ _ _),au2 _ (λ_ _=>rfl),rfl,?_,?_⟩,?_⟩;·intro b off hp;(have hp':MemPlace.cell b off∈uv:=by rw[hps];simpa using hp);rw[hfz _ (dE _ hp')];exact hz b off hp'
  .intro ha;have:=hn ha;rw[hps]at this;simpa using this
  .intro p hp _;rw[hps];simpa using hp
def ata{g:ax}{c:Callee}(Ap:oQ P φ g c){f:Func}{s:ChangeSpec}{tb:bO}{n:ax}(au2:s.vars=[])(V7:f.resultTypes= #[tb])(htb:P.underlying tb=ai .bool)
 (hps:UY P n f.params.toList c.ps=aB) (Oq:Gb c.ps=aB) (aRP:∀x,wfU c.ps x->∃y,c.f x=ai y/\JD c y=([A.bool aB],[]))
 (aNS:laidOutB P=aB) (aN8:∀t∈f.params.toList,P.readableRec t=aB/\t<P.types.size)
 (aEq:∀(H:Type) (ds:ah (FI H)),ae ds=ae f.params.toList->s.fn H ds={results:=[.lit (.bool aB)],args:=ds})
 (W:aU) (b0:ax) (args:kZ aL) (ds gs:ah (FI H)) (uv:ah Ik)
 (amr:∀(j:ax) t v,f.params[j]? =ai t->args[j]? =ai v->Gt P W .any b0 t v)
 (hW:aAr enc P f.params.toList s.vars aA W args.toList ds gs uv) (hgl:Dv P (λb=>b<W.heap.size) W):
 fF P (φ g) args W λe W'=>∃v,e=.returned v/\s.post enc P f aA aB aA aA W args v W':=by
 have hW':=hW
 obtain⟨p,q,hA,hV,rfl,hfz,Jg⟩:=hW
 rw[au2]at hV
 obtain⟨rfl,rfl⟩:=trodVars_none hV
 obtain⟨x,hx,hwx,eJ⟩:=az9 (φ:=φ) (j:=0) hps (λi t v ht hv=>amr i t v (by rw[<-rL];exact ht) (by rw[<-rL];exact hv)) hA
 obtain⟨y,hy,hr⟩:=aRP x hwx
 have hcf:c.cf (KJ c.ps x)=ai ([A.bool aB],[]):=by
  have hn:Dj c.ps (KJ c.ps x)=KJ c.ps x:=by(have:∀(ms:ah MT) (x:Hv ms) (j:ax) (ts:ah bO),UY P n ts ms=aB->Dj ms ((vsU j ms x).map V.a)=(vsU j ms x).map V.a:=by intro ms;induction ms with|nil=>intro x j ts _;rfl|cons m ms ih=>intro x j ts hc;cases ts with|nil=>simp[UY]at hc|cons t ts=>simp only[UY,az]at hc;simp only[vsU,aY,Dj,ih x.2 (j+1) ts hc.2,dU,pN];cases m with|d E=>(unfold MT.norm;split<;>first|rfl|(rename_i h _;cases h))|_=>simp[aoE]at hc);exact this c.ps x 0 _ hps
  rw[Callee.aun Oq hn,hy,aS,hr]
 have Ip:=Ap.2 _ _ _ hcf W (λb=>b<W.heap.size) args.toList [] hx ib (λb hb=>by cases hb) (λb hb=>hb) hgl
 rw[show args.toList.toArray=args from by simp]at Ip
 refine Ip.mono λe W' hb=> ?_
 obtain⟨v,rfl,hb⟩:=hb
 obtain⟨qQ,K',rb,ob,hv,_,_,R8,_,_,_⟩:=hb.rest
 have hvb:v=.bool aB:=by cases R8 with|cons v0 _ _ vs _ _ h1 h2=>cases h2;cases h1 with|data _ h3=>cases h3;exact hv
 subst hvb
 refine⟨_,rfl,?_⟩
 have Vh:∀b,b<W.heap.size->W'.heap[b]? =W.heap[b]? :=λb hb1=>hb.frame b hb1 (by simp)
 simp only[cD]at hW'
 have aOd:∀q∈p,W.sameAt W' q:=λq hq=>by have dE:=DataW.TrodAll.lt hA q hq;cases q with|cell b off=>exact cell?_of_block (Vh b dE) off|map b=>exact Vh b dE
 refine avJ (pa:=p) (pv:=[]) hW' (λb sp hd=> ?_) (λsp hsp=> ?_) (λsp _=> ?_) (by simp) ?_ (λa ha=> ?_) (ok_one V7 rfl (okWide_bool_mk htb _))
 .rw[cD,aEq H ds eJ,V7]
  exact trodAll_cons_mk (shut_bool htb _) trodAll_mk0
 .rw[cD,aEq H ds eJ]
  exact aa5 aNS aN8 hA aOd hsp
 .rw[cD,aEq H ds eJ,au2]
  rfl
 .refine⟨hb.env.1,hb.env.2,λi hi=> ?_⟩
  have:=Vh i hi
  rw[this]
  cases hh:W.heap[i]? with
  |none=>trivial
  |some o=>
   cases o with
   |cells c t fr=>exact⟨rfl,rfl,rfl,λj _=>rfl⟩
   |map es aNc=>exact .inr ⟨rfl,rfl⟩
   |_=>rfl
 .cases a with
  |mk b o sp=>exact hb.fr b o ha
end
end Go.Ab
namespace Go.Ab
def fp{n:aw}(h1: -9223372036854775808<=n)(h2:n<9223372036854775808):aj ak n=n:=by
 have e:aj ak n=if ao (n%18446744073709551616>=9223372036854775808)then n%18446744073709551616-18446744073709551616 else n%18446744073709551616:=rfl
 rw[e];split;·rename_i h;simp only[aG]at h;omega
 .rename_i h;simp only[aG]at h;omega
def jM:cQ=9223372036854775807:=rfl
def ez:lim=1099511627776:=rfl
end Go.Ab
namespace Go.Ab
open Go.RowKit
section
variable {P:bV} {φ:ax->ax}
def hZ.below{z:ax}{w w':aU}(h:Below w.heap.size w w'){b n:ax}(hr:hZ z w b n):hZ z w' b n:=hr.of_block (h.block b hr.lt)
def Ga:A->aW |.iU .. |.l7 ..=>aB |_=>aA
def jF.RT{w:aU}{K:ax->Prop}:∀{vs:ah aL} {ab:ah A},ae vs=ae ab->ab.any Ga=aA->jF φ w K vs ab [] []
 | [],[],_,_=>.nil
 | [],_::_,h,_=>by simp at h
 |_::_,[],h,_=>by simp at h
 |v::vs,a::ab,h,hn=>by simp only[oy,so]at hn;exact .data _ _ _ _ _ _ ⟨λz xs e=>by subst e;simp[Ga]at hn,λz xs e=>by subst e;simp[Ga]at hn⟩ (jF.RT (by simpa using h) hn.2)
def gy.len{w:aU}{K:ax->Prop}{vs:ah aL}{ab:ah A}{bs:ah ax}(h:gy φ w K vs ab bs):ae vs=ae ab:=by induction h with|nil=>rfl|cons _ _ _ _ _ _ _ _ ih=>simp[ih]
def gy.am6{w:aU}{K:ax->Prop}{vs:ah aL}{ab:ah A}{bs:ah ax}(h:gy φ w K vs ab bs)(hn:ab.any Ga=aA):dp φ w K vs ab/\bs=[]:=by induction h with|nil=>exact⟨.nil,rfl⟩|cons v a b vs ab bs h t ih=>simp only[oy,so]at hn;obtain⟨i1,i2⟩:=ih hn.2;cases h with|data _ h'=>exact⟨.cons _ _ _ _ h' i1,by simp[i2]⟩|iU=>simp[Ga]at hn|l7=>simp[Ga]at hn
def gz.ml{w:aU}{K:ax->Prop}:∀{vs:ah aL} {ab:ah A},dp φ w K vs ab->gz φ w K vs ab [] |_,_,.nil=>.nil |_,_,.cons v a vs ab h t=>.cons _ _ [] _ _ _ (.data _ _ h) (gz.ml t)
def dx.A8{g:ax}{ab res:ah A}(hn:ab.any Ga=aA) (h:∀(w:aU) (K:ax->Prop) (vs:ah aL),dp φ w K vs ab->(∀b,K b->b<w.heap.size)->Dv P K w-> fF P (φ g) vs.toArray w λe w'=>∃qQ K' rb,e=.returned (IQ qQ)/\Below w.heap.size w w'/\(∀b,K b->K' b)/\(∀b,K' b->K b\/(w.heap.size<=b/\b<w'.heap.size))/\ gz φ w' K' qQ res rb/\rb.Nodup/\∀b∈rb,¬K' b/\b<w'.heap.size/\w.heap.size<=b):dx P φ g ab res []:=by intro w K vs bs ha Jg hKb hKz hG;obtain⟨hr,rfl⟩:=ha.am6 hn;refine(h w K vs hr hKz hG).mono λe w' hh=> ?_;obtain⟨qQ,K',rb,rfl,hb,h1,h2,h3,h4,h5⟩:=hh;refine⟨_,rfl,hb.size,λb hb' _=>hb.block b hb',⟨hb.os,hb.output⟩,λb off hb'=>kC (hb.block b hb') off,λb n hr=>hr.below hb,?_⟩;refine⟨qQ,K',rb,[],rfl,h1,λb hb'=>(h2 b hb').elim .inl λh=>.inr (.inr h),h3,jF.RT ha.len hn,by simpa using h4,λb hb'=> ?_⟩;rw[cD]at hb';exact⟨(h5 b hb').1,(h5 b hb').2.1,.inr (h5 b hb').2.2⟩
def dx.XD{g:ax}{ab res:ah A}(hn:ab.any Ga=aA) (h:∀(w:aU) (K:ax->Prop) (vs:ah aL),dp φ w K vs ab->(∀b,K b->b<w.heap.size)->Dv P K w-> fF P (φ g) vs.toArray w λe w'=>∃qQ,e=.returned (IQ qQ)/\Below w.heap.size w w'/\dp φ w (λ_=>JW) qQ res):dx P φ g ab res []:=by refine dx.A8 hn λw K vs hr hK hG=>(h w K vs hr hK hG).mono λe w' hh=> ?_;obtain⟨qQ,rfl,hb,h3⟩:=hh;refine⟨qQ,K,[],rfl,hb,λ_ h=>h,λ_ h=>.inl h,?_,ib,λb hb=>by cases hb⟩;exact gz.ml (h3.mono (λ_ h=>h.elim) (λ_ h=>h.elim))
def oQ.none{g:ax}{io:ah aW}{ps rs os:ah MT}(he:lA P (φ g)):oQ P φ g ⟨io,ps,rs,os,λ_=>au⟩:=by
 refine⟨he,λab res outs hc=> ?_⟩;unfold Callee.cf at hc;split at hc;·simp at hc
 .cases hc
def aus:ah MT->aW | []=>aB |.d _::ms=>aus ms |_=>aA
def LY:∀{ms:ah MT} {ab:ah A},aus ms=aB->Dj ms ab=ab
 | [],ab,_=>by cases ab<;>rfl
 |.d E::ms,[],_=>rfl
 |.d E::ms,a::ab,h=>by
  have:(MT.d E).norm a=a:=by unfold MT.norm;split<;>first|rfl|(rename_i e;exact bG e (by simp))
  rw[Dj,this,LY (ms:=ms) h]
 |.p _::_,_,h|.tok _::_,_,h|.box _::_,_,h|.l7 _::_,_,h|.fn _ _::_,_,h|.gone::_,_,h=>by simp[aus]at h
def oQ.mK{g:ax}{c:Callee}(he:lA P (φ g))(hd:aus c.ps=aB)(ho:c.os=[]) (h:∀x y,c.f x=ai y->dx P φ g (KJ c.ps x) (JD c y).1 (JD c y).2):oQ P φ g c:=by
 refine⟨he,λab res outs hc=> ?_⟩;unfold Callee.cf at hc;split at hc;·rename_i hx;obtain⟨y,hy,hr⟩:=aM.1 hc;have h1:=h _ _ hy;rw[hr]at h1;have e:ab=KJ c.ps hx.choose:=(LY hd).symm.trans hx.choose_spec.2;generalize hx.choose=x at e h1;subst e;exact h1
 .cases hc
end
end Go.Ab
namespace Go.Ab
noncomputable def amf:Callee:={io:=[],ps:=[.d (.one (.int .i64)),.d (.one (.int .i64))],rs:=[.d (.one .str)],os:=[],f:=λx=>if ao (x.2.1=10)&&(ao (-9223372036854775808<=x.1)&&ao (x.1<=9223372036854775807))then ai (bT x.1)else au}
noncomputable def aDH:Callee:={io:=[],ps:=[.d (.one .str),.d (.one .str)],rs:=[.d (.one .str),.d (.one .str),.d (.one .bool)],os:=[],f:=λx=>if ao (ae (α:=ay) x.1<4294967281)then ai (TA x.1 x.2.1)else au}
noncomputable def az1:Callee:={io:=[],ps:=[.d (.one .str),.d (.one (.int .i64))],rs:=[.d (.one .str)],os:=[],f:=λx=>if ao (0<=x.2.1)&&(ao (x.2.1<=9223372036854775807)&&ao (ae (α:=ay) x.1*x.2.1.toNat<=140737488355328))then ai (arR x.1 x.2.1.toNat)else au}
noncomputable def aot:Callee:={io:=[],ps:=[.d (.one .str),.d (.one .str)],rs:=[.tok (.one .str)],os:=[],f:=λx=>if ao (ae (α:=ay) x.1<4294967281)&&ao (1<=ae (α:=ay) x.2.1)then ai (Aw x.2.1 0 (WI x.1 x.2.1) x.1)else au}
noncomputable def aJr:Callee:={io:=[],ps:=[.d (.one (.sl (.one .str))),.d (.one .str)],rs:=[.d (.one .str)],os:=[],f:=λx=>if ao (ae (α:=ah ay) x.1<=140737488355328)&&ao (ae (jT x.1 x.2.1)<=140737488355328)then ai (jT x.1 x.2.1)else au}
def cW(l:ah ay):aw×aW:=
 if 18<ae (iY l [45])then(0,aA)else
 match Lib.parseIntB 64 l with
 |.ok v=>if bT v=l then(v,aB)else(0,aA)
 |_=>(0,aA)
noncomputable def avN:Callee:={io:=[],ps:=[.d (.one .str)],rs:=[.d (.one (.int .i64)),.d (.one .bool)],os:=[],f:=λx=>ai (cW x.1)}
@[reducible] def aa4:ET:=.agg (.cons .str (.cons (.int .i64) (.cons (.int .i64) (.cons (.sl (.one (.int .i64))) .nil))))
def ali(xs:ah aa4.ty)(j:ax):aa4.ty:=(xs[j]?).getD ([],0,0,[],())
noncomputable def aEL(ys:ah (ah ay)):Callee:={io:=[],ps:=[],rs:=[.tok (.one .str)],os:=[],f:=λ_=>ai ys}
def AV:ah (ah ay):=[[98,101,110,99,104,101,115],[99,108,101,97,110],[99,117,116],[100,114,121],[102,105,116],[103,108,117,101],[104,101,108,112],[109,97,115,115],[109,111,100,101],[110,101,99,107],[110,111,116,101],[111,112,101,110],[112,97,112,101,114],[112,101,103],[112,108,97,116,101],[112,111,116],[114,101,112,111,114,116],[114,105,98],[115,104,105,109],[115,104,111,119],[115,116,97,99,107],[116,104,105,110],[116,114,117,115,116],[119,111,108,102],[119,111,114,107]]
end Go.Ab
namespace Go.Ab
def amT{P:bV}{n:String}{d:FI mW}{r:ah (String×FI mW)}{W:aU}{g:ax}{ti:bO}{ms:kZ (String×bO)} (h:laidMet P ((n,d)::r) W) (hd:∃nm d',d=.iface nm d') (hg:P.globalNamed n=ai g) (ht:(P.globals[g]?).map (·.type)=ai ti) (hi:P.underlying ti=ai (.interface ms)): ∃u v,W.var? P n=ai #[.iface u v]:=by obtain⟨nm,d',rfl⟩:=hd;obtain⟨ps,⟨g0,t0,cs0,f0,p0,q0,hg0,ht0,hv0,hd0,_,e0⟩,_,aUJ⟩:=h;obtain rfl:=cA (hg.symm.trans hg0);obtain rfl:=cA (ht.symm.trans ht0);obtain⟨_,u,v,oz,_⟩:=iface_of_trod hi hd0;refine⟨u,v,?_⟩;rw[hv0];congr 1;exact aa7 oz
section
variable {H:Type} {enc:bO×aL->H}
def X5{a:Assume}{C:Checked}{os:Os}{f:FuncId}{fn:Func}{s:ChangeSpec}{aI1:ah PathCond}{apart amg alv aza:aW}{laid:ah (String×FI mW)} (own:ownKnob C.prog.godebug=au) (afy:os.Started) (aLf:C.prog.inits.idxOf? f=au) (hfn:C.prog.funcs[f]? =ai fn) (aIG:∃(w:aU) (tape:Tape) (i:Input),w.os=os/\(w.forCall tape i).Shaped C.prog/\i.vars=[]/\Input.okWide C.prog (w.forCall tape i) .any w.heap.size f i/\ ((s.pre enc C.prog fn aI1 apart (w.forCall tape i).memory i.args/\laidMetH C.prog laid (w.forCall tape i).memory)/\sizedMet enc C.prog fn (Zo s) apart (w.forCall tape i).memory i.args)/\a.holds C.prog (lone (Frame.enter C.prog f i.args .normal) [] (w.forCall tape i))) (al5:∀(W:aU) (base:ax) (args:kZ aL) (ds gs:ah (FI H)) (uv:ah Ik), (∀(j:ax) t v,fn.params[j]? =ai t->args[j]? =ai v->Gt C.prog W .any base t v)-> aAr enc C.prog fn.params.toList s.vars apart W args.toList ds gs uv-> laidMetH C.prog laid W->W.ShapedOpen C.prog-> fF C.prog f args W λe W'=>∃v,e=.returned v/\s.post enc C.prog fn apart amg alv aza W args v W'): ReturnsInHanded a C os f .any (λw args=>(s.pre enc C.prog fn aI1 apart w args/\laidMetH C.prog laid w)/\sizedMet enc C.prog fn (Zo s) apart w args) (s.post enc C.prog fn apart amg alv aza):=by refine returnsInHanded_of_calls own afy aLf aIG ?_;intro w tape i _ hsh _ Ap aSh aRI;obtain⟨_,_,_,fn',aRD,_,_,_,_,amr⟩:=Ap;have e:fn'=fn:=cA (aRD.symm.trans hfn);subst e;obtain⟨⟨⟨ds,gs,uv,hw,hc⟩,hx⟩,hz⟩:=aSh;have hw':=DataW.Whole.of_heap (w':=w.forCall tape i) (by rfl) hw;refine(al5 (w.forCall tape i) w.heap.size i.args ds gs uv amr hw' (hx.of_heap (by rfl)) hsh).mono λe W' ⟨v,he,hp⟩=> ?_;subst he;exact ChangeSpec.post_blind hp
end
end Go.Ab
namespace Go.Ab
structure Q where
 x:ax
 l:ax
abbrev Rd(α:Type):=Q->α×Q
def rt{α:Type}(a:α):Rd α:=λq=>(a,q)
noncomputable section
def bd{α β:Type}(m:Rd α)(f:α->Rd β):Rd β:=λq=>Prod.rec (λa q=>f a q) (m q)
instance :Pure Rd:=⟨rt⟩
instance :Bind Rd:=⟨bd⟩
def str{β:Type}(x:ax)(k:ax->β):β:=Nat.rec (k 0) (λn _=>k (n+1)) x
def nth{α:Type}(d:α):ah α->ax->α | [],_=>d |a::_,0=>a |_::l,n+1=>nth d l n
def scan(l:ax)(t:ah ax):ax->ax->ax->ax×Q:=List.rec (λ_ i _=>(i,⟨0,l⟩)) (λf _ k r i y=>Bool.rec (str (f*y+r) λx=>(i,⟨x,l⟩)) (k (r-f) (i+1) y) (Nat.ble f r)) t
def t0:ah ax:=[244,83,155,282,173,56,19,7,3,1,1]
def t1:ah ax:=[1005,18,1]
def t2:ah ax:=[797,1,108,118]
def t4:ah ax:=[602,158,52,25,36,19,23,16,7,8,15,15,7,1,6,4,1,2,1,1,1,1,1,1,1,1,1,1,1,1,1,1,1,1,1,1,1,1,1,1,3,1,1]
def t5:ah ax:=[738,283,1,1,1]
def t6:ah ax:=[561,178,152,112,17,2,1,1]
def t7:ah ax:=[55,33,75,58,87,71,53,27,75,25,28,19,22,38,25,68,25,13,10,31,25,24,4,5,1,1,1,19,5,1,1,6,3,1,1,1,1,1,1,1,1,1,15,1,1,1,1,1,1,1,1,1,5,1,1,1,1,3,1,1,1,1,1,1,1,1,1,1,1,1,1,1,1,1,1,1,1,1,1,1,1,1,1,1,1,1,1,1,1,1,1,1,1,1,1,8]
def t8:ah ax:=[0,747,78,199]
def t9:ah ax:=[15,12,346,549,100,1,1]
def t10:ah ax:=[60,2,2,29,81,94,210,245,136,57,28,28,29,18,3,1,1]
def t11:ah ax:=[0,421,240,221,67,25,15,11,8,7,3,3,1,1,1]
def t12:ah ax:=[287,109,38,199,48,156,59,49,56,10,11,2]
def t13:ah ax:=[944,80]
def t14:ah ax:=[1024]
def t15:ah ax:=[4,1,208,444,230,72,47,8,8,1,1]
def t17:ah ax:=[566,1,1,1,1,1,296,8,41,8,21,1,4,74]
def t18:ah ax:=[110,7,5,428,103,124,53,48,49,29,23,13,23,9]
def t20:ah ax:=[1014,1,3,2,1,1,1,1]
def t23:ah ax:=[214,810]
def t24:ah ax:=[366,658]
def t25:ah ax:=[886,76,32,28,1,1]
def t28:ah ax:=[825,72,21,30,72,2,1,1]
def t29:ah ax:=[96,494,36,105,26,13,1,1,1,1,57,18,24,6,2,136,5,1,1]
def t33:ah ax:=[1,202,444,186,144,42,3,1,1]
def t35:ah ax:=[34,1,780,99,56,8,15,3,5,3,1,11,2,6]
def t39:ah ax:=[935,0,78,8,0,0,3]
def t45:ah ax:=[6,4,54,328,289,99,135,47,5,4,8,21,3,3,1,13,2,1,1]
def t46:ah ax:=[414,384,79,130,15,1,1]
def t47:ah ax:=[789,0,0,2,0,16,0,102,93,8,14]
def t48:ah ax:=[248,37,258,266,19,5,47,1,40,3,23,19,1,13,14,0,11,0,0,2,2,0,0,0,0,3,2,1,8,1]
def t50:ah ax:=[216,220,232,132,224]
def t52:ah ax:=[364,286,374]
def t53:ah ax:=[1,5,1,120,168,351,282,94,1,1]
def t54:ah ax:=[343,1,541,30,35,35,1,10,3,14,1,3,3,4]
def t59:ah ax:=[105,0,793,126]
def t71:ah ax:=[15,995,0,1,0,7,0,0,0,0,0,0,0,4,1,0,0,1]
def t75:ah ax:=[90,1,1,864,14,3,4,6,7,7,7,8,4,8]
def t118:ah ax:=[567,258,53,8,24,0,13,0,0,0,11,28,0,0,9,0,20,31,0,0,1,0,0,0,0,0,0,0,1]
def t119:ah ax:=[294,45,127,123,14,110,23,43,72,23,94,11,1,0,0,4,4,0,0,1,2,9,0,8,2,12,1,0,0,1]
def t121:ah ax:=[342,313,35,39,0,15,12,0,0,1,34,10,191,0,0,0,0,0,1,6,2,2,2,5,4,0,10]
def t122:ah ax:=[293,191,87,15,1,3,16,47,9,232,0,18,106,1,4,0,1]
def t124:ah ax:=[0,0,0,0,2,0,1022]
def t125:ah ax:=[4,2,0,13,860,0,50,0,0,0,0,0,0,95]
def t126:ah ax:=[7,354,0,23,0,30,0,550,0,0,0,0,0,0,57,0,0,0,0,0,3]
def t133:ah ax:=[14,202,0,7,0,0,0,0,0,0,0,7,0,592,118,0,42,42]
def t146:ah ax:=[6,537,455,26]
def t147:ah ax:=[758,184,19,0,0,60,0,0,0,3]
def t151:ah ax:=[843,180,0,1]
def t170:ah ax:=[493,531]
def t181:ah ax:=[68,439,183,0,242,57,0,1,33,0,1]
def t182:ah ax:=[103,619,0,280,0,0,0,16,6]
def t183:ah ax:=[4,38,0,673,0,0,0,279,30]
def t184:ah ax:=[105,437,0,0,0,0,482]
def t185:ah ax:=[0,0,0,0,0,0,0,0,1009,15]
def t190:ah ax:=[651,1,59,98,12,26,5,22,23,26,36,25,26,14]
def t199:ah ax:=[12,1,1,788,115,41,19,14,7,8,3,4,5,6]
def t261:ah ax:=[35,0,0,0,0,989]
def tD:ah (ah ax):=[t2,t59,t39,t20,t20,t39,t20,t14,t14,t14,t14,t2,t14,t71,t59,t14,t20,t75,t14,t14,t2,t14,t14,t14,t14,t14,t14,t14,t2,t14]
def tW:ah (ah ax):=[t14,t5,t14,t13,t14,t14,t14,t14,t14,t14,t14,t13,t14,t71,t71,t71,t14,t71,t14,t14,t14,t14,t14,t14,t14,t14,t14,t14,t14,t14]
def tG:ah (ah ax):=[t25,t14,t151,t151,t151,t151,t25,t14,t13,t151,t151,t14,t39,t14,t14,t14,t14,t14,t14,t14,t13,t170,t14,t14,t14,t151,t13,t170,t14,t14]
def tO:ah (ah ax):=[t118,t119,t71,t121,t122,t48,t124,t125,t126,t48,t121,t125,t29,t121,t71,t133,t71,t133,t71,t71,t11,t7,t48,t71,t29,t18,t48,t7,t146,t147,t75]
def aNb:ah ax:=[101,32,116,97,114,111,110,105,115,108,100,104,109,99,117,112,103,98,121,107,119,102,48,50,52,49,51,45,44,58,53,120,118,54,55,56,57,122,113,106,33,34,35,36,37,38,39,40,41,42,43,46,47,59,60,61,62,63,64,65,66,67,68,69,70,71,72,73,74,75,76,77,78,79,80,81,82,83,84,85,86,87,88,89,90,91,92,93,94,95,96,123,124,125,126,10,0,1,2,3,4,5,6,7,8,9,11,12,13,14,15,16,17,18,19,20,21,22,23,24,25,26,27,28,29,30,31,127,128,129,130,131,132,133,134,135,136,137,138,139,140,141,142,143,144,145,146,147,148,149,150,151,152,153,154,155,156,157,158,159,160,161,162,163,164,165,166,167,168,169,170,171,172,173,174,175,176,177,178,179,180,181,182,183,184,185,186,187,188,189,190,191,192,193,194,195,196,197,198,199,200,201,202,203,204,205,206,207,208,209,210,211,212,213,214,215,216,217,218,219,220,221,222,223,224,225,226,227,228,229,230,231,232,233,234,235,236,237,238,239,240,241,242,243,244,245,246,247,248,249,250,251,252,253,254,255]
def rd(t:ah ax):Rd ax:=λq=>str (q.x%1024) λr=>scan q.l t r 0 (q.x/1024)
def bits(k:ax):Rd ax:=λq=>str (q.x/2^k) λx=>str (q.x%2^k) λv=>(2^k+v,⟨x,q.l⟩)
def rn(c:ah ax):Rd ax:=do match<-rd c with|0=>rt 0|k+1=>bits k
def rb(c:ah ax):Rd aW:=do match<-rd c with|0=>rt aA|_=>rt aB
def rep{α:Type}(m:Rd α)(n:ax):Rd (ah α):=Nat.rec (rt []) (λ_ k=>bd m λa=>bd k λl=>rt (a::l)) n
def ls{α:Type}(c:ah ax)(m:Rd α):Rd (ah α):=do rep m (<-rn c)
def rf(c:ah ax):Rd ax:=do match<-rd c with|0=>rn t0|k+1=>λq=>(q.l+1-k,q)
def rik:Rd aLN:=do match<-rd t1 with|0=>rt .i64|1=>rt .u8|_=>rt .u64
section
variable (F:ah ax)
def rA:ax->ah ax->Rd A
 |0,_=>rt .any
 |n+1,t=>do match<-rd t with
  |0=>do
   let k<-rik
   match<-rd t1 with
   |0=>return .int k (Int.ofNat (<-rn t4))
   |_=>return .int k (-(Int.ofNat (<-rn t4)))
  |1=>return .bool (<-rb t5)
  |2=>return .str ((<-ls t6 (rd t7)).map λi=>dW (nth 0 aNb i))
  |3=>return .lz (<-rn t8)
  |4=>return .sl (<-rn t8) []
  |5=>return .agg (<-ls t9 (rA n t2))
  |_=>return .fn (<-do match<-rd t11 with|0=>rn t10|i+1=>rt (nth 0 F i)) []
def rx(c d e:ah ax):Rd dI:=do match<-rd c with|0=>return .t (<-rf d)|_=>return .c (<-rA F 9 e)
def ro{α:Type}(c:ah ax)(m:Rd α):Rd (aq α):=do match<-rd c with|0=>rt au|_=>return ai (<-m)
def aTw:Rd aoY:=do match<-rd t12 with
 |0=>rt .add|1=>rt .sub|2=>rt .mul|3=>rt .lss|4=>rt .neq|5=>rt .eql|6=>rt .gtr|7=>rt .geq|8=>rt .leq|9=>rt .quo|10=>rt .rem|_=>rt .shl
def rcv:Rd Conv:=do match<-rd t13 with|0=>return .int (<-rik)|_=>rt .RN
def rO(t:ax):Rd O:=do match t with
 |0=>return .mv (<-rx F t1 t190 t14)
 |1=>return .asg (<-rx F t170 t35 t46)
 |2=>return .bin (<-aTw) (<-rx F t1 t18 t39) (<-rx F t170 t199 t39)
 |3=>return .call (<-rx F t71 t10 t124) (<-ls t146 (rx F t5 t199 t39))
 |4=>return .ld (<-ro t151 (rn t9)) (<-rx F t14 t75 t14)
 |5=>return .aed (<-rx F t14 t75 t14)
 |6=>return .fa (<-rn t50) (<-rx F t14 t75 t14)
 |7=>return .ext (<-rx F t14 t10 t14) (<-rn t46)
 |8=>return .len (<-rx F t14 t75 t14)
 |9=>return .un (match<-rd t1 with|0=>.not|_=>.neg) (<-rx F t14 t75 t14)
 |10=>return .ia (<-rn t8) (<-rx F t14 t45 t14) (<-rx F t5 t199 t14)
 |11=>return .bsl (<-rn t8) (<-rA F 9 t54) (<-rn t46) (<-ls t46 (do return (<-rn t0,<-rx F t170 t75 t54)))
 |12=>return .pick (<-rx F t14 t10 t14) (<-rx F t5 t75 t71) (<-rx F t24 t75 t71)
 |13=>return .sto (<-rn t11) (<-rx F t14 t54 t14) (<-rx F t1 t35 t182)
 |14=>return .alloc (<-rn t9) (<-rA F 9 t261)
 |15=>return .app (<-rn t8) (<-rn t53) (<-rx F t14 t10 t14) (<-rx F t14 t75 t14)
 |16=>return .build (<-ls t9 (rA F 9 t2)) (<-ls t6 (do return (<-rn t50,<-rn t8,<-rx F t5 t18 t14)))
 |17=>return .box (<-rn t9) (<-rx F t14 t45 t14)
 |18=>return .eqb (<-rb t5) (<-rx F t14 t18 t14) (<-rx F t14 t18 t14)
 |19=>return .conv (<-rcv) (<-rx F t14 t18 t14)
 |20=>return .iaa (<-rn t9) (<-rn t146) (<-rx F t14 t190 t14) (<-rx F t170 t18 t14)
 |21=>return .ix (<-rx F t14 t45 t14) (<-rx F t5 t18 t14)
 |22=>return .ixa (<-rn t125) (<-rn t71) (<-ro t14 (rn t14)) (<-rx F t14 t18 t14) (<-rx F t14 t18 t14)
 |23=>return .slc (<-rn t11) (<-rx F t14 t45 t14) (<-ro t5 (rx F t14 t18 t14)) (<-ro t24 (rx F t14 t18 t14))
 |24=>return .atc (<-rx F t14 t18 t14) (<-ro t24 (rx F t5 t18 t14)) (<-ro t24 (rx F t5 t18 t14))
 |25=>return .lens (<-rx F t14 t75 t14)
 |26=>return .max (<-ls t59 (rx F t5 t18 t14))
 |27=>return .min (<-ls t59 (rx F t14 t18 t14))
 |28=>return .mks (<-rn t11) (<-rn t53) (<-rA F 9 t261) (<-rx F t71 t18 t14) (<-rx F t13 t18 t14)
 |_=>return .mkf (<-rn t119) (<-ls t59 (rx F t14 t10 t14))
def aOG:ax->ax->aq (ax×aW)->Rd (ah Op)
 |0,_,_=>rt []
 |n+1,p,g=>do
  let t<-rd (nth [] tO p)
  let d<-(match<-rd (nth [] tD t)with
   |0=>λq=>str (q.l+1) λl=>(ai l,⟨q.x,l⟩)
   |1=>rt au
   |2=>return ai (<-rn t15)
   |_=>do
    let d<-rn t6
    λq=>str (q.l+2+d) λl=>(ai l,⟨q.x,l⟩))
  let w<-rb (nth [] tW t)
  let g<-(match<-rd (nth [] tG t)with|0=>rt au|1=>rt g|2=>return ai (<-rf t17,aA)|_=>return ai (<-rf t17,aB))
  let av<-ls t20 (do
   let n<-rn t10
   rt (match n%3 with|0=>n/3|1=>1000000+n/3|_=>4194304+n/3))
  let o<-rO F t
  let l<-aOG n (t+1) g
  rt (⟨d,w,o,g,av⟩::l)
def ins(i:ax):ah ax->ah ax
 | []=>[i]
 |j::l=>match Nat.blt i j with|true=>i::j::l|false=>match Nat.beq i j with|true=>j::l|false=>j::ins i l
def uni(a b:ah ax):ah ax:=b.foldl (λa i=>ins i a) a
def sel(a z b new:ah ax):ah ax->Rd (ah ax)
 | []=>rt []
 |i::l=>do match<-rd (match new.any (Nat.beq i)with|true=>(match Nat.beq i (new.foldl (λ_ x=>x) 0)with|true=>z|false=>a)|false=>b)with
  |0=>sel a z b new l
  |_=>return i::(<-sel a z b new l)
def xs(c:ah ax):ax->ax->Rd (ah ax)
 |0,_=>rt []
 |n+1,p=>do
  let i<-rn c
  λq=>str (p+i) λp=>(do return p::(<-xs c n p):Rd (ah ax)) q
def kq(a z b c d k new:ah ax):Rd (ah ax):=do
 let s<-sel a z b new (uni k new)
 return uni s (<-xs d (<-rn c) 0)
def kp(k new wd r:ah ax):Rd (ah ax×ah ax):=do
 let s<-kq t13 t23 t24 t25 t5 k new
 let r<-(match<-rd t5 with|0=>rt r|_=>kq t23 t23 t23 t28 t29 r wd)
 rt (s,r)
def rC:ax->ah ax->ah ax->ah ax->Rd (C×ah ax×ah ax)
 |0,_,k,r=>rt (.stop,k,r)
 |n+1,t,k,r=>do match<-rd t with
  |0=>do
   let dr<-rb t13
   let ops<-aOG F (<-rn t33) 0 au
   let (k,r)<-kp k (ops.filterMap Op.d) (ops.filterMap λo=>match o.w with|true=>o.d|_=>au) r
   return (.reg dr ops k r,k,r)
  |1=>do
   let (a,k,r)<-rC n t147 k r
   let (b,k,r)<-rC n t181 k r
   return (.seq a b,k,r)
  |2=>do
   let c<-rx F t14 t35 t14
   let (a,_,_)<-rC n t182 k r
   let (b,k,r)<-rC n t183 k r
   return (.cond c a b,k,r)
  |3=>return (.skip,k,r)
  |4=>return (.ret,k,r)
  |5=>do
   let i<-rn t6
   let (a,k,r)<-rC n t184 k r
   return (.block i a,k,r)
  |6=>do
   let (a,k,r)<-rC n t185 k r
   return (.loop a,k,r)
  |7=>return (.exit (<-rn t6),k,r)
  |8=>do
   let (k,r)<-kp k [] [] r
   let (a,k2,r2)<-rC n t71 k r
   return (.norm k r a,k2,r2)
  |9=>do
   let i<-rn t7
   let (a,k,r)<-rC n t122 k r
   return (.opn i a,k,r)
  |_=>return (.stop,k,r)
end
def cv(c:Char):ax:=bif Nat.ble 97 c.toNat then c.toNat-61 else bif Nat.ble 65 c.toNat then c.toNat-55 else c.toNat-48
def sd(l:ah Char):ax->ax:=List.rec (λa=>a) (λc _ k a=>str (a*62+cv c) k) l
structure Rec where
 ty:ah ET
 id:ax
 D:ah (ax×Callee)
 ps:ah MT
 rs:ah MT
 os:ah MT
 n:ax
def rRs:Rd Rs:=do match<-rd t39 with|0=>return .t (<-rn t9)|1=>return .cell (<-rn t9) au|_=>return .cell (<-rn t9) (ai (<-rn t9))
def aEB:MT->aW |.box _|.l7 _=>aB |_=>aA
def aOu:MT->aW |.box _|.tok _=>aB |.d t=>!t.data |_=>aA
def Rec.dec(r:Rec):Fn×ah (ax×ET):=((do
 let gone<-ls t1 (rn t39)
 let H<-ls t6 (do
  let s<-rn t45
  let t<-rn t46
  rt (s,nth (.one .bool) r.ty t))
 let res<-rep rRs (ae r.rs)
 let b<-rC (r.D.map ay4) 400 t71 [] []
 rt (({np:=ae r.ps,io:=(match r.ps.any aEB with|true=>r.ps.map aEB|false=>[]),res:=res,own:=r.rs.map aOu,body:=b.1,gone:=gone}:Fn),H)):Rd (Fn×ah (ax×ET))) ⟨r.n,0⟩|>.1
def Rec.c(r:Rec):Callee:=ik r.D r.dec.2 r.dec.1 r.ps r.rs r.os
def Rec.p(r:Rec):ax×Callee:=(r.id,r.c)
end
def bh{r:Rec}{x:Hv r.ps}{y:aq (Ts (r.rs++r.os))}(h:(fk (acB r.dec.1 (vsU 0 r.ps x)) λst=>dn r.D r.dec.2 (Og r.dec.1 r.ps r.rs r.os (lens r.ps x)) (goL r.D r.dec.2 (Og r.dec.1 r.ps r.rs r.os (lens r.ps x))) 4000 [.c r.dec.1.body] st)=y:=by kernel_rfl):r.c.f x=y:=
 (aTo _ _ _ _ _ _ _ 4000).trans h
noncomputable section
def C.pre:C->ah C->ah C |.seq a b,l=>.seq a b::a.pre (b.pre l) |.cond c a b,l=>.cond c a b::a.pre (b.pre l) |.block i a,l=>.block i a::a.pre l |.loop a,l=>.loop a::a.pre l |.norm k r a,l=>.norm k r a::a.pre l |.opn i a,l=>.opn i a::a.pre l |c,l=>c::l
def aTv:ah V->V×ah V | []=>(.any,[]) |v::l=>(v,l)
def aNp(r:ah (ax×aq VR))(q:ax):ax:=match eX r q with
 |some (.sl _ xs)=>ae xs
 |_=>0
def aH8(m:ah V->Rd (V×ah V)):ax->ah V->Rd (ah V×ah V)
 |0,a=>rt ([],a)
 |n+1,a=>do
  let (v,a)<-m a
  let (l,a)<-aH8 m n a
  rt (v::l,a)
def rsh(r:ah (ax×aq VR)):ax->ah V->Rd (V×ah V)
 |0,a=>rt (.any,a)
 |n+1,a=>do match<-rd t47 with
  |0=>rt (aTv a)
  |1=>rt (.any,a)
  |2=>rt (.undef,a)
  |3=>return (.lz (<-rn t8),a)
  |4=>return (.sl0 (<-rn t8),a)
  |5=>do
   let (l,a)<-aH8 (rsh r n) (<-rn t9) a
   rt (.agg l,a)
  |6=>return (.view (<-rn t48) 0 0,a)
  |7=>do
   let q<-rn t48
   rt (.view q 0 (aNp r q),a)
  |8=>do
   let q<-rn t48
   let i<-rn t28
   let c<-rn t28
   rt (.loc q i c,a)
  |9=>do
   let (l,a)<-aH8 (rsh r n) (<-rn t9) a
   return (.ptr l (<-rn t28),a)
  |10=>do
   let f<-rn t10
   let (l,a)<-aH8 (rsh r n) (<-rn t9) a
   return (.fn f l,a)
  |_=>rt (.cst .nilFunc,a)
def ayK(q:ax):ax->ah V->ah V |_,[]=>[] |j,.own _ xs::l=>.view (sub q j) 0 (ae xs)::ayK q (j+1) l |j,v::l=>v::ayK q (j+1) l
def ayo(pk:ah V)(rf:ah (ax×aq VR)):ah ax->ah V->Rd (ah (ax×aq VR)×ah V)
 | [],a=>rt ([],a)
 |q::qs,a=>do
  let (R,a)<-(match<-rd t50 with
   |0=>rt (au,a)
   |1=>(match a with
    |.sl t xs::a=>rt (ai (.sl t xs),a)
    |a=>rt (au,a))
   |2=>do
    let z<-rn t15
    let (v,a)<-rsh rf 9 a
    rt (ai (.var z v),a)
   |3=>do
    let z<-rn t15
    let i<-rn t28
    rt (ai (.var z (.agg (ayK q 0 (nth .any pk i).cells))),a)
   |_=>do
    let i<-rn t28
    let c<-rn t28
    rt ((match nth .any (nth .any pk i).cells c with|.own t xs=>ai (.sl t xs)|_=>au),a))
  let (l,a)<-ayo pk rf qs a
  rt ((q,R)::l,a)
def aFl(r:ah (ax×aq VR)):ah ax->ah V->Rd (ah (ax×V))
 | [],_=>rt []
 |i::l,a=>do
  let (v,a)<-rsh r 9 a
  let l<-aFl r l a
  rt ((i,v)::l)
def rfr(pre:ah C):Rd Fr:=do match<-rd t52 with|0=>return .c (nth .stop pre (<-rn t53))|1=>return .l (nth .stop pre (<-rn t53))|_=>return .e (<-rn t6)
def rpt(pre:ah C)(ab bs:ah V):Rd (ah Fr×cy):=do
 match nth .stop pre (<-rn t53)with
 |.norm k r b=>do
  let fr<-ls t54 (rfr pre)
  let np<-rn t28
  let (r,_)<-(λq=>ayo (bs.take np) (ayo (bs.take np) [] r (bs.drop np) q).1.1 r (bs.drop np) q:Rd (ah (ax×aq VR)×ah V))
  let t<-aFl r k ab
  rt (.c b::fr,⟨t,r⟩)
 |_=>rt ([],⟨[],[]⟩)
def Rec.g(r:Rec)(n:ax)(ab:ah V:=[])(bs:ah V:=[])(ns:ah ax:=[]):aq (Ts (r.rs++r.os)):=goL r.D r.dec.2 (Og r.dec.1 r.ps r.rs r.os ns) (rpt (r.dec.1.body.pre []) ab bs ⟨n,0⟩).1.1 (rpt (r.dec.1.body.pre []) ab bs ⟨n,0⟩).1.2
end
abbrev mI:=MT.d (.one (.int .i64))
abbrev mS:=MT.d (.one .str)
abbrev mB:=MT.d (.one .bool)
abbrev mSS:=MT.d (.one (.sl (.one .str)))
abbrev Wg:=MT.d (.one (.sl (.one (.int .i64))))
abbrev kS:=MT.tok (.one .str)
abbrev kI:=MT.tok (.one (.int .i64))
abbrev eI:=ET.one (.int .i64)
abbrev eS:=ET.one .str
abbrev e8:=ET.one (.int .u8)
abbrev eSS:=ET.one (.sl (.one .str))
abbrev eII:=ET.one (.sl (.one (.int .i64)))
abbrev vI:=V.int .i64
abbrev vS:=V.str
abbrev vB:=V.bool
def bB{r:Rec}{ns:ah ax}{n:ax}{ab bs:ah V}{y:aq (Ts (r.rs++r.os))}
 (h:dn r.D r.dec.2 (Og r.dec.1 r.ps r.rs r.os ns) (goL r.D r.dec.2 (Og r.dec.1 r.ps r.rs r.os ns)) 4000 (rpt (r.dec.1.body.pre []) ab bs ⟨n,0⟩).1.1 (rpt (r.dec.1.body.pre []) ab bs ⟨n,0⟩).1.2=y:=by kernel_rfl):r.g n ab bs ns=y:=
 (axr _ _ _ 4000 _ _).trans h
def tk{α:Type}(l:ah α):ah α:=l.take (ae l)
def bM{α:Type}(l:ah α):tk l=l:=bc
end Go.Ab

