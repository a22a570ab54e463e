/- Coded forms: functions and joints of the program read from numbers. Conditions: none. -/
import Derived.Test.YtohijocnlnmlpaaGreatDoorG2
import Derived.WalkKit
import Derived.ProofKit
import Derived.OpenShut
import Derived.Deep.Slices
import Derived.WideKeyArgs
import Derived.KernelRfl
import Derived.Below
import Derived.Handed
import Derived.HandedShaped
import Derived.LaidLaws
import Derived.Lib.ItoaNum
import Derived.Lib.Strings
import Derived.Lib.Split
import Derived.Lib.Join
import Derived.Lib.Repeat
import Derived.Lib.IndexMore
import Derived.Lib.ParseIntBTie
import Derived.Stop.LaidErr
import Derived.MakeChecks
import Derived.Stop.Joined
set_option linter.unusedVariables false
set_option linter.unusedSimpArgs false
set_option linter.defProp false
open Array renaming ext'->Ri,getElem?_eq_none->nu,getElem?_toList->n9,replicate->Pr
open BitVec renaming ofInt->eo
open Bool renaming and_eq_true->aj,and_self->bM,and_true->aeG,false->aw,false_eq_true->ao,not_eq_true'->cn,or_eq_false_iff->oA,or_eq_true->cj,true->ar
open Decidable renaming decide->ah
open Eq renaming trans->al5
open Go.Act renaming eval->Rk
open Go.DataW renaming TrodAll->I7,Whole->anj,trod->ank
open Go.Instr renaming loadAt->akh,sureAddr->Ta
open Go.IntKind renaming i64->ag,u8->KC
open Go.Lib renaming count->Nq,cut->A7,itoa->bG,join->mZ,repeatL->F0,splitK->uV,trimPrefix->jF
open Go.Op renaming bytesLess->cN
open Go.OpenSpec renaming ofChange->PT
open Go.Result renaming andThen_ok->bP
open Go.Sem renaming run_bind->dp,run_pure->jb
open Go.Value renaming cells->adw,okWide->zV
open Go.World renaming cell? ->df,cells?_some->aph
open Int renaming toNat_natCast->aE
open List renaming all_cons->de,all_eq_true->aG,all_map->uW,any_cons->zy,any_map->awX,append_assoc->dJ,append_nil->bS,cons_append->sn,drop_drop->al9,drop_eq_getElem_cons->bf,drop_eq_nil_of_le->bb,eq_nil_of_length_eq_zero->gy,flatMap_append->Jd,flatMap_cons->cg,getElem?_cons_zero->bg,getElem?_eq_getElem->ay,getElem?_eq_none->bB,getElem?_map->bX,length->cP,length_cons->bh,length_map->aT,length_nil->cy,lookup_cons->adE,map_append->eu,map_congr_left->nw,map_cons->aP,map_drop->jy,map_map->uX,map_nil->lT,map_replicate->Gt,map_set->aav,map_take->kV,mem_append->aU,mem_append_left->bW,mem_append_right->aS,mem_cons->bl,mem_flatMap->jq,mem_iff_getElem? ->ff,mem_map->dK,mem_of_getElem? ->bw,mem_singleton->aX,nil_append->dU,nodup_append->cZ,nodup_cons->pd,nodup_nil->iy,range->dL,replicate->aZ
open List.cons renaming injEq->ej
open Nat renaming le_max_left->adF,le_max_right->aax,le_refl->bm,lt_or_ge->bH,succ_mul->dW,zero_add->c8,zero_le->iW
open Option renaming all_some->wO,bind_eq_some_iff->ak,bind_some->af,getD_none->o9,getD_some->eJ,isSome_iff_exists->dq,isSome_map->ans,map->Ts,map_eq_some_iff->au,map_none->cT,map_some->az,none->ai,some->ae
open Option.some renaming inj->cq,injEq->aq
open Prod.mk renaming injEq->be
open Pure renaming pure->I4
open UInt8 renaming ofNat->oD
namespace Go.Ab
section
variable {P:Program} {φ:Nat->Nat} {w0:World} {L:kU} {E E':Env} {st st':St} {ev:Nat->Value} {w w':World} {a:Act} {K:Nat->Prop} {r:Nat->Option dF}
def cI.VP(h:cI φ w0 L E st ev w){ns:List Nat}{b:Nat}(hf:iK w0 L E st ev w b):iK w0 L E {st with r:=Ab.less st.r ns} ev w b:=
 ⟨hf.z,λq b' o a1 a2=>hf.r q b' o (by
   simp only[Ab.less]at a1
   split at a1
   ·cases a1
   ·exact a1) a2,hf.t⟩
def cI.agH(h:cI φ w0 L E st ev w)(ns:List Nat):cI φ w0 L E {st with r:=Ab.less st.r ns} ev w:=
 h.less λq R hq=>by
  simp only[Ab.less]at hq;split at hq;·cases hq
  ·exact hq
def cI.agu(h:cI φ w0 L E st ev w){ns:List Nat}{b p o:Nat}(hp:p∈ns)(hl:(st.r p).isSome=ar)(hρ:E.ρ p=ae (b,o)):iK w0 L E {st with r:=Ab.less st.r ns} ev w b:=
 ⟨h.rz p b o hl hρ,λq b' o' a1 a2 e=>by
   simp only[Ab.less]at a1
   split at a1
   ·cases a1
   ·rename_i hn
    subst e
    exact h.inj q p b' o' b' o a1 hl a2 hρ (λe=>hn (by simpa[e]using hp)) rfl,λi k b' ht e=>(h.tz i k b' ht).2 p b o hl hρ e.symm⟩
def atI{v:Value}{x:A}{k b:Nat}(h:Tk v x k b):k∈Pf x:=by cases h with|one _ _ _ _ h=>cases h;simp[Pf,Xx]|sf vs xs j k b v a hv ha h=>cases h;exact jq.2 ⟨_,bw ha,by simp[Xx]⟩|agg vs xs j k b v a hv ha h=>cases h;exact jq.2 ⟨_,bw ha,by simp[Xx]⟩
def Xu{q:Nat}:∀{xs:List A} {vs:List Value} {c:Nat},vs.length=xs.length->(∀(j:Nat) (v:Value) (x:A),vs[j]? =ae v->xs[j]? =ae x->fg φ E r w q (c+j) v x)->
 (xs.flatMap ga).Nodup/\∀p∈xs.flatMap ga,∃c',c<=c'/\c'<1000/\p=sub q c'
 | [],vs,c,_,_=>⟨iy,λp hp=>by cases hp⟩
 |x::xs,[],c,hl,_=>by simp at hl
 |x::xs,v::vs,c,hl,hc=>by
  obtain⟨h1,h2⟩:=Xu (c:=c+1) (xs:=xs) (vs:=vs) (by simpa using hl) (λj u y hu hy=>by
   have:=hc (j+1) u y (by simpa using hu) (by simpa using hy)
   rwa[show c+(j+1)=c+1+j from by omega]at this)
  have h0:=hc 0 v x rfl rfl
  have hx:ga x=[]\/(ga x=[sub q c]/\c<1000):=by cases h0 with|data _ hr=>cases hr<;>exact .inl rfl|any=>exact .inl rfl|view off n hlt=>exact .inr ⟨rfl,hlt⟩
  rw[cg]
  rcases hx with hx|⟨hx,hlt⟩
  ·rw[hx]
   exact⟨h1,λp hp=>by obtain⟨c',a1,a2,a3⟩:=h2 p hp;exact⟨c',by omega,a2,a3⟩⟩
  ·rw[hx]
   refine⟨pd.2 ⟨λhm=> ?_,h1⟩,λp hp=> ?_⟩
   ·obtain⟨c',a1,a2,a3⟩:=h2 _ hm
    have:=(Me hlt a2 a3).2;omega
   ·rcases bl.1 hp with rfl|hp
    ·exact⟨c,bm _,hlt,rfl⟩
    ·obtain⟨c',a1,a2,a3⟩:=h2 p hp;exact⟨c',by omega,a2,a3⟩
def Ye{q:Nat}{xs:List A}{vs:List Value}(hq:q<1000)(hl:vs.length=xs.length)(hc:∀(j:Nat) (v:Value) (x:A),vs[j]? =ae v->xs[j]? =ae x->fg φ E r w q j v x): (q::xs.flatMap ga).Nodup:=by obtain⟨h1,h2⟩:=Xu (c:=0) hl (λj v x hv hx=>by rw[c8];exact hc j v x hv hx);refine pd.2 ⟨λhm=> ?_,h1⟩;obtain⟨c',_,_,e⟩:=h2 q hm;have:=Pe q c';omega
def jE.mono{K':Nat->Prop}(hk:∀b,K b->K' b){v:Value}{z:Nat}{x:A}{bs:List Nat}(h:jE φ w K v z x bs):jE φ w K' v z x bs:=by cases h with|mk b o z x vs bs h hv hr hz=>exact .mk b o z x vs bs (h.mono hk) hv hr hz
def so.mono{K':Nat->Prop}(hk:∀b,K b->K' b){v:Value}{x:A}{rb:List Nat}(h:so φ w K v x rb):so φ w K' v x rb:=by cases h with|data _ h=>exact .data _ _ (h.mono (λ_ _=>rfl) hk)|tok _ _ _ ob h=>exact .tok _ _ _ _ ob (h.mono hk)|iB _ _ _ h=>exact .iB _ _ _ _ (h.mono hk)|str vs cs bs e h=>exact .str _ _ _ _ e (h.mono hk)
def Yb(h:cI φ w0 L E st ev w):∀{xs ys:List A} {vs:List Value},fE (jr φ E st.r w) vs xs->JV st.r xs=ae ys->
 ∃bs,dj φ w E.ok vs ys bs/\NB E st bs (xs.flatMap ga)
 | [],ys,vs,ha,hc=>by
   simp[JV]at hc;subst hc
   obtain rfl:vs=[]:=gy (by simpa using ha.1)
   exact⟨[],.nil,NB.nil⟩
 |x::xs,ys,vs,ha,hc=>by
  obtain⟨v,us,rfl,hv,ht⟩:=ha.Pg
  simp only[JV]at hc
  obtain⟨y,hy,hc⟩:=ak.1 hc
  obtain⟨ys',hys,rfl⟩:=au.1 hc
  obtain⟨bs,h1,h2⟩:=Yb h ht hys
  have first:∃b:Option Nat,AL φ w E.ok v y b/\NB E st b.toList (ga x):=by
   unfold Uk at hy;split at hy;·obtain⟨R,hR,rfl⟩:=au.1 hy;obtain⟨ob,ho,hρ⟩:=Vs (h.roots _ R hR) hR hv;refine⟨ob,.own _ _ _ _ ho,?_⟩;cases ob with|none=>exact NB.none _|some b=>obtain⟨o,hρ'⟩:=hρ b rfl;exact NB.one (by rw[hR];rfl) hρ'
   ·split at hy
    ·rename_i hp;cases hy;refine⟨ai,.data _ _ ?_ λcs e=>(by rw[e]at hp;simp[Ab.cr]at hp),NB.none _⟩
     cases hv<;>first
      |assumption
      |(simp[Ab.cr]at hp;done)
    ·cases hy
  obtain⟨b,h4,h5⟩:=first
  exact⟨b.toList++bs,.cons _ _ _ _ _ _ h4 h1,by rw[cg];exact h5.append h h2⟩
def avS{v:Value}{cs:List A}(h:RV φ E st.r w v (.agg cs)):∃vs:List Value,v=.agg vs.toArray/\fE (jr φ E st.r w) vs cs:=by
 generalize hx:A.agg cs=x at h
 cases h with
 |one _ _ h1=>
  subst hx
  cases h1 with
  |data _ _ h2=>cases h2 with
   |agg vs _ h3=>exact⟨vs,rfl,(fE.mT h3).imp λ_ _ h=>.data _ _ h⟩
 |sf=>cases hx
 |agg vs xs ha=>cases hx;exact⟨vs,rfl,ha⟩
 |fn=>cases hx
def an3(h:cI φ w0 L E st ev w){j:Nat}{own:Bool}{x:A}{st1:St}(hl:st.EZ j own=ae (x,st1)): ∃E1 rb,cI φ w0 L E1 st1 ev w/\so φ w E1.ok (ev (gs+j)) x rb/\rb.Nodup/\(∀b∈rb,iK w0 L E1 st1 ev w b)/\(∀b,E.ok b->E1.ok b)/\(∀b,iK w0 L E st ev w b->iK w0 L E1 st1 ev w b/\b∉rb)/\ (∀b,E1.ok b->E.ok b\/b<w.heap.size):=by
 have hs:=h.iZ (gs+j);unfold St.EZ at hl;split at hl
 ·split at hl
  ·rename_i k z xs hx;rw[hx]at hs
   ·simp only[aq,be]at hl;obtain⟨rfl,rfl⟩:=hl;have hkt:=h.cX k;have hfr:∀b,iK w0 L E st ev w b->iK w0 L E (st.cX k) ev w b:=λb hf=>⟨hf.z,hf.r,λi k' b' ht=>hf.t i k' b' (Tk.cJ (Eb k) ht).1⟩;(have htk:∀k' b,Tk (ev (gs+j)) (.tok k z xs) k' b->Tk (ev (gs+j)) (st.t (gs+j)) k' b:=λk' b ht=>by rw[hx];exact ht);generalize hv:ev (gs+j)=v at hs htk
    cases hs.PL with
    |data _ _ hh=>cases hh
    |DI ad=>exact⟨E,[],hkt,.tok _ j z [] ai (.empty ad z),iy,(λb hb=>by cases hb),(λ_ hb=>hb),(λb hf=>⟨hfr b hf,by simp⟩),(λb hb=>.inl hb)⟩
    |tok b o cap _ _ _ vs hcc h0 hz hh hv' hrm=>
     (have hi:Tk (ev (gs+j)) (st.t (gs+j)) k b:=by rw[hv];exact htk k b (.one _ _ _ _ (.mk ⟨b,o,ai⟩ _ _ _ _ _ h0)));have hf0:=h.tz (gs+j) k b hi;refine⟨E,[b],hkt,.tok _ j z xs (ae b) (.mk b o cap z xs vs hcc h0 hz hh hv' hrm),by simp,λb' hb=> ?_,λ_ hb=>hb,λb' hf=>⟨hfr b' hf,λhm=> ?_⟩,λb hb=>.inl hb⟩
     ·rw[aX]at hb;subst hb
      exact⟨hf0.1,hf0.2,λi k' b2 ht=>by
       have h3:=Tk.cJ (Eb k) ht
       exact h.td i (gs+j) k' k b2 b' h3.1 hi h3.2⟩
     ·rw[aX]at hm;subst hm;exact hf.t (gs+j) k b' hi rfl
  ·rename_i z hx;rw[hx]at hs;simp only[aq,be]at hl;obtain⟨rfl,rfl⟩:=hl;exact⟨E,[],h,.tok _ j z [] ai (by rw[hs.JY];exact .empty ai z),iy,(λb hb=>by cases hb),(λ_ hb=>hb),(λb hf=>⟨hf,by simp⟩),(λb hb=>.inl hb)⟩
  ·rename_i q off n hx;rw[hx]at hs;obtain⟨R,hR,hl⟩:=au.1 hl;·simp only[be]at hl;obtain⟨rfl,rfl⟩:=hl;obtain⟨ob,ho,hρ⟩:=Vs (h.roots q R hR) hR hs.zm;refine⟨E,ob.toList,h.agH [q],.tok _ j R.z _ ob ho,by cases ob<;>simp,λb hb=> ?_,λ_ hb=>hb,λb hf=>⟨h.VP hf,λhm=> ?_⟩,λb hb=>.inl hb⟩;(·cases ob with|none=>simp at hb|some b1=>simp at hb;subst hb;obtain⟨o,hρ'⟩:=hρ b rfl;exact h.agu (p:=q) (by simp) (by rw[hR];rfl) hρ');·cases ob with|none=>simp at hm|some b1=>simp at hm;subst hm;obtain⟨o,hρ'⟩:=hρ b rfl;exact hf.r q b o (by rw[hR];rfl) hρ' rfl
  ·rename_i q hx;rw[hx]at hs;obtain⟨R,hR,hl⟩:=ak.1 hl;split at hl;(·rename_i e hb hxs;obtain⟨cs,hcs,hl⟩:=au.1 hl;simp only[be]at hl;obtain⟨rfl,rfl⟩:=hl;obtain⟨Rb,Rz,Rxs⟩:=R;simp only at hb hxs;subst hb;subst hxs;obtain⟨b,o,hρ,hve⟩:=hs.Dl.R9 hR;rw[hve];cases h.roots _ _ hR with|box b1 o1 z _ us hρ1 hz hlt hlen hcells hcl hrm=>rw[hρ]at hρ1;cases hρ1;obtain⟨bs1,h4,h5,h6⟩:=Lv h (c:=0) hlen (λj v x hv hx=>by have:=hcells j v x hv hx;rwa[c8]) hcs;(have hna:∀y∈cs,∀l,y≠ .agg l:=λy hy=>by obtain⟨c,hc⟩:=ff.1 hy;(have hcl:c<us.length:=by(rcases bH c cs.length with h|h);(·omega);·simp[bB h]at hc);obtain⟨b',hb'⟩:=h4.get (j:=c) (v:=us[c]) (by simp) hc;exact hb'.agJ);have hrc:(eX e cs).cells=cs:=jW h6 hna;have hbox:jE φ w E.ok (.pointer (ae ⟨b,o,ai⟩)) Rz (eX e cs) (b::bs1):=.mk b o Rz _ us bs1 (by rw[hrc];exact h4) hcl hrm (by rw[hrc,h6,hz]);have hnb:NB E st (b::bs1) (q::e.cells.flatMap ga):=(NB.one (by rw[hR];rfl) hρ).append h h5;have hnn:(q::e.cells.flatMap ga).Nodup:=Ye hlt hlen hcells;refine⟨E,b::bs1,h.agH _,by simpa using so.iB _ _ _ _ hbox,hnb.2 hnn,λb' hb'=> ?_,λ_ hb=>hb,λb' hf=>⟨h.VP hf,λhm=> ?_⟩,λb hb=>.inl hb⟩;(·obtain⟨p,hp,hlv,o',hρ'⟩:=hnb.1 b' hb';exact h.agu hp hlv hρ');·obtain⟨p,hp,hlv,o',hρ'⟩:=hnb.1 b' hm;exact hf.r p b' o' hlv hρ' rfl);·cases hl
  ·rename_i cs hx;rw[hx]at hs;split at hl;(·rename_i hnd;obtain⟨ys,hys,hl⟩:=au.1 hl;simp only[be]at hl;obtain⟨rfl,rfl⟩:=hl;obtain⟨vs,hve,hall⟩:=avS hs;obtain⟨bs1,h4,hnb⟩:=Yb h hall hys;rw[hve];refine⟨E,bs1,h.agH _,.str _ _ _ _ rfl h4,hnb.2 (cd hnd),λb' hb'=> ?_,λ_ hb=>hb,λb' hf=>⟨h.VP hf,λhm=> ?_⟩,λb hb=>.inl hb⟩;(·obtain⟨p,hp,hlv,o',hρ'⟩:=hnb.1 b' hb';exact h.agu hp hlv hρ');·obtain⟨p,hp,hlv,o',hρ'⟩:=hnb.1 b' hm;exact hf.r p b' o' hlv hρ' rfl);·cases hl
  ·cases hl
 ·obtain⟨y,hy,hl⟩:=au.1 hl;simp only[be]at hl;obtain⟨rfl,rfl⟩:=hl;generalize hns:names st.r (st.t (gs+j))=ns at hy;generalize hks:Pf (st.t (gs+j))=ks;have hr:∀q R,Ab.less st.r ns q=ae R->st.r q=ae R/\¬q∈ns:=λq R hq=>by simp only[Ab.less]at hq;split at hq;(·cases hq);·rename_i hn;exact⟨hq,by simpa using hn⟩
  have hE:=h.giveUp (N:=(· ∈ns)) (T:=(· ∈ks)) (ok':=λb=>E.ok b\/(∃q o,q∈ns/\(st.r q).isSome/\E.ρ q=ae (b,o))\/(∃i k,k∈ks/\Tk (ev i) (st.t i) k b)) (ev':=ev)
   (st':={t:=λi=>cJ (ql ks) (st.t i),r:=Ab.less st.r ns}) (λb hb=>.inl hb) (λb hb=>hb) hr (λi=>(h.iZ i).cJ (KL ks).nt λv x hx=>by
     unfold ql
     split
     ·split
      ·exact .any _
      ·exact jr.k9 (E':=⟨_,E.ρ⟩) (λb hb=>Or.inl hb) (λq R hq=>⟨(hr q R hq).1,rfl⟩) hx
     ·exact jr.k9 (E':=⟨_,E.ρ⟩) (λb hb=>Or.inl hb) (λq R hq=>⟨(hr q R hq).1,rfl⟩) hx) (λi k b ht=>⟨(Tk.cJ (KL ks) ht).2,i,(Tk.cJ (KL ks) ht).1⟩)
  have hro:∀q R,only st.r ns q=ae R->st.r q=ae R/\q∈ns:=λq R hq=>by simp only[Ab.only]at hq;split at hq;(·rename_i hn;exact⟨hq,by simpa using hn⟩);·cases hq
  have hO:cI φ w0 L E {st with r:=only st.r ns} ev w:=h.less λq R hq=>(hro q R hq).1
  have hrep:=adb (K:=λb=>E.ok b\/(∃q o,q∈ns/\(st.r q).isSome/\E.ρ q=ae (b,o))\/(∃i k,k∈ks/\Tk (ev i) (st.t i) k b)) hO ⟨λb hb=>.inl hb,λq b o h1 h2=>by
   obtain⟨R,hR⟩:=dq.1 h1
   exact .inr (.inl ⟨q,o,(hro q R hR).2,by rw[(hro q R hR).1];rfl,h2⟩)⟩ (hO.iZ (gs+j)) (λk b ht=>.inr (.inr ⟨gs+j,k,by rw[<-hks];exact atI ht,ht⟩)) hy
  refine⟨_,[],hE,.data _ _ hrep,iy,(λb hb=>by cases hb),(λb hb=>.inl hb),λb hf=>⟨⟨⟨λhk=> ?_,hf.z.2⟩,λq b' o a1 a2=> ?_,λi k b' ht=>hf.t i k b' (Tk.cJ (KL ks) ht).1⟩,by simp⟩,λb hb=>.inr ?_⟩;·(rcases hk with h1|⟨q,o,_,h2,h3⟩|⟨i,k,_,h2⟩);(·exact hf.z.1 h1);(·exact hf.r q b o h2 h3 rfl);·exact hf.t i k b h2 rfl
  ·obtain⟨R,hR⟩:=dq.1 a1;exact hf.r q b' o (by rw[(hr q R hR).1];rfl) a2
  ·exact hE.UP b hb
end
end Go.Ab
namespace Go.Ab
section
variable {P:Program} {φ:Nat->Nat} {w0:World} {L:kU} {E E':Env} {st st':St} {ev:Nat->Value} {w w':World} {a:Act} {K:Nat->Prop} {r:Nat->Option dF}
def afe:∀{bs:List Bool} {j:Nat} {E:Env} {st:St} {xs:List A} {st1:St} {vs:List Value},cI φ w0 L E st ev w->vs.length=bs.length->(∀i v,vs[i]? =ae v->ev (gs+(j+i))=v)->st.leaves j bs=ae (xs,st1)->
 ∃E1 rb,cI φ w0 L E1 st1 ev w/\fZ φ w E1.ok vs xs rb/\rb.Nodup/\(∀b∈rb,iK w0 L E1 st1 ev w b)/\(∀b,E.ok b->E1.ok b)/\(∀b,iK w0 L E st ev w b->iK w0 L E1 st1 ev w b/\b∉rb)
 | [],j,E,st,xs,st1,vs,h,hl,hev,he=>by
   simp[St.leaves]at he
   obtain⟨rfl,rfl⟩:=he
   obtain rfl:vs=[]:=gy (by simpa using hl)
   exact⟨E,[],h,.nil,iy,(λb hb=>by cases hb),(λ_ hb=>hb),λb hf=>⟨hf,by simp⟩⟩
 |b0::bs,j,E,st,xs,st1,[],h,hl,hev,he=>by simp at hl
 |b0::bs,j,E,st,xs,st1,v::vs,h,hl,hev,he=>by
  simp only[St.leaves]at he
  obtain⟨⟨x,s⟩,hx,he⟩:=ak.1 he
  obtain⟨⟨xs',s2⟩,hxs,he⟩:=au.1 he
  simp only[be]at he
  obtain⟨rfl,rfl⟩:=he
  obtain⟨E1,rb1,h1,hr1,hn1,hf1,hok1,hm1,hz1⟩:=an3 h hx
  obtain⟨E2,rb2,h2,hr2,hn2,hf2,hok2,hm2⟩:=afe (j:=j+1) (vs:=vs) h1 (by simpa using hl) (λi u hu=>by
   have:=hev (i+1) u (by simpa using hu)
   rwa[show j+(i+1)=j+1+i from by omega]at this) hxs
  have hv:ev (gs+j)=v:=by have:=hev 0 v rfl;simpa using this
  rw[hv]at hr1
  have hr1':so φ w E2.ok v x rb1:=hr1.mono hok2
  refine⟨E2,rb1++rb2,h2,.cons _ _ _ _ _ _ hr1' hr2,cZ.2 ⟨hn1,hn2,λb hb c hc e=> ?_⟩,λb hb=> ?_,λb hb=>hok2 b (hok1 b hb),λb hf=>⟨(hm2 b (hm1 b hf).1).1,λhm=> ?_⟩⟩
  ·subst e;exact(hm2 b (hf1 b hb)).2 hc
  ·rcases aU.1 hb with hb|hb
   ·exact(hm2 b (hf1 b hb)).1
   ·exact hf2 b hb
  ·rcases aU.1 hm with hm|hm
   ·exact(hm1 b hf).2 hm
   ·exact(hm2 b (hm1 b hf).1).2 hm
def Jn(P:Program):List ResultVar->List Rs->Bool
 | [],[]=>ar
 |.tmp t::l,.t i::m=>t==i&&Jn P l m
 |.cell t ty::l,.cell i n::m=>t==i&&QU P ty n&&Jn P l m
 |_,_=>aw
def acs(tmps:Array Value):ResultVar->Sem Value
 |.tmp t=>I4 (tmps.getD t undef)
 |.cell a t=>do loadVar t (<-asAddr (tmps.getD a undef))
def acx(h:lf φ w0 L E st a w):∀{l:List ResultVar} {m:List Rs} {ab:List A},Jn P l m=ar->OU st m=ae ab->
 ∃rvs,(l.mapM (acs a.tmps)).run P w=.ok rvs w/\fE (λv x=>RV φ E st.r w v x/\∀k b,Tk v x k b->∃i,Tk (a.eval (.tmp i)) (st.t i) k b) rvs ab
 | [],[],ab,_,he=>by simp[OU]at he;subst he;exact⟨[],rfl,.nil⟩
 |.tmp t::l,.t i::m,ab,hc,he=>by
  simp only[Jn,aj,b9]at hc
  obtain⟨rfl,hc⟩:=hc
  simp only[OU,Rs.v,af]at he
  obtain⟨as',he',rfl⟩:=au.1 he
  obtain⟨rvs,hr,hall⟩:=acx h hc he'
  refine⟨a.eval (.tmp t)::rvs,?_,.cons ⟨h.iZ t,λk b ht=>⟨t,ht⟩⟩ hall⟩
  simp only[List.mapM_cons,acs,dp,jb,bP,hr]
  rfl
 |.cell t ty::l,.cell i n::m,ab,hc,he=>by
  simp only[Jn,aj,b9]at hc
  obtain⟨⟨rfl,hcn⟩,hc⟩:=hc
  simp only[OU]at he
  obtain⟨x,hx,he⟩:=ak.1 he
  obtain⟨as',he',rfl⟩:=au.1 he
  obtain⟨rvs,hr,hall⟩:=acx h hc he'
  have hx':(match(bZ.t t).v st with
   |.loc q i c=>(st.r q).bind λR=>(R.xs[i]?).bind λx=>ie x.cells c n
   |.ptr cs c=>ie cs c n
   |_=>ai)=ae x:=by
    simp only[Rs.v]at hx
    simp only[bZ.v]
    split at hx
    ·rename_i q j c e;rw[e];exact hx
    ·cases hx
  obtain⟨v,hv,hrv,hcp⟩:=arD (P:=P) (p:=.tmp t) (p':=.t t) h (by simp[bV]) hcn hx'
  have hload:(do loadVar ty (<-asAddr (a.tmps.getD t undef)):Sem Value).run P w=.ok v w:=by simp only[Rs.v]at hx;split at hx;(·rename_i q j c e;obtain⟨R,hR,hx⟩:=ak.1 hx;have hs:=h.iZ t;rw[e]at hs;obtain⟨b,o,_,he⟩:=hs.Dl.R9 hR;simp only[Rk]at he hv;rw[he]at hv⊢;simpa[akh,Ta,asAddr]using hv);·cases hx
  refine⟨v::rvs,?_,.cons ⟨hrv,hcp⟩ hall⟩
  simp only[List.mapM_cons,acs,dp]at hload⊢
  simp only[hload,bP,hr,jb]
 | [],_::_,_,h,_=>by simp[Jn]at h
 |.tmp _::_,[],_,h,_=>by simp[Jn]at h
 |.cell _ _::_,[],_,h,_=>by simp[Jn]at h
 |.tmp _::_,.cell _ _::_,_,h,_=>by simp[Jn]at h
 |.cell _ _::_,.t _::_,_,h,_=>by simp[Jn]at h
def ajk{mf:Func}{tmps:Array Value}{rvs:List Value}(h:(mf.results.toList.mapM (acs tmps)).run P w=.ok rvs w):(results mf tmps).run P w=.ok (C7 rvs) w:=by
 have key:∀f:ResultVar->Sem Value,f=acs tmps->(do let vs<-mf.results.mapM f;I4 (if h:vs.size=1 then vs[0]else .tuple vs):Sem Value).run P w=.ok (C7 rvs) w:=by intro f hf;subst hf;rw[Array.mapM_eq_mapM_toList];simp only[dp,Sem.run_map];rw[h];simp only[bP,jb];congr 1;match rvs with| []=>rfl| [v]=>rfl|v::u::l=>simp[C7]
 exact key _ (funext λx=>by cases x<;>rfl)
def UQ(h:cI φ w0 L E st ev w)(hK:∀b,K b->E.ok b):∀{ab os:List A} {vs:List Value} {i:Nat} {bs:List Nat},fL φ w0 K vs ab bs->
 (∀j v x,vs[j]? =ae v->ab[j]? =ae x->L.pl (i+j)=(if i+j<1000 then place v x else ai)\/st.r (i+j)=ai)->outs st i ab=ae os->
 ∃ob ns,jc φ w E.ok vs ab os ob/\NB E st ob ns/\ns.Nodup/\∀p∈ns,∃j,i<=j/\j<1000/\(p=j\/∃c,c<1000/\p=sub j c)
 | [],os,vs,i,bs,ha,_,he=>by
   simp[outs]at he;subst he
   cases ha
   exact⟨[],[],.nil,NB.nil,iy,λp hp=>by cases hp⟩
 |x::ab,os,vs,i,bs,ha,hpl,he=>by
  cases ha with
  |cons v _ b0 vs _ bs0 h0 t=>
   have hpl':∀j u y,vs[j]? =ae u->ab[j]? =ae y->L.pl (i+1+j)=(if i+1+j<1000 then place u y else ai)\/st.r (i+1+j)=ai:=λj u y hu hy=>by have:=hpl (j+1) u y (by simpa using hu) (by simpa using hy);rwa[show i+(j+1)=i+1+j from by omega]at this
   have hp0:L.pl i=(if i<1000 then place v x else ai)\/st.r i=ai:=by have:=hpl 0 v x rfl rfl;simpa using this
   have sep:∀{ms:List Nat} {n1:List Nat},i<1000->n1.Nodup->(∀p∈n1,p=i\/∃c,c<1000/\p=sub i c)->ms.Nodup->(∀p∈ms,∃j,i+1<=j/\j<1000/\(p=j\/∃c,c<1000/\p=sub j c))->
    (n1++ms).Nodup/\∀p∈n1++ms,∃j,i<=j/\j<1000/\(p=j\/∃c,c<1000/\p=sub j c):=by
    intro ms n1 hi a1 a2 a3 a4
    refine⟨cZ.2 ⟨a1,a3,λp hp q hq e=> ?_⟩,λp hp=> ?_⟩
    ·subst e
     obtain⟨j,b1,b2,b3⟩:=a4 p hq
     rcases a2 p hp with c1|⟨c,c1,c2⟩<;>rcases b3 with d1|⟨d,d1,d2⟩
     ·omega
     ·have:=Pe j d;omega
     ·have:=Pe i c;omega
     ·have:=(Me c1 d1 (c2.symm.trans d2)).1;omega
    ·rcases aU.1 hp with hp|hp
     ·exact⟨i,bm _,hi,a2 p hp⟩
     ·obtain⟨j,b1,b2,b3⟩:=a4 p hp;exact⟨j,by omega,b2,b3⟩
   cases h0 with
   |data _ hr=>
    have hp:outs st i (x::ab)=outs st (i+1) ab:=by cases hr<;>rfl
    rw[hp]at he
    obtain⟨ob,ns,h1,h2,h3,h4⟩:=UQ h hK t hpl' he
    refine⟨ob,ns,.data _ _ _ _ _ _ ⟨λz xs e=> ?_,λz xs e=> ?_⟩ h1,h2,h3,λp hp=> ?_⟩
    ·subst e;cases hr
    ·subst e;cases hr
    ·obtain⟨j,b1,b2,b3⟩:=h4 p hp;exact⟨j,by omega,b2,b3⟩
   |iB z y _ hb=>
    simp only[outs]at he
    obtain⟨R,hR,he⟩:=ak.1 he
    split at he
    ·rename_i e hRb hRx
     split at he
     ·rename_i hcond
      obtain⟨hz,hi⟩:=hcond
      obtain⟨cs,hcs,he⟩:=ak.1 he
      obtain⟨os',hos,rfl⟩:=au.1 he
      obtain⟨Rb,Rz,Rxs⟩:=R
      simp only at hRb hRx hz
      subst hRb;subst hRx;subst hz
      obtain⟨ob,ns,h1,h2,h3,h4⟩:=UQ h hK t hpl' hos
      cases hb with
      |mk b o _ _ us bs1 hcr hcl hrm hz=>
       replace hp0:=hp0.resolve_right (by rw[hR];exactλe=>by cases e)
       rw[aJ hi]at hp0
       have hρ:=h.Qr i (b,o) hp0 (by rw[hR];rfl)
       cases h.roots _ _ hR with
       |box b1 o1 z1 _ us1 hρ1 hz1 hlt hlen hcells hcl1 hrm1=>
        rw[hρ]at hρ1;cases hρ1
        obtain⟨bs2,g4,g5,g6⟩:=Lv h (c:=0) hlen (λj v x hv hx=>by have:=hcells j v x hv hx;rwa[c8]) hcs
        have hna:∀y∈cs,∀l,y≠ .agg l:=λy hy=>by obtain⟨c,hc⟩:=ff.1 hy;(have hcl:c<us1.length:=by(rcases bH c cs.length with h|h);(·omega);·simp[bB h]at hc);obtain⟨b',hb'⟩:=g4.get (j:=c) (v:=us1[c]) (by simp) hc;exact hb'.agJ
        have hrc:(eX e cs).cells=cs:=jW g6 hna
        have hbox:jE φ w E.ok (.pointer (ae ⟨b,o,ai⟩)) Rz (eX e cs) (b::bs2):=.mk b o Rz _ us1 bs2 (by rw[hrc];exact g4) hcl1 hrm1 (by rw[hrc,g6,hz1])
        have hnb:NB E st (b::bs2) (i::e.cells.flatMap ga):=(NB.one (by rw[hR];rfl) hρ).append h g5
        obtain⟨k1,k2⟩:=Xu (c:=0) hlen (λj v x hv hx=>by rw[c8];exact hcells j v x hv hx)
        obtain⟨m1,m2⟩:=sep hi (Ye hlt hlen hcells) (λp hp=>by
         rcases bl.1 hp with rfl|hp
         ·exact .inl rfl
         ·obtain⟨c,_,c1,c2⟩:=k2 p hp;exact .inr ⟨c,c1,c2⟩) h3 h4
        exact⟨(b::bs2)++ob,_,.iB _ _ _ _ _ _ _ _ _ hbox h1,hnb.append h h2,m1,m2⟩
     ·cases he
    ·cases he
   |lB z xs ob1 ho=>
    simp only[outs]at he
    split at he
    ·obtain⟨os',hos,rfl⟩:=au.1 he
     obtain⟨ob,ns,h1,h2,h3,h4⟩:=UQ h hK t hpl' hos
     exact⟨ob,ns,.gone _ _ _ _ _ _ _ h1,h2,h3,λp hp=>by obtain⟨j,b1,b2,b3⟩:=h4 p hp;exact⟨j,by omega,b2,b3⟩⟩
    rename_i R hR
    split at he
    ·rename_i hcond
     obtain⟨hz,hlx,hRb,hi⟩:=hcond
     obtain⟨os',hos,rfl⟩:=au.1 he
     obtain⟨Rb,Rz,Rxs⟩:=R
     simp only at hRb hz hlx
     subst hRb;subst hz
     obtain⟨ob,ns,h1,h2,h3,h4⟩:=UQ h hK t hpl' hos
     replace hp0:=hp0.resolve_right (by rw[hR];exactλe=>by cases e)
     rw[aJ hi]at hp0
     have hown:∃ob2,gD φ w E.ok v Rz Rxs ob2/\∀b,ob2=ae b->∃o,E.ρ i=ae (b,o):=by cases ho with|empty ad z=>obtain rfl:Rxs=[]:=gy (by simpa using hlx);exact⟨ai,.empty _ _,λb e=>by cases e⟩|mk b o cap z xs us hc hc0 hz hh hv hr=>have hρ:=h.Qr i (b,o) (by rw[hp0];simp[place,hc0]) (by rw[hR];rfl);cases h.roots _ _ hR with|empty z1 h1=>rw[hρ]at h1;cases h1|sl b1 o1 z1 _ us1 hρ1 hz1 hh1 hv1 hr1=>rw[hρ]at hρ1;cases hρ1;have:=gD.mk (φ:=φ) (w:=w) (K:=E.ok) b o cap Rz Rxs us1 (by omega) hc0 hz1 hh1 hv1 (h.room _ _ hr);rw[hlx]at this;exact⟨ae b,this,λb' e=>by cases e;exact⟨o,hρ⟩⟩
     obtain⟨ob2,ho2,hρ2⟩:=hown
     have hnb:NB E st ob2.toList [i]:=by cases ob2 with|none=>exact NB.none _|some b=>obtain⟨o,hρ'⟩:=hρ2 b rfl;exact NB.one (by rw[hR];rfl) hρ'
     obtain⟨m1,m2⟩:=sep hi (n1:=[i]) (by simp) (λp hp=>.inl (by simpa using hp)) h3 h4
     exact⟨ob2.toList++ob,_,.lB _ _ _ _ _ _ _ _ _ ho2 hlx h1,hnb.append h h2,m1,m2⟩
    ·cases he
end
end Go.Ab
namespace Go.Ab
structure af6(P:Program)(φ:Nat->Nat)(M:Nat->Option Def):Prop where
 ir:∀f fn,M f=ae (.ir fn)→∃mf c,P.funcs[φ f]? =ae mf∧mf.name≠ "runtime.NumGoroutine" ∧mf.body=ae c∧gC P φ mf.ntmps (aiI fn.io 0 fn.gone) fn.body c=ar∧Jn P mf.results.toList fn.res=ar∧fn.np≤mf.ntmps
 alg:∀f io g,M f=ae (.alg io g)->∀args res outs,g f args=ae (res,outs)->jR P (φ f)/\dB P φ f args res outs
section
variable {P:Program} {φ:Nat->Nat} {M:Nat->Option Def}
def ah4(hM:af6 P φ M){ex:C->St->Option (Ex×St)}(hex:aat P φ ex):auU P φ (Ty M ex):=by
 intro f args res outs he;unfold Ty at he;split at he
 ·rename_i fn hf;obtain⟨mf,c,h1,h2,h3,h4,h5,h6⟩:=hM.ir f fn hf;obtain⟨st0,hen,he⟩:=ak.1 he;refine⟨⟨mf,h1,h2,by rw[h3];rfl⟩,λw K vs bs ha hnd hKb hKz hGl=> ?_⟩;have hlen:vs.length=fn.np:=by unfold Fn.enter at hen;split at hen;(·rename_i hc;rw[ha.length];exact hc.1);·cases hen
  have hlo:Iz fn.io args=ar:=by unfold Fn.enter at hen;split at hen;(·rename_i hc;exact hc.2);·cases hen
  obtain⟨E,hS,hok⟩:=aqk fn.gone (n:=mf.ntmps) ha hnd hKb hKz hen
  have fin:∀{e:Ex} {st:St},ex fn.body st0=ae (e,st)->fn.leave args st=ae (res,outs)->(e=.ret\/e=.normal)-> Calls P (φ f) vs.toArray w λe w'=>∃v,e=.returned v/\auS φ w K vs args res outs bs v w':=by
   intro e st hx hl hee;refine calls_of_wp h1 h3 ?_;(have hsz:(vs.toArray++Pr (mf.ntmps-vs.toArray.size) undef).size=mf.ntmps:=by simp;omega);refine hex fn.body c mf.ntmps (aiI fn.io 0 fn.gone) h4 w (Lw K vs args bs fn.gone) (λi p hp=> ?_) ⟨hGl,λb hb=>⟨hKz b hb,λhm=>hKb b hm hb⟩⟩ E st0 {tmps:=vs.toArray++Pr (mf.ntmps-vs.toArray.size) undef,defers:=[]} w e st (by simpa using hS) hsz hx _ λE' a' w' hS' hn'=> ?_;·simp only[Lw]at hp;split at hp;(·rename_i hc;split at hp;(·rename_i v x hv hx';exact amG (Wt hlo hx' (alc hp)) (by rw[c8];exact hc.2));·cases hp);·cases hp
   ·have key:a'.defers=[]/\∃v,(results mf a'.tmps).run P w'=.ok v w'/\∃v',Ending.returned v=.returned v'/\auS φ w K vs args res outs bs v' w':=by
     unfold Fn.leave at hl;split at hl
     ·rename_i hlr;obtain⟨ab,has,hl⟩:=ak.1 hl;obtain⟨⟨rs,st1⟩,hrs,hl⟩:=ak.1 hl;obtain⟨os,hos,hl⟩:=au.1 hl;simp only[be]at hl;obtain⟨rfl,rfl⟩:=hl;obtain⟨rvs,hrun,hall⟩:=acx hS' h5 has;have hlay:=hS'.tocI.lay hall;have hrl:rvs.length=fn.own.length:=by(have hm:∀{m:List Rs} {ab:List A},OU st m=ae ab->ab.length=m.length:=by intro m;induction m with|nil=>intro ab h;simp[OU]at h;subst h;rfl|cons r m ih=>intro ab h;simp only[OU]at h;obtain⟨x,_,h⟩:=ak.1 h;obtain⟨l,hl,rfl⟩:=au.1 h;simp[ih hl]);rw[hall.1,hm has,hlr]
      obtain⟨E2,rb,hS2,hres,hnb,hfb,hok2,_⟩:=afe (vs:=rvs) hlay hrl (λi v hv=>by
       simp only[evL]
       rw[aJ (by omega),show gs+(0+i)-gs=i from by omega,hv];rfl) hrs
      have hKu:∀b,K b->E2.ok b:=λb hb=>hok2 b (hS'.okU b hb);have hS3:cI φ w (Lw K vs args bs fn.gone) E2 {st1 with r:=Ab.less st1.r fn.gone} _ w':=hS2.agH fn.gone
      obtain⟨ob,ns,hout,hnbo,hns,_⟩:=UQ hS3 hKu ha (i:=0) (λj v x hv hx=>by
       simp only[Lw,c8,hv,hx]
       by_cases hg:j∈fn.gone
       ·exact .inr (by simp[Ab.less,hg])
       ·refine .inl ?_
        by_cases hj:j<1000
        ·rw[aJ ⟨hj,hg⟩,aJ hj]
        ·rw[aO λh=>hj h.1,aO hj]) hos
      (have hob:∀b∈ob,(¬E2.ok b/\Tv w (Lw K vs args bs fn.gone) b/\b<w'.heap.size)/\b∉rb:=λb hb=>by obtain⟨p,_,hlv,o,hρ⟩:=hnbo.1 b hb;(have hlv2:(st1.r p).isSome=ar:=by simp only[Ab.less]at hlv;split at hlv;(·cases hlv);·exact hlv);exact⟨hS2.rz p b o hlv2 hρ,λhm=>(hfb b hm).r p b o hlv2 hρ rfl⟩);refine⟨hS'.yI,C7 rvs,ajk hrun,C7 rvs,rfl,⟨hS2.grow,λb hb hn=>hS2.frame b hb hn,hS2.env,hS2.fr,hS2.room,rvs,E2.ok,rb,ob,rfl,hKu,λb hb=> ?_,hres,hout,cZ.2 ⟨hnb,hnbo.2 hns,λb hb c hc e=>(hob c hc).2 (e▸hb)⟩,λb hb=> ?_⟩⟩;(·(rcases hS2.okL b hb with h7|h7|h7);(·exact .inl h7);(·exact .inr (.inr ⟨h7,hS2.UP b hb⟩));·exact .inr (.inl h7));·(have hz:¬E2.ok b/\Tv w (Lw K vs args bs fn.gone) b/\b<w'.heap.size:=by(rcases aU.1 hb with hb|hb);(·exact(hfb b hb).z);·exact(hob b hb).1);exact⟨hz.1,hz.2.2,hz.2.1.symm⟩
     ·cases hl
    rcases hee with rfl|rfl<;>exact⟨key.1,key.2⟩
  split at he;·rename_i st hx;exact fin hx he (.inl rfl)
  ·rename_i st hx;exact fin hx he (.inr rfl)
  ·cases he
 ·rename_i io g hf;exact hM.alg f io g hf args res outs he
 ·cases he
def avk(hm:P.follows .mixedOrders=ar)(hM:af6 P φ M):∀n,aat P φ (exec M n):=by intro n;induction n using Nat.strongRecOn with|_ n ih=>cases n with|zero=>exact anV M|succ n=>exact anU hm (λk hk=>ih k (by omega)) (ah4 hM (ih n (by omega)))
end
end Go.Ab
namespace Go.Ab
mutual
inductive CT where
 |bool
 |int (k:IntKind)
 |str
 |sl (t:ET)
 |own (t:ET)
inductive ET where
 |one (c:CT)
 |agg (cs:rB)
inductive rB where
 |nil
 |cons (c:CT) (cs:rB)
end
mutual
@[reducible] def CT.ty:CT->Type
  |.bool=>Bool
  |.int _=>Int
  |.str=>List UInt8
  |.sl t=>List t.ty
  |.own t=>List t.ty
@[reducible] def ET.ty:ET->Type
  |.one c=>c.ty
  |.agg cs=>cs.ty
@[reducible] def rB.ty:rB->Type
  |.nil=>Unit
  |.cons c cs=>c.ty×cs.ty
end
def rB.len:rB->Nat
 |.nil=>0
 |.cons _ cs=>cs.len+1
def ET.z:ET->Nat
 |.one _=>1
 |.agg cs=>cs.len
mutual
def CT.enc:(c:CT)->c.ty->A
 |.bool,b=>.bool b
 |.int k,n=>.int k n
 |.str,s=>.str s
 |.sl t,xs=>.sl t.z (xs.map t.enc)
 |.own t,xs=>.own t.z (xs.map t.enc)
def ET.enc:(t:ET)->t.ty->A
 |.one c,x=>c.enc x
 |.agg cs,x=>.agg (cs.enc x)
def rB.enc:(cs:rB)->cs.ty->List A
 |.nil,_=>[]
 |.cons c cs,x=>c.enc x.1::cs.enc x.2
end
mutual
def CT.eq? :(a b:CT)->Option (PLift (a=b))
 |.bool,.bool=>ae ⟨rfl⟩
 |.int k,.int k'=>if h:k=k' then ae ⟨by rw[h]⟩else ai
 |.str,.str=>ae ⟨rfl⟩
 |.sl t,.sl u=>(t.eq? u).map λh=>⟨by rw[h.down]⟩
 |.own t,.own u=>(t.eq? u).map λh=>⟨by rw[h.down]⟩
 |_,_=>ai
def ET.eq? :(a b:ET)->Option (PLift (a=b))
 |.one c,.one d=>(c.eq? d).map λh=>⟨by rw[h.down]⟩
 |.agg c,.agg d=>(c.eq? d).map λh=>⟨by rw[h.down]⟩
 |_,_=>ai
def rB.eq? :(a b:rB)->Option (PLift (a=b))
 |.nil,.nil=>ae ⟨rfl⟩
 |.cons c cs,.cons d ds=>
  match c.eq? d,cs.eq? ds with
  |some h,ae h'=>ae ⟨by rw[h.down,h'.down]⟩
  |_,_=>ai
 |_,_=>ai
end
def Nx(t u:ET)(xs:List t.ty):Option (List u.ty):=
 match t.eq? u with
 |some h=>ae (h.down▸xs)
 |none=>ai
def xM{t u:ET}{xs:List t.ty}{ys:List u.ty}(h:Nx t u xs=ae ys):t=u/\HEq xs ys:=by
 unfold Nx at h;split at h;·rename_i e _;obtain⟨rfl⟩:=e;simp only[aq]at h;subst h;exact⟨rfl,HEq.rfl⟩
 ·cases h
inductive V where
 |any
 |undef
 |bool (b:Bool)
 |int (k:IntKind) (n:Int)
 |str (s:List UInt8)
 |agg (cs:List V)
 |sl0 (z:Nat)
 |sl (t:ET) (xs:List t.ty)
 |jo (z:Nat)
 |Yw (v:Value)
 |tok (k:Nat) (t:ET) (xs:List t.ty)
 |view (r off len:Nat)
 |loc (r i c:Nat)
 |ptr (cs:List V) (c:Nat)
 |fn (f:Nat) (caps:List V)
 |sf (xs:List V)
 |own (t:ET) (xs:List t.ty)
 |iB (z:Nat) (x:V)
 |lB (t:ET) (xs:List t.ty)
mutual
def V.a:V->A
 |.any=>.any
 |.undef=>.undef
 |.bool b=>.bool b
 |.int k n=>.int k n
 |.str s=>.str s
 |.agg cs=>.agg (V.ab cs)
 |.sl0 z=>.sl z []
 |.sl t xs=>.sl t.z (xs.map t.enc)
 |.jo z=>.jo z
 |.Yw v=>.Yw v
 |.tok k t xs=>.tok k t.z (xs.map t.enc)
 |.view r o n=>.view r o n
 |.loc r i c=>.loc r i c
 |.ptr cs c=>.ptr (V.ab cs) c
 |.fn f caps=>.fn f (V.ab caps)
 |.sf xs=>.sf (V.ab xs)
 |.own t xs=>.own t.z (xs.map t.enc)
 |.iB z x=>.iB z [x.a]
 |.lB t xs=>.lB t.z (xs.map t.enc)
def V.ab:List V->List A
 | []=>[]
 |v::l=>v.a::V.ab l
end
mutual
def CT.v:(c:CT)->c.ty->V
 |.bool,b=>.bool b
 |.int k,n=>.int k n
 |.str,s=>.str s
 |.sl t,xs=>.sl t xs
 |.own t,xs=>.own t xs
def ET.v:(t:ET)->t.ty->V
 |.one c,x=>c.v x
 |.agg cs,x=>.agg (cs.v x)
def rB.v:(cs:rB)->cs.ty->List V
 |.nil,_=>[]
 |.cons c cs,x=>c.v x.1::cs.v x.2
end
mutual
def CT.VE:∀(c:CT) (x:c.ty),(c.v x).a=c.enc x
 |.bool,_=>rfl
 |.int _,_=>rfl
 |.str,_=>rfl
 |.sl _,_=>rfl
 |.own _,_=>rfl
def ET.VE:∀(t:ET) (x:t.ty),(t.v x).a=t.enc x
 |.one c,x=>CT.VE c x
 |.agg cs,x=>by simp only[ET.v,V.a,ET.enc,rB.axF cs x]
def rB.axF:∀(cs:rB) (x:cs.ty),V.ab (cs.v x)=cs.enc x
 |.nil,_=>rfl
 |.cons c cs,x=>by simp only[rB.v,V.ab,rB.enc,CT.VE c x.1,rB.axF cs x.2]
end
def V.atJ:(c:CT)->V->Option c.ty
 |.bool,.bool b=>ae b
 |.int k,.int k' n=>if k'=k then ae n else ai
 |.str,.str s=>ae s
 |.sl t,.sl u xs=>Nx u t xs
 |.sl t,.sl0 z=>if z=t.z then ae []else ai
 |.own t,.own u xs=>Nx u t xs
 |_,_=>ai
def V.afK:(cs:rB)->List V->Option cs.ty
 |.nil,[]=>ae ()
 |.cons c cs,v::l=>(v.atJ c).bind λx=>(V.afK cs l).map λy=>(x,y)
 |_,_=>ai
def V.Z4:(t:ET)->V->Option t.ty
 |.one c,v=>v.atJ c
 |.agg cs,.agg l=>V.afK cs l
 |_,_=>ai
def V.arw{c:CT}{v:V}{x:c.ty}(h:v.atJ c=ae x):v.a=c.enc x:=by
 unfold V.atJ at h;split at h;·simp only[aq]at h;subst h;rfl
 ·split at h;·rename_i e;simp only[aq]at h;subst h;subst e;rfl
  ·cases h
 ·simp only[aq]at h;subst h;rfl
 ·obtain⟨rfl,h⟩:=xM h;cases h;rfl
 ·split at h;·rename_i e;simp only[aq]at h;subst h;subst e;rfl
  ·cases h
 ·obtain⟨rfl,h⟩:=xM h;cases h;rfl
 ·cases h
def V.ajN:∀{cs:rB} {l:List V} {x:cs.ty},V.afK cs l=ae x->V.ab l=cs.enc x
 |.nil,[],x,h=>rfl
 |.nil,_::_,x,h=>by simp[V.afK]at h
 |.cons c cs,[],x,h=>by simp[V.afK]at h
 |.cons c cs,v::l,x,h=>by
  simp only[V.afK]at h
  obtain⟨y,hy,h⟩:=ak.1 h
  obtain⟨z,hz,rfl⟩:=au.1 h
  simp only[V.ab,rB.enc,V.arw hy,V.ajN hz]
def V.I1{t:ET}{v:V}{x:t.ty}(h:v.Z4 t=ae x):v.a=t.enc x:=by
 unfold V.Z4 at h;split at h;·exact V.arw h
 ·simp only[V.a,ET.enc,V.ajN h]
 ·cases h
def Ox{α β:Type}{f:α->β}(hf:∀x y,f x=f y->x=y):∀{xs ys:List α},xs.map f=ys.map f->xs=ys
 | [],[],_=>rfl
 | [],_::_,h=>by simp at h
 |_::_,[],h=>by simp at h
 |x::xs,y::ys,h=>by
  simp only[aP,ej]at h
  rw[hf _ _ h.1,Ox hf h.2]
mutual
def CT.oj:∀(c:CT) (x y:c.ty),c.enc x=c.enc y->x=y
 |.bool,x,y,h=>by simpa[CT.enc]using h
 |.int _,x,y,h=>by simpa[CT.enc]using h
 |.str,x,y,h=>by simpa[CT.enc]using h
 |.sl t,x,y,h=>by simp only[CT.enc,A.sl.injEq,Mh]at h;exact Ox (ET.oj t) h
 |.own t,x,y,h=>by simp only[CT.enc,A.own.injEq,Mh]at h;exact Ox (ET.oj t) h
def ET.oj:∀(t:ET) (x y:t.ty),t.enc x=t.enc y->x=y
 |.one c,x,y,h=>CT.oj c x y h
 |.agg cs,x,y,h=>rB.oj cs x y (by simpa[ET.enc]using h)
def rB.oj:∀(cs:rB) (x y:cs.ty),cs.enc x=cs.enc y->x=y
 |.nil,_,_,_=>rfl
 |.cons c cs,x,y,h=>by
  simp only[rB.enc,ej]at h
  exact Prod.ext (CT.oj c _ _ h.1) (rB.oj cs _ _ h.2)
end
def V.fe(l:List V):V.ab l=l.map V.a:=by induction l with|nil=>rfl|cons v l ih=>simp only[V.ab,aP,ih]
def V.cells:V->List V
 |.agg cs=>cs
 |v=>[v]
def V.im(v:V):v.a.cells=v.cells.map V.a:=by cases v<;>simp[V.a,A.cells,V.cells,V.fe]
def CT.Jp(c:CT)(x:c.ty):aiP (c.enc x)=ar:=by cases c<;>rfl
def rB.Jp:∀(cs:rB) (x:cs.ty),(cs.enc x).all aiP=ar
 |.nil,_=>rfl
 |.cons c cs,x=>by simp only[rB.enc,de,CT.Jp,rB.Jp cs x.2,bM]
def CT.tO(c:CT)(x:c.ty):(c.enc x).cells=[c.enc x]:=by cases c<;>rfl
def ET.aif(t:ET)(x:t.ty):Mv (t.enc x)=ar:=by cases t with|one c=>simp[Mv,ET.enc,CT.tO,CT.Jp]|agg cs=>simpa[Mv,ET.enc,A.cells]using rB.Jp cs x
def rB.ams:∀(cs:rB) (x:cs.ty),(cs.enc x).length=cs.len
 |.nil,_=>rfl
 |.cons c cs,x=>by simp only[rB.enc,bh,rB.ams cs x.2,rB.len]
def ET.D8(t:ET)(x:t.ty):(t.enc x).cells.length=t.z:=by cases t with|one c=>simp[ET.enc,CT.tO,ET.z]|agg cs=>simp[ET.enc,A.cells,rB.ams,ET.z]
def ET.vs(t:ET)(x:t.ty):List V:=(t.v x).cells
def ET.Vx(t:ET)(x:t.ty):(t.enc x).cells=(t.vs x).map V.a:=by rw[<-ET.VE,V.im];rfl
mutual
def CT.plain:CT->Bool
 |.bool|.int _|.str=>ar
 |_=>aw
end
def rB.plain:rB->Bool
 |.nil=>ar
 |.cons c cs=>c.plain&&cs.plain
def ET.plain:ET->Bool
 |.one c=>c.plain
 |.agg cs=>cs.plain
def CT.data:CT->Bool
 |.own _=>aw
 |_=>ar
def rB.data:rB->Bool
 |.nil=>ar
 |.cons c cs=>c.data&&cs.data
def ET.data:ET->Bool
 |.one c=>c.data
 |.agg cs=>cs.data
def CT.xi(c:CT)(x:c.ty)(h:c.plain=ar):(c.enc x).plain=ar:=by cases c<;>first|rfl|(simp[CT.plain]at h)
def rB.xi:∀(cs:rB) (x:cs.ty),cs.plain=ar->A.tp (cs.enc x)=ar
 |.nil,_,_=>rfl
 |.cons c cs,x,h=>by
  simp only[rB.plain,aj]at h
  simp only[rB.enc,A.tp,CT.xi c x.1 h.1,rB.xi cs x.2 h.2,bM]
def ET.xi(t:ET)(x:t.ty)(h:t.plain=ar):(t.enc x).plain=ar:=by cases t with|one c=>exact CT.xi c x h|agg cs=>simpa[ET.enc,A.plain]using rB.xi cs x h
end Go.Ab
namespace Go.Ab
inductive VR where
 |var (z:Nat) (x:V)
 |sl (t:ET) (xs:List t.ty)
def VR.a:VR->dF
 |.var z x=>⟨ar,z,[x.a]⟩
 |.sl t xs=>⟨aw,t.z,xs.map t.enc⟩
structure bF where
 t:List (Nat×V)
 r:List (Nat×Option VR)
def gd:List (Nat×V)->Nat->V
 | [],_=>.any
 |(j,v)::l,i=>if i=j then v else gd l i
def dX:List (Nat×Option VR)->Nat->Option VR
 | [],_=>ai
 |(j,v)::l,i=>if i=j then v else dX l i
def bF.a(st:bF):St:=⟨λi=>(gd st.t i).a,λi=>(dX st.r i).map VR.a⟩
def A.ok1:A->Bool
 |.any|.undef|.bool _|.int _ _|.str _|.jo _|.Yw _|.sl _ []|.fn _ []=>ar
 |_=>aw
def A.okV:A->Bool
 |.agg cs=>cs.all A.ok1
 |a=>a.ok1
def A.arz:A->V
 |.undef=>.undef
 |.bool b=>.bool b
 |.int k n=>.int k n
 |.str s=>.str s
 |.jo z=>.jo z
 |.Yw v=>.Yw v
 |.sl z _=>.sl0 z
 |.fn f _=>.fn f []
 |_=>.any
def A.toV:A->V
 |.agg cs=>.agg (cs.map A.arz)
 |a=>a.arz
def bZ.ok:bZ->Bool
 |.t _=>ar
 |.c a=>a.okV
def bZ.vv(st:bF):bZ->V
 |.t i=>gd st.t i
 |.c a=>a.toV
def bF.put(st:bF)(d:Option Nat)(v:V):bF:=
 match d with
 |some d=>{st with t:=(d,v)::st.t}
 |none=>st
def bF.aV(st:bF)(i:Nat)(v:V):bF:={st with t:=(i,v)::st.t}
def bF.map(f:V->V)(st:bF):bF:={st with t:=st.t.map λp=>(p.1,f p.2)}
def AJ(f:V->V):V->V
 |.sf xs=>.sf (xs.map f)
 |.agg xs=>.agg (xs.map f)
 |.fn g xs=>.fn g (xs.map f)
 |a=>f a
def arY(r:Nat):V->Bool
 |.view q _ _|.loc q _ _=>q==r
 |_=>aw
def am5(k:Nat):V->Bool
 |.tok j _ _=>j==k
 |_=>aw
def alS(r:Nat)(a:V):V:=if arY r a then .any else a
def XF(k:Nat)(a:V):V:=if am5 k a then .any else a
def bF.kill(st:bF)(r:Nat):bF:=st.map (AJ (alS r))
def bF.cX(st:bF)(k:Nat):bF:=st.map (AJ (XF k))
def bF.aD(st:bF)(r:Nat)(R:Option VR):bF:={st with r:=(r,R)::st.r}
def xe:V->Bool
 |.bool _|.int .. |.str _|.sl .. |.sl0 _|.jo _|.ptr .. =>ar
 |.Yw v=>aqN v
 |.fn _ caps=>caps.isEmpty
 |_=>aw
def afS:V->Bool
 |.agg cs=>cs.all xe
 |a=>xe a
def S0:V->V
 |.jo z=>.sl0 z
 |a=>a
def alV:V->V
 |.agg cs=>.agg (cs.map S0)
 |a=>S0 a
def atX(a:V):Option V:=if afS a then ae (alV a)else ai
def Pk{α:Type}:Nat->List α->List α
 |0,l=>l
 |n+1,l=>l.drop (n+1)
def arC:Nat->Nat->Nat
 |0,m=>m
 |n+1,m=>(n+1)+m
def SY(r:List (Nat×Option VR)):V->Option V
 |.view q off n=>
  match dX r q with
  |some (.sl t xs)=>ae (.sl t ((Pk off xs).take n))
  |_=>ai
 |.tok _ t xs=>ae (.sl t xs)
 |a=>if xe a then ae (S0 a)else ai
def I2(r:List (Nat×Option VR)):List V->Option (List V)
 | []=>ae []
 |a::l=>match SY r a,I2 r l with|some x,ae xs=>ae (x::xs)|_,_=>ai
def tK{R:Type}(r:List (Nat×Option VR))(v:V)(k:V->Option R):Option R:=
 match v with
 |.loc q i c=>
  match dX r q with
  |some (.var _ x)=>(match i,I2 r x.cells with|0,ae cs=>k (.ptr cs c)|_,_=>ai)
  |some (.sl t xs)=>if t.data then(xs[i]?).bind λx=>k (.ptr (t.vs x) c)else ai
  |none=>ai
 |.agg cs=>(match I2 r cs with|some cs=>k (.agg cs)|none=>ai)
 |a=>(match SY r a with|some x=>k x|none=>ai)
def wg{R:Type}(r:List (Nat×Option VR)):List V->(List V->Option R)->Option R
 | [],k=>k []
 |a::l,k=>tK r a λx=>wg r l λxs=>k (x::xs)
def PM:V->Bool
 |.tok .. =>ar
 |_=>aw
def ahD(k:Nat):V->V
 |.tok j t xs=>if j=k then .sl t xs else .tok j t xs
 |a=>a
def ar5(k:Nat):V->V:=AJ (ahD k)
def adu(r:Nat)(t:ET)(xs:List t.ty):V->V
 |.view q off n=>if q=r then .sl t ((Pk off xs).take n)else .view q off n
 |.loc q i c=>if q=r then .any else .loc q i c
 |a=>a
def anc(r:Nat)(t:ET)(xs:List t.ty):V->V:=AJ (adu r t xs)
def agR:List V->Nat->V
 | [],_=>.any
 |v::_,0=>v
 |_::l,j+1=>agR l j
def Yp(a:V)(j:Nat):V:=agR a.cells j
def bF.pz(st:bF)(i j:Nat):Option bF:=
 match Yp (gd st.t i) j with
 |.tok k _ _=>ae (st.map (ar5 k))
 |.view q _ _=>
  match dX st.r q with
  |some (.sl t xs)=>ae ((st.map (anc q t xs)).aD q ai)
  |_=>ai
 |_=>ae st
def bF.oh(st:bF)(i:Nat):Nat->Option bF
 |0=>ae st
 |n+1=>match st.oh i n with|some st1=>st1.pz i n|none=>ai
def bF.QE(st:bF)(x:V):Option (V×bF):=
 match(st.aV gs x).oh gs x.cells.length with
 |some st1=>(match atX (gd st1.t gs)with|some v=>ae (v,st1.aV gs .any)|none=>ai)
 |none=>ai
section
variable {R:Type}
def QN(op:BinOp)(x y:V)(k:V->Option R):Option R:=
 match x,y with
 |.int i a,.int j b=>
  match op with
  |.shl=>if ah (b<0)then ai else k (.int i (i.wrap (a*2^(min b.toNat i.bits))))
  |.shr=>if ah (b<0)then ai else k (.int i (a.fdiv (2^(min b.toNat i.bits))))
  |.quo=>if i=j then(if ah (b=0)then ai else k (.int i (i.wrap (a.tdiv b))))else ai
  |.rem=>if i=j then(if ah (b=0)then ai else k (.int i (a.tmod b)))else ai
  |.add=>if i=j then k (.int i (i.wrap (a+b)))else ai
  |.sub=>if i=j then k (.int i (i.wrap (a-b)))else ai
  |.mul=>if i=j then k (.int i (i.wrap (a*b)))else ai
  |.and=>if i=j then k (.int i (i.wrap (eo i.bits a&&&eo i.bits b).toNat))else ai
  |.or=>if i=j then k (.int i (i.wrap (eo i.bits a|||eo i.bits b).toNat))else ai
  |.xor=>if i=j then k (.int i (i.wrap (eo i.bits a^^^eo i.bits b).toNat))else ai
  |.andNot=>if i=j then k (.int i (i.wrap (eo i.bits a&&& ~~~ (eo i.bits b)).toNat))else ai
  |.eql=>if i=j then k (.bool (a==b))else ai
  |.neq=>if i=j then k (.bool (a !=b))else ai
  |.lss=>if i=j then k (.bool (ah (a<b)))else ai
  |.leq=>if i=j then k (.bool (ah (a<=b)))else ai
  |.gtr=>if i=j then k (.bool (ah (a>b)))else ai
  |.geq=>if i=j then k (.bool (ah (a>=b)))else ai
 |.str a,.str b=>
  match op with
  |.add=>if ah (a.length+b.length<=bj)then k (.str (a++b))else ai
  |.eql=>k (.bool (a==b))
  |.neq=>k (.bool (!(a==b)))
  |.lss=>k (.bool (cN a b))
  |.leq=>k (.bool (cN a b||a==b))
  |.gtr=>k (.bool (!(cN a b||a==b)))
  |.geq=>k (.bool (!cN a b))
  |_=>ai
 |_,_=>ai
def aap:Kd->V->V->Option Bool
 |.b,.bool a,.bool b=>ae (a==b)
 |.i,.int k a,.int k' b=>if k=k' then ae (a==b)else ai
 |.s,.str a,.str b=>ae (a==b)
 |_,_,_=>ai
def BP:List Kd->List V->List V->Option Bool
 | [],[],[]=>ae ar
 | [k],[a],[b]=>aap k a b
 |k::ks,a::l,b::m=>match aap k a b,BP ks l m with|some x,ae y=>ae (x&&y)|_,_=>ai
 |_,_,_=>ai
def vun(op:UnOp)(x:V):Option V:=
 match op,x with
 |.neg,.int k n=>ae (.int k (k.wrap (0-n)))
 |.not,.bool b=>ae (.bool !b)
 |_,_=>ai
def arT:V->V->Option V
 |.int k x,.int k' y=>if k=k' then ae (.int k (if y>x then y else x))else ai
 |_,_=>ai
def arU:V->V->Option V
 |.int k x,.int k' y=>if k=k' then ae (.int k (if y<x then y else x))else ai
 |_,_=>ai
def afN(f:V->V->Option V):V->List V->Option V
 |a,[]=>ae a
 |a,b::l=>match f a b with|some c=>afN f c l|none=>ai
def ahy(r:List (Nat×Option VR))(t:ET):V->Option (List t.ty)
 |.sl u xs=>Nx u t xs
 |.tok _ u xs=>Nx u t xs
 |.jo z=>if z=t.z then ae []else ai
 |.sl0 z=>if z=t.z then ae []else ai
 |.view q off n=>
  match dX r q with
  |some (.sl u xs)=>Nx u t ((Pk off xs).take n)
  |_=>ai
 |_=>ai
def awa(r:List (Nat×Option VR)):V->Option Nat
 |.sl _ xs=>ae xs.length
 |.sl0 _=>ae 0
 |.tok _ _ xs=>ae xs.length
 |.jo _=>ae 0
 |.view q _ n=>match dX r q with|some _=>ae n|none=>ai
 |_=>ai
def nr(cs:List V)(c:Nat):Option Nat->Option V
 |none=>cs[c]?
 |some n=>if c+n<=cs.length then ae (.agg (((cs.drop c).take n).map S0))else ai
def PQ(cs:List V)(c:Nat)(vs:List V):Option (List V):=
 if c+vs.length<=cs.length then ae (cs.take c++vs++cs.drop (c+vs.length))else ai
def kQ(old:V)(cs:List V):V:=
 match old with
 |.agg _=>.agg cs
 |_=>match cs with| []=>.any|c::_=>c
def S2(r:List (Nat×Option VR)):V->Bool
 |.tok .. =>ar
 |.view q _ _|.loc q _ _=>(dX r q).isSome
 |a=>xe a
def adj(st:bF):List V->List (Nat×Nat×bZ)->Option (List V)
 |cs,[]=>ae cs
 |cs,(off,z,x)::l=>
  if x.ok&&ah ((x.vv st).cells.length=z)&&(x.vv st).cells.all (S2 st.r)then
   match PQ cs off (x.vv st).cells with|some cs'=>adj st cs' l|none=>ai
  else ai
def adk(st:bF)(t:ET):List t.ty->List (Nat×bZ)->Option (List t.ty)
 |xs,[]=>ae xs
 |xs,(i,x)::l=>
  if x.ok then
   match atX (x.vv st)with
   |some v=>(match v.Z4 t with|some y=>if i<xs.length then adk st t (xs.set i y) l else ai|none=>ai)
   |none=>ai
  else ai
def alU(r:List (Nat×Option VR)):V->Option V
 |.view q off n=>
  match dX r q with
  |some (.sl t xs)=>ae (.own t ((Pk off xs).take n))
  |_=>ai
 |a=>if xe a then ae a else ai
def AK(r:List (Nat×Option VR)):List V->Option (List V)
 | []=>ae []
 |a::l=>match alU r a,AK r l with|some x,ae xs=>ae (x::xs)|_,_=>ai
def alY(q c:Nat)(st:bF):V->Option (V×bF)
 |.own t xs=>if c<1000 then ae (.view (sub q c) 0 xs.length,(st.kill (sub q c)).aD (sub q c) (ae (.sl t xs)))else ai
 |a=>if xe a then ae (a,st)else ai
def XJ(q:Nat):Nat->bF->List V->Option (List V×bF)
 |_,st,[]=>ae ([],st)
 |c,st,a::l=>
  match alY q c st a with
  |some (x,st1)=>(match XJ q (c+1) st1 l with|some (xs,st2)=>ae (x::xs,st2)|none=>ai)
  |none=>ai
def Vz(st:bF)(q:Nat)(z:Nat)(x:V):Option bF:=
 if q<1000/\x.cells.length<=1000 then
  match XJ q 0 ((st.kill q).aD q ai) x.cells with
  |some (cs,st1)=>ae ((st1.kill q).aD q (ae (.var z (kQ x cs))))
  |none=>ai
 else ai
def bF.kx(st:bF)(q c j:Nat):Option (V×bF):=
 match Yp (gd st.t gs) j with
 |.tok k t xs=>
  if c+j<1000 then ae (.view (sub q (c+j)) 0 xs.length,((st.cX k).kill (sub q (c+j))).aD (sub q (c+j)) (ae (.sl t xs)))else ai
 |.view s off n=>
  if s=sub q (c+j)/\c+j<1000/\(dX st.r s).isSome=ar then ae (.view s off n,st)
  else
   match st.pz gs j with
   |some st1=>if xe (Yp (gd st1.t gs) j)then ae (S0 (Yp (gd st1.t gs) j),st1)else ai
   |none=>ai
 |.jo z=>ae (.jo z,st)
 |a=>if xe a then ae (S0 a,st)else ai
def bF.fh(st:bF)(q c:Nat):(j n:Nat)->Option (List V×bF)
 |_,0=>ae ([],st)
 |j,n+1=>
  match st.kx q c j with
  |some (x,st1)=>(match st1.fh q c (j+1) n with|some (xs,st2)=>ae (x::xs,st2)|none=>ai)
  |none=>ai
def ahw(e:V)(c n:Nat):V:=kQ e (e.cells.take c++aZ n .any++e.cells.drop (c+n))
def alR:V->Bool
 |.own .. =>ar
 |_=>aw
def Mj(d:Nat):Nat->List V->List V
 |_,[]=>[]
 |j,.tok _ t xs::l=>.tok (8*d+j) t xs::Mj d (j+1) l
 |j,.agg cs::l=>(if cs.any alR then .any else .agg cs)::Mj d (j+1) l
 |j,a::l=>a::Mj d (j+1) l
def Vw(d:Nat):Nat->List V->List V
 |_,[]=>[]
 |j,.own t xs::l=>.tok (8*d+j) t xs::Vw d (j+1) l
 |j,a::l=>a::Vw d (j+1) l
def Mi(d:Nat)(l:List V):V:=
 match l with
 | [.agg cs]=>.agg (Vw d 0 cs)
 |l=>
 match Mj d 0 l with
 | [a]=>a
 |l=>.sf l
def XE:V->Bool
 |.iB .. =>ar
 |_=>aw
def XG(st:bF)(d:Option Nat)(rs:List V):Option bF:=
 match rs,d with
 | [.iB z x],ae d=>(match Vz st d z x with|some st1=>ae (st1.put (ae d) (.loc d 0 0))|none=>ai)
 |rs,d=>if rs.any XE then ai else ae (st.put d (Mi (match d with|some d=>d|none=>0) rs))
def S1:V->Bool
 |.bool _|.int _ _|.str _=>ar
 |_=>aw
def aaq:V->Bool
 |.agg cs=>cs.all S1
 |a=>S1 a
def Ky:V->Bool
 |.tok _ t _=>t.plain
 |a=>aaq a
def HX:V->Bool
 |.view .. |.tok .. |.loc .. =>ar
 |_=>aw
def Po:V->Bool
 |.fn _ caps=>caps.any HX
 |.agg cs=>cs.any HX
 |a=>HX a
end
end Go.Ab
namespace Go.Ab
def ar2(t:ET)(cs:List V)(c:Nat):V:=
 match t with
 |.one _=>(match agR cs c with|.agg _=>.any|v=>v)
 |.agg us=>.agg ((cs.drop c).take us.len)
@[reducible] def alL:List ET->Type
  | []=>Unit
  |t::ts=>t.ty×alL ts
def vsE:(ts:List ET)->alL ts->List V
 | [],_=>[]
 |t::ts,x=>.ptr (t.vs x.1) 0::vsE ts x.2
def ofE:(ts:List ET)->List V->Option (alL ts)
 | [],[]=>ae ()
 |t::ts,.ptr cs c::l=>match(ar2 t cs c).Z4 t,ofE ts l with|some x,ae y=>ae (x,y)|_,_=>ai
 |_,_=>ai
inductive MT where
 |d (t:ET)
 |p (t:ET)
 |tok (t:ET)
 |box (t:ET)
 |lB (t:ET)
 |fn (f:Nat) (ts:List ET)
 |gone
@[reducible] def MT.ty:MT->Type
  |.d t=>t.ty
  |.p t=>t.ty
  |.tok t=>List t.ty
  |.box t=>t.ty
  |.lB t=>List t.ty
  |.fn _ ts=>alL ts
  |.gone=>Unit
def MT.v(j:Nat):(m:MT)->m.ty->V
 |.d t,x=>t.v x
 |.p t,x=>.ptr (t.vs x) 0
 |.tok t,x=>.tok j t x
 |.box t,x=>.iB t.z (t.v x)
 |.lB t,x=>.lB t x
 |.fn f ts,x=>.fn f (vsE ts x)
 |.gone,_=>.any
def am6:CT->V->V
 |.own t,.jo z=>if z=t.z then .own t []else .jo z
 |_,v=>v
def am8:rB->List V->List V
 |.cons c cs,v::l=>am6 c v::am8 cs l
 |_,l=>l
def arW:ET->V->V
 |.one c,v=>am6 c v
 |.agg cs,.agg l=>.agg (am8 cs l)
 |_,v=>v
def MT.of:(m:MT)->V->Option m.ty
 |.d t,v=>v.Z4 t
 |.p t,.ptr cs c=>(ar2 t cs c).Z4 t
 |.tok t,.tok _ u xs=>Nx u t xs
 |.box t,.iB z x=>if z=t.z then(arW t x).Z4 t else ai
 |.lB t,.lB u xs=>Nx u t xs
 |.fn f ts,.fn g l=>if g=f then ofE ts l else ai
 |.gone,.any=>ae ()
 |_,_=>ai
@[reducible] def FP:List MT->Type
  | []=>Unit
  |m::ms=>m.ty×FP ms
@[reducible] def QM:List MT->Type
  | []=>Unit
  | [m]=>m.ty
  |m::n::ms=>m.ty×QM (n::ms)
def ofU:(ms:List MT)->List V->Option (FP ms)
 | [],[]=>ae ()
 |m::ms,v::l=>match m.of v,ofU ms l with|some x,ae y=>ae (x,y)|_,_=>ai
 |_,_=>ai
def S7(j:Nat):(ms:List MT)->FP ms->List V
 | [],_=>[]
 |m::ms,x=>m.v j x.1::S7 (j+1) ms x.2
def of1:(ms:List MT)->List V->Option (QM ms)
 | [],[]=>ae ()
 | [m],[v]=>m.of v
 |m::n::ms,v::l=>match m.of v,of1 (n::ms) l with|some x,ae y=>ae (x,y)|_,_=>ai
 |_,_=>ai
def vs1(j:Nat):(ms:List MT)->QM ms->List V
 | [],_=>[]
 | [m],x=>[m.v j x]
 |m::n::ms,x=>m.v j x.1::vs1 (j+1) (n::ms) x.2
def zP:List MT->Bool
 | []=>ar
 |.tok _::_=>aw
 |_::ms=>zP ms
structure Callee where
 io:List Bool
 ps:List MT
 rs:List MT
 os:List MT
 f:FP ps->Option (QM (rs++os))
def TD:List (Nat×Callee)->Nat->Option Callee
 | [],_=>ai
 |(j,v)::l,i=>if i=j then ae v else TD l i
def Yx:List (Nat×ET)->Nat->Option ET
 | [],_=>ai
 |(j,v)::l,i=>if i=j then ae v else Yx l i
def alQ(D:List (Nat×Callee))(g:Nat):List Bool:=match TD D g with|some c=>c.io|none=>[]
section
variable {R:Type}
def uO(r:List (Nat×Option VR))(v:V)(k:V->Option R):Option R:=
 match v with
 |.fn f caps=>if caps.any PM then ai else wg r caps λcs=>k (.fn f cs)
 |v=>tK r v k
def Pj(st:bF):List bZ->(List V->Option R)->Option R
 | [],k=>k []
 |x::l,k=>if x.ok then uO st.r (x.vv st) λa=>Pj st l λr=>k (a::r)else ai
def FT(n:Int)(k:Nat->Option R):Nat->Nat->Option R
 |0,_=>ai
 |m+1,j=>if ah (n=(j:Int))then k j else FT n k m (j+1)
def vcf(D:List (Nat×Callee))(g:Nat)(ab:List V)(k:List V->List V->Option R):Option R:=
 match TD D g with
 |some c=>
  match ofU c.ps ab with
  |some x=>if zP c.ps then(c.f x).bind λy=>k ((vs1 0 (c.rs++c.os) y).take c.rs.length) ((vs1 0 (c.rs++c.os) y).drop c.rs.length)else ai
  |none=>ai
 |none=>ai
def dY{α:Type}(o:Option α)(k:α->Option R):Option R:=
 match o with
 |some x=>k x
 |none=>ai
def vu8(n:Int):UInt8:=oD n.toNat
def gP(D:List (Nat×Callee))(H:List (Nat×ET))(d:Option Nat)(st:bF)(o:O)(k:V->Option R):Option R:=
 match o with
 |.mv x=>if x.ok then k (x.vv st)else ai
 |.asg x=>if x.ok then(match x.vv st with|.tok .. =>ai|.jo _=>ai|a=>k a)else ai
 |.pick c a b=>if c.ok&&a.ok&&b.ok then(match c.vv st with|.bool t=>if t then k (a.vv st)else k (b.vv st)|_=>ai)else ai
 |.build zero parts=>if zero.all A.ok1 then dY (adj st (zero.map A.arz) parts) λcs=>k (.agg cs)else ai
 |.VL z zero n parts=>
  (match d with
   |some d=>dY (Yx H d) λt=>if zero.okV&&ah (t.z=z)&&ah (n*z<=16777216)then
     dY (zero.toV.Z4 t) λz0=>dY (adk st t (aZ n z0) parts) λxs=>k (.tok (8*d) t xs)else ai
   |none=>ai)
 |.ld n a=>if a.ok then
  (match a.vv st with
   |.loc q i c=>
    (match dX st.r q with
     |some (.var _ x)=>(match i with|0=>dY (nr x.cells c n) k|_=>ai)
     |some (.sl t xs)=>(xs[i]?).bind λx=>dY (nr (t.vs x) c n) k
     |none=>ai)
   |.ptr cs c=>dY (nr cs c n) k
   |_=>ai)else ai
 |.Oz x=>if x.ok then
  (match x.vv st with
   |.loc q i c=>(match dX st.r q with|some _=>k (.loc q i c)|none=>ai)
   |.ptr cs c=>k (.ptr cs c)
   |.fn f caps=>k (.fn f caps)
   |_=>ai)else ai
 |.bin op x y=>if x.ok&&y.ok then QN op (x.vv st) (y.vv st) k else ai
 |.eqs neq ks x y=>if x.ok&&y.ok then
  (match x.vv st,y.vv st with
   |.agg a,.agg b=>dY (BP ks a b) λe=>k (.bool (if neq then !e else e))
   |_,_=>ai)else ai
 |.eqb neq x y=>if x.ok&&y.ok then(match x.vv st,y.vv st with|.bool a,.bool b=>k (.bool (if neq then !(a==b)else a==b))|_,_=>ai)else ai
 |.un op x=>if x.ok then dY (vun op (x.vv st)) k else ai
 |.conv c x=>if x.ok then
  (match c,x.vv st with
   |.int i,.int _ n=>k (.int i (i.wrap n))
   |.same,.str s=>k (.str s)
   |.Jk,a=>dY (ahy st.r (.one (.int .u8)) a) λxs=>k (.str (xs.map vu8))
   |.Kp z,.str s=>(match d with|some d=>if z=1 then k (.tok (8*d) (.one (.int .u8)) (s.map λb=>(b.toNat:Int)))else ai|none=>ai)
   |_,_=>ai)else ai
 |.fa off x=>if x.ok then
  (match x.vv st with
   |.loc q i c=>(match dX st.r q with|some _=>k (.loc q i (c+off))|none=>ai)
   |.ptr cs c=>k (.ptr cs (c+off))
   |_=>ai)else ai
 |.fld off n x=>if x.ok then(match x.vv st with|.agg cs=>dY (nr cs off n) k|_=>ai)else ai
 |.ia z x i=>if x.ok&&i.ok then
  (match i.vv st,x.vv st with
   |.int _ n,.view q off len=>
    (match dX st.r q with
     |some (.sl t xs)=>if ah (t.z=z)then(if ah (0<=n)&&ah (n<(len:Int))then k (.loc q (arC off n.toNat) 0)else ai)else ai
     |_=>ai)
   |.int _ n,.sl t xs=>if ah (t.z=z)then(if ah (0<=n)then(xs[n.toNat]?).bind λx=>k (.ptr (t.vs x) 0)else ai)else ai
   |_,_=>ai)else ai
 |.iaa len z x i=>if x.ok&&i.ok then
  (match i.vv st,x.vv st with
   |.int _ n,.loc q j c=>(match dX st.r q with|some _=>FT n (λm=>k (.loc q j (c+m*z))) len 0|none=>ai)
   |.int _ n,.ptr cs c=>FT n (λm=>k (.ptr cs (c+m*z))) len 0
   |_,_=>ai)else ai
 |.ix x i=>if x.ok&&i.ok then
  (match i.vv st,x.vv st with
   |.int _ n,.str s=>if ah (0<=n)then(s[n.toNat]?).bind λb=>k (.int .u8 b.toNat)else ai
   |_,_=>ai)else ai
 |.ixa len z n x i=>if x.ok&&i.ok then
  (match i.vv st,x.vv st with
   |.int _ j,.agg cs=>FT j (λm=>dY (nr cs (m*z) n) k) len 0
   |_,_=>ai)else ai
 |.als x lo hi=>if x.ok&&lo.all bZ.ok&&hi.all bZ.ok then
  (match lo.map (bZ.vv st),hi.map (bZ.vv st),x.vv st with
   |none,ae (.int _ h),.str s=>if ah (0<=h)&&ah (h<=(s.length:Int))then k (.str (s.take h.toNat))else ai
   |some (.int _ l),ae (.int _ h),.str s=>if ah (0<=l)&&ah (l<=h)&&ah (h<=(s.length:Int))then k (.str ((s.take h.toNat).drop l.toNat))else ai
   |none,ai,.str s=>k (.str s)
   |some (.int _ l),ai,.str s=>if ah (0<=l)&&ah (l<=(s.length:Int))then k (.str (s.drop l.toNat))else ai
   |_,_,_=>ai)else ai
 |.slc z x lo hi=>if x.ok&&lo.all bZ.ok&&hi.all bZ.ok then
  (match lo.map (bZ.vv st),hi.map (bZ.vv st),x.vv st with
   |none,ae (.int _ h),.sl t xs=>if ah (t.z=z)then(if ah (0<=h)&&ah (h<=(xs.length:Int))then k (.sl t (xs.take h.toNat))else ai)else ai
   |some (.int _ l),ae (.int _ h),.sl t xs=>if ah (t.z=z)then(if ah (0<=l)&&ah (l<=h)&&ah (h<=(xs.length:Int))then k (.sl t ((xs.take h.toNat).drop l.toNat))else ai)else ai
   |none,ai,.sl t xs=>if ah (t.z=z)then k (.sl t xs)else ai
   |some (.int _ l),ai,.sl t xs=>if ah (t.z=z)then(if ah (0<=l)&&ah (l<=(xs.length:Int))then k (.sl t (xs.drop l.toNat))else ai)else ai
   |none,ae (.int _ h),.view q off n=>
    (match dX st.r q with
     |some (.sl t xs)=>if ah (t.z=z)then(if ah (0<=h)&&ah (h<=(n:Int))then k (.view q off h.toNat)else ai)else ai
     |_=>ai)
   |some (.int _ l),ae (.int _ h),.view q off n=>
    (match dX st.r q with
     |some (.sl t xs)=>if ah (t.z=z)then(if ah (0<=l)&&ah (l<=h)&&ah (h<=(n:Int))then k (.view q (arC off l.toNat) (h.toNat-l.toNat))else ai)else ai
     |_=>ai)
   |none,ai,.view q off n=>(match dX st.r q with|some (.sl t xs)=>if ah (t.z=z)then k (.view q off n)else ai|_=>ai)
   |some (.int _ l),ai,.view q off n=>
    (match dX st.r q with
     |some (.sl t xs)=>if ah (t.z=z)then(if ah (0<=l)&&ah (l<=(n:Int))then k (.view q (arC off l.toNat) (n-l.toNat))else ai)else ai
     |_=>ai)
   |_,_,_=>ai)else ai
 |.len x=>if x.ok then dY (awa st.r (x.vv st)) λn=>k (.int .i64 (n:Int))else ai
 |.lens x=>if x.ok then(match x.vv st with|.str s=>k (.int .i64 s.length)|_=>ai)else ai
 |.max xs=>if xs.all bZ.ok then(match xs.map (bZ.vv st)with| []=>ai|a::l=>dY (afN arT a l) k)else ai
 |.min xs=>if xs.all bZ.ok then(match xs.map (bZ.vv st)with| []=>ai|a::l=>dY (afN arU a l) k)else ai
 |.mks z bytes zero l c=>if l.ok&&c.ok&&zero.okV then
  (match d,l.vv st,c.vv st with
   |some d,.int kl n,.int kc m=>
    dY (Yx H d) λt=>if ah (kl=.i64)&&ah (kc=.i64)&&ah (t.z=z)&&ah (bytes<=256)then
     dY (zero.toV.Z4 t) λz0=>if ah (0<=n)&&ah (n<=m)&&ah (m.toNat<lim)then k (.tok (8*d) t (aZ n.toNat z0))else ai else ai
   |_,_,_=>ai)else ai
 |.mkf f caps=>if caps.all bZ.ok&&(caps.map (bZ.vv st)).all λx=>S2 st.r x&& !PM x then k (.fn f (caps.map (bZ.vv st)))else ai
 |.call f args=>if f.ok then
  (match f.vv st with
   |.fn g caps=>
    if(alQ D g).any id then ai else
    Pj st args λab=>if caps.any PM then ai else wg st.r caps λcs=>vcf D g (ab++cs) λrs _=>
     if(rs.all Ky|| !((args.map (bZ.vv st)).any Po||caps.any HX))&& !rs.any XE then k (Mi (match d with|some d=>d|none=>0) rs)else ai
   |_=>ai)else ai
 |.ext x i=>if x.ok then(match x.vv st with|.sf xs=>dY (xs[i]?) k|_=>ai)else ai
 |_=>ai
def tJ:V->List Nat
 |.view q _ _|.loc q _ _=>[q]
 |_=>[]
def VR.names:VR->List Nat
 |.var _ x=>x.cells.flatMap tJ
 |.sl _ _=>[]
def Vu(r:List (Nat×Option VR)):V->List Nat
 |.view q _ _=>[q]
 |.loc q _ _=>q::(match dX r q with|some R=>R.names|none=>[])
 |_=>[]
def CE(r:List (Nat×Option VR)):V->List Nat
 |.fn _ cs|.agg cs|.sf cs=>cs.flatMap (Vu r)
 |a=>Vu r a
end
end Go.Ab
namespace Go.Ab
def pB(r:List (Nat×Option VR))(ns:List Nat):List (Nat×Option VR):=r.map λp=>if ns.contains p.1 then(p.1,ai)else p
def ado(r:List (Nat×Option VR))(ns:List Nat):List (Nat×Option VR):=r.map λp=>if ns.contains p.1 then p else(p.1,ai)
def aj1:Nat->List V->List (Nat×V)
 |_,[]=>[]
 |i,v::l=>(i,v)::aj1 (i+1) l
def XB:List (Nat×V)->List (Nat×V)
 | []=>[]
 |p::l=>if p.1<gs then p::XB l else XB l
def bF.lay(st:bF)(vs:List V):bF:={st with t:=aj1 gs vs++XB st.t}
def bF.Dn(st:bF)(m:Option MT)(j:Nat):Option bF:=
 match gd st.t (gs+j)with
 |.tok k t xs=>ae ((((st.cX k).kill (lN j)).aD (lN j) (ae (.sl t xs))).aV (gs+j) (.view (lN j) 0 xs.length))
 |.jo z=>(match m with|some (.lB t)=>if t.z=z then ae (((st.kill (lN j)).aD (lN j) (ae (.sl t []))).aV (gs+j) (.view (lN j) 0 0))else ai|_=>ai)
 |_=>ae st
def bF.fm(st:bF):List Bool->List MT->(j n:Nat)->Option bF
 |_,_,_,0=>ae st
 |true::bs,ms,j,n+1=>match st.Dn ms.head? j with|some st1=>bF.fm st1 bs ms.tail (j+1) n|none=>ai
 |bs,ms,j,n+1=>match st.oh (gs+j) (gd st.t (gs+j)).cells.length with|some st1=>bF.fm st1 bs.tail ms.tail (j+1) n|none=>ai
def axH(D:List (Nat×Callee))(g:Nat):List MT:=match TD D g with|some c=>c.ps|none=>[]
section
variable {R:Type}
def Pn(st:bF)(v:V)(k:Nat->V->Option R):Option R:=
 match v with
 |.loc q 0 0=>
  (match dX st.r q with
   |some (.var z x)=>dY (AK st.r x.cells) λcs=>k q (.iB z (kQ x cs))
   |_=>ai)
 |.view q 0 n=>
  (match dX st.r q with
   |some (.sl t xs)=>if ah (n=xs.length)then k q (.lB t xs)else ai
   |_=>ai)
 |_=>ai
def xb(st:bF):List Bool->List V->(List (Option V)->List Nat->List Nat->Option R)->Option R
 |_,[],k=>k [] [] []
 |true::bs,a::l,k=>Pn st a λq x=>xb st bs l λxs qs ns=>k (ae x::xs) (q::qs) (CE st.r a++ns)
 |bs,a::l,k=>xb st bs.tail l λxs qs ns=>k (ai::xs) qs ns
def AI(r:List (Nat×Option VR)):List (Option V)->List V->(List V->Option R)->Option R
 |some x::xs,_::l,k=>AI r xs l λr=>k (x::r)
 |none::xs,a::l,k=>if Po a then ai else uO r a λx=>AI r xs l λr=>k (x::r)
 | [],[],k=>k []
 |_,_,_=>ai
def qh(st:bF):List Nat->List V->Option bF
 | [],[]=>ae st
 |q::qs,.iB z x::l=>
  (match dX st.r q with
   |some (.var _ x0)=>qh {st with r:=(q,ae (.var z (kQ x (x.cells.map λ_=>V.any))))::pB st.r (x0.cells.flatMap tJ)} qs l
   |_=>ai)
 |q::qs,.lB t xs::l=>qh (st.aD q (ae (.sl t xs))) qs l
 |q::qs,.any::l=>qh (st.aD q ai) qs l
 |_,_=>ai
def jN(st:bF):List Nat->List V->Option bF
 | [],[]=>ae st
 |q::qs,.iB z x::l=>
  if x.cells.length<=1000 then
   (match XJ q 0 st x.cells with
    |some (cs,st1)=>jN (st1.aD q (ae (.var z (kQ x cs)))) qs l
    |none=>ai)
  else ai
 |_::qs,.lB .. ::l=>jN st qs l
 |_::qs,.any::l=>jN st qs l
 |_,_=>ai
def XC(st:bF)(t:ET):List t.ty->List (Nat×bZ)->Option (List t.ty×bF)
 |xs,[]=>ae (xs,st)
 |xs,(i,x)::l=>
  if x.ok then
   match st.QE (x.vv st)with
   |some (v,st1)=>(match v.Z4 t with|some y=>if i<xs.length then XC st1 t (xs.set i y) l else ai|none=>ai)
   |none=>ai
  else ai
def FX(D:List (Nat×Callee))(H:List (Nat×ET))(d:Option Nat)(st:bF)(o:O)(k:bF->Option R):Option R:=
 match o with
 |.asg x=>if x.ok then
  (match d,x.vv st with
   |some d,.tok n t xs=>if d<1000 then k ((((st.cX n).kill d).aD d (ae (.sl t xs))).put (ae d) (.view d 0 xs.length))else ai
   |some d,.jo z=>dY (Yx H d) λt=>if ah (t.z=z)&&ah (d<1000)then k (((st.kill d).aD d (ae (.sl t []))).put (ae d) (.view d 0 ([]:List t.ty).length))else ai
   |d,a=>k (st.put d a))else ai
 |.alloc z zero=>
  (match d with
   |some d=>if zero.okV&&ah (zero.toV.cells.length=z)&&ah (d<1000)&&zero.toV.cells.all xe then k (((st.kill d).aD d (ae (.var z zero.toV))).put (ae d) (.loc d 0 0))else ai
   |none=>ai)
 |.box z x=>if x.ok then
  (match d with
   |some d=>
    if ah (d<1000)&&ah (z<=1000)&&ah ((x.vv st).cells.length=z)&&(x.vv st).cells.all (S2 st.r)then
     match(((st.aV gs (x.vv st)).kill d).aD d ai).fh d 0 0 z with
     |some (cs,st1)=>k ((((st1.aV gs .any).kill d).aD d (ae (.var z (kQ (x.vv st) cs)))).put (ae d) (.loc d 0 0))
     |none=>ai
    else ai
   |none=>ai)else ai
 |.rq n a x=>if a.ok&&x.ok then
  if(x.vv st).cells.length=n then
   match a.vv st with
   |.loc q i c=>
    (match dX st.r q with
     |some (.var z e)=>
      (match i with
       |0=>
        if ah (q<1000)&&ah (c+n<=e.cells.length)&&ah (c+n<=1000)&&(x.vv st).cells.all (S2 st.r)then
         match((st.aV gs (x.vv st)).aD q (ae (.var z (ahw e c n)))).fh q c 0 n with
         |some (vs,st1)=>k (((st1.aV gs .any).aD q (ae (.var z (kQ e (e.cells.take c++vs++e.cells.drop (c+n)))))).put d .any)
         |none=>ai
        else ai
       |_=>ai)
     |some (.sl _ _)=>
      (match st.QE (x.vv st)with
       |some (v,st1)=>
        if v.cells.length=n then
         (match dX st1.r q with
          |some (.sl t xs)=>(xs[i]?).bind λe=>dY (PQ (t.vs e) c v.cells) λcs=>dY ((kQ (t.v e) cs).Z4 t) λy=>k ((st1.aD q (ae (.sl t (xs.set i y)))).put d .any)
          |_=>ai)
        else ai
       |none=>ai)
     |none=>ai)
   |_=>ai
  else ai else ai
 |.app z bytes s x=>if s.ok&&x.ok then
  (match d with
   |none=>ai
   |some d=>
    dY (Yx H d) λt=>
    dY (ahy st.r t (x.vv st)) λys=>
     if ah (t.z=z)&&ah (bytes<=128)then
     match s.vv st with
     |.tok n u xs=>dY (Nx u t xs) λxs=>if ah (xs.length+ys.length<lim)then k ((st.cX n).put (ae d) (.tok (8*d) t (xs++ys)))else ai
     |.jo z1=>if z1=z then(if ah (ys.length<lim)then k (st.put (ae d) (.tok (8*d) t ys))else ai)else ai
     |.view q off n=>
      (match dX st.r q with
       |some (.sl u xs)=>dY (Nx u t xs) λxs=>if ah (n+ys.length<lim)then k (((st.kill q).aD q ai).put (ae d) (.tok (8*d) t ((Pk off xs).take n++ys)))else ai
       |_=>ai)
     |_=>ai
     else ai)else ai
 |.call f args=>if f.ok&&args.all bZ.ok then
  (match f.vv st with
   |.fn g caps=>
    dY ((st.lay (args.map (bZ.vv st)++caps)).fm (alQ D g) (axH D g) 0 (args.length+caps.length)) λst1=>
     let vs:=(dL (args.length+caps.length)).map λj=>gd st1.t (gs+j)
     xb st1 (alQ D g) vs λls qs ns=>
      if decide ns.Nodup then
       AI (pB st1.r ns) ls vs λab=>vcf D g ab λres outs=>
        dY (qh (st1.lay []) qs outs) λst2=>dY (jN st2 qs outs) λst3=>dY (XG st3 d res) k
      else ai
   |_=>ai)else ai
 |.ia z x i=>if x.ok&&i.ok then
  (match i.vv st,x.vv st with
   |.int _ n,.tok k' t' xs'=>
    (match st.QE (x.vv st)with
     |some (.sl t xs,st1)=>if ah (t.z=z)then(if ah (0<=n)then(xs[n.toNat]?).bind λy=>k (st1.put d (.ptr (t.vs y) 0))else ai)else ai
     |_=>ai)
   |_,_=>ai)else ai
 |.VL z zero n parts=>
  (match d with
   |some d=>
    dY (Yx H d) λt=>if zero.okV&&ah (t.z=z)&&ah (n*z<=16777216)then
     dY (zero.toV.Z4 t) λz0=>dY (XC st t (aZ n z0) parts) λ(xs,st1)=>k (st1.put (ae d) (.tok (8*d) t xs))else ai
   |none=>ai)
 |_=>ai
def Rh(D:List (Nat×Callee))(H:List (Nat×ET))(st:bF)(o:Op)(k:bF->Option R):Option R:=
 if o.w then(if anG st.a o then FX D H o.d st o.o k else ai)else gP D H o.d st o.o λv=>if fP st.a o v.a then k (st.put o.d v)else ai
def W9:List Op->Nat->Option Nat
 | [],_=>ai
 |o::_,0=>o.d
 |_::l,j+1=>W9 l j
def kR(D:List (Nat×Callee))(H:List (Nat×ET))(all:List Op):List Op->bF->(bF->Option R)->Option R
 | [],st,k=>k st
 |o::l,st,k=>
  match o.g with
  |none=>Rh D H st o λst'=>kR D H all l st' k
  |some (j,want)=>
   match W9 all j with
   |some d=>
    (match gd st.t d with
     |.bool b=>
      if b then
       (if want then Rh D H (st.aV d (.bool ar)) o λst'=>kR D H all l st' k else kR D H all l ((st.aV d (.bool ar)).put o.d .undef) k)
      else
       (if want then kR D H all l ((st.aV d (.bool aw)).put o.d .undef) k else Rh D H (st.aV d (.bool aw)) o λst'=>kR D H all l st' k)
     |.undef=>kR D H all l (st.put o.d .undef) k
     |_=>ai)
   |none=>ai
def axG:V->V
 |.tok _ t xs=>.sl t xs
 |a=>a
def vfz:V->V:=AJ axG
def bF.restrict(st:bF)(fk keepR:List Nat):bF:=
 {t:=fk.map λi=>(i,vfz (gd st.t i)),r:=keepR.map λi=>(i,dX st.r i)}
def ahC(q:Nat)(cs:List V):V->V
 |.loc p i c=>if p=q then(if i=0 then .ptr cs c else .any)else .loc p i c
 |a=>a
def bF.A1(st:bF)(s:Nat):Option bF:=
 match gd st.t s with
 |.view q off n=>
  (match dX st.r q with
   |some (.sl t xs)=>if q=lN (1000000+s)then ae st else ae (((((st.kill q).kill (lN (1000000+s))).aD q ai).aD (lN (1000000+s)) (ae (.sl t xs))).aV s (.view (lN (1000000+s)) off n))
   |_=>ai)
 |_=>ai
def bF.A0(st:bF)(s:Nat):Option bF:=
 match gd st.t s with
 |.view q off n=>
  (match dX st.r q with
   |some (.sl t xs)=>ae (((((st.kill q).kill (lN (1000000+s))).aD q ai).aD (lN (1000000+s)) (ae (.sl t ((xs.drop off).take n)))).aV s (.view (lN (1000000+s)) 0 n))
   |_=>ai)
 |_=>ai
def bF.C6(H:List (Nat×ET))(st:bF)(n:Nat)(k:bF->Option R):Option R:=
 if 8000000<=n then dY (st.A0 (n-8000000)) k else
 if 7000000<=n then dY (st.A1 (n-7000000)) k else
 if 6000000<=n then
  (match dX st.r (n-6000000)with
   |some (.var _ x)=>if x.cells.all xe then k ((st.map (AJ (ahC (n-6000000) x.cells))).aD (n-6000000) ai)else ai
   |_=>ai)else
 if 5000000<=n then dY (st.pz (n-5000000) 0) k else
 match dX st.r (n/1000-1)with
 |some (.var z (.agg cs))=>
  (match cs[n%1000]? with
   |some (.jo z1)=>if ah (1000<=n)&&(dX st.r n).isNone then dY (Yx H n) λt=>if t.z=z1 then k (((st.kill n).aD n (ae (.sl t []))).aD (n/1000-1) (ae (.var z (.agg (cs.set (n%1000) (.view n 0 ([]:List t.ty).length))))))else ai else ai
   |some (.view ..)=>k st
   |_=>ai)
 |_=>ai
inductive Fr where
 |c (c:C)
 |e (id:Nat)
 |l (b:C)
def unwind(id:Nat):List Fr->Option (List Fr)
 | []=>ai
 |.e j::s=>if j=id then ae s else unwind id s
 |_::s=>unwind id s
def o4(D:List (Nat×Callee))(H:List (Nat×ET))(leave:bF->Option R)(G N:List Fr->bF->Option R):List Fr->bF->Option R
 | [],st=>leave st
 |.e _::s,st=>G s st
 |.l b::s,st=>G (.c b::.l b::s) st
 |.c c::s,st=>
  match c with
  |.skip=>G s st
  |.reg _ ops fk keepR=>kR D H ops ops st λst'=>G s (st'.restrict fk keepR)
  |.seq a b=>G (.c a::.c b::s) st
  |.cond c a b=>if c.ok then(match c.vv st with|.bool t=>if t then G (.c a::s) st else G (.c b::s) st|_=>ai)else ai
  |.block id b=>G (.c b::.e id::s) st
  |.loop b=>G (.c b::.l b::s) st
  |.exit id=>dY (unwind id s) λs'=>G s' st
  |.ret=>leave st
  |.norm fk keepR b=>N (.c b::s) (st.restrict fk keepR)
  |.opn i b=>st.C6 H i λst'=>G (.c b::s) st'
  |.stop=>ai
def gN(D:List (Nat×Callee))(H:List (Nat×ET))(leave:bF->Option R):Nat->List Fr->bF->Option R
 |0,_,_=>ai
 |n+1,s,st=>o4 D H leave (gN D H leave n) (gN D H leave n) s st
open Classical in
noncomputable def goL(D:List (Nat×Callee))(H:List (Nat×ET))(leave:bF->Option R)(s:List Fr)(st:bF):Option R:=
 if h:∃n r,gN D H leave n s st=ae r then ae h.choose_spec.choose else ai
def dn(D:List (Nat×Callee))(H:List (Nat×ET))(leave:bF->Option R)(N:List Fr->bF->Option R):Nat->List Fr->bF->Option R
 |0,s,st=>N s st
 |n+1,s,st=>o4 D H leave (dn D H leave N n) N s st
def arO:V->Bool
 |.fn .. =>ar
 |_=>aw
def ahA:V->Bool
 |.iB .. |.lB .. =>ar
 |_=>aw
def PO:List Bool->List V->Bool
 |_,[]=>ar
 |b::bs,a::l=>(!ahA a||b)&&PO bs l
 | [],a::l=> !ahA a&&PO [] l
def n7(i:Nat):List V->bF->Option bF
 | [],st=>ae st
 |.iB z x::l,st=>match Vz st i z x with|some st1=>n7 (i+1) l (st1.put (ae i) (.loc i 0 0))|none=>ai
 |.lB t xs::l,st=>if i<1000 then n7 (i+1) l (((st.kill i).aD i (ae (.sl t xs))).put (ae i) (.view i 0 xs.length))else ai
 |a::l,st=>if afS a||arO a then n7 (i+1) l (st.put (ae i) a)else ai
def SZ(fn:Fn)(args:List V):Option bF:=
 if ah (args.length=fn.np)&&PO fn.io args then n7 0 args ⟨[],[]⟩else ai
def vrs(st:bF):Rs->(V->Option R)->Option R
 |.t i,k=>k (gd st.t i)
 |.cell i n,k=>
  match gd st.t i with
  |.loc q j c=>
   (match dX st.r q with
    |some (.var _ x)=>(match j with|0=>dY (nr x.cells c n) k|_=>ai)
    |some (.sl t xs)=>(xs[j]?).bind λx=>dY (nr (t.vs x) c n) k
    |none=>ai)
  |_=>ai
def adq(st:bF):List Rs->(List V->Option R)->Option R
 | [],k=>k []
 |r::l,k=>vrs st r λa=>adq st l λxs=>k (a::xs)
def DW(ks:List Nat):V->V
 |.tok k t xs=>if ks.contains k then .any else .tok k t xs
 |a=>a
def ahB:V->List Nat
 |.tok k _ _=>[k]
 |_=>[]
def Mm:V->List Nat
 |.agg cs|.sf cs=>cs.flatMap ahB
 |a=>ahB a
def Vt(st:bF)(j:Nat)(own:Bool)(m:MT)(k:V->bF->Option R):Option R:=
 if own then
  match gd st.t (gs+j)with
  |.tok n t xs=>k (.tok j t xs) (st.cX n)
  |.jo z=>(match m with|.tok t=>if t.z=z then k (.tok j t []) st else ai|_=>ai)
  |.view q off n=>
   (match dX st.r q with
    |some (.sl t xs)=>k (.tok j t ((Pk off xs).take n)) {st with r:=pB st.r [q]}
    |_=>ai)
  |.loc q 0 0=>
   (match dX st.r q with
    |some (.var z x)=>dY (AK st.r x.cells) λcs=>k (.iB z (kQ x cs)) {st with r:=pB st.r (q::x.cells.flatMap tJ)}
    |_=>ai)
  |.agg cs=>if ah (cs.flatMap tJ).Nodup then dY (AK st.r cs) λys=>k (.agg ys) {st with r:=pB st.r (cs.flatMap tJ)}else ai
  |_=>ai
 else
  uO (ado st.r (CE st.r (gd st.t (gs+j)))) (gd st.t (gs+j)) λx=>
   k x {t:=st.t.map λp=>(p.1,AJ (DW (Mm (gd st.t (gs+j)))) p.2),r:=pB st.r (CE st.r (gd st.t (gs+j)))}
def A6(st:bF):(j:Nat)->List Bool->List MT->(List V->bF->Option R)->Option R
 |j,b::bs,m::ms,k=>Vt st j b m λx st1=>A6 st1 (j+1) bs ms λxs st2=>k (x::xs) st2
 |_,[],[],k=>k [] st
 |_,_,_,_=>ai
def zU(st:bF)(i:Nat):List MT->List Nat->(List V->Option R)->Option R
 | [],_,k=>k []
 |.box t::l,ns,k=>
  (match dX st.r i with
   |some (.var z x)=>if ah (z=t.z)&&ah (i<1000)then dY (AK st.r x.cells) λcs=>zU st (i+1) l ns λr=>k (.iB z (kQ x cs)::r)else ai
   |_=>ai)
 |.lB t::l,n::ns,k=>
  (match dX st.r i with
   |some (.sl u ys)=>if ah (u.z=t.z)&&ah (i<1000)then(if ah (ys.length=n)then zU st (i+1) l ns λr=>k (.lB u ys::r)else ai)else ai
   |none=>zU st (i+1) l ns λr=>k (.any::r)
   |_=>ai)
 |.lB t::l,[],k=>ai
 |.d _::l,ns,k=>zU st (i+1) l ns k
 |.p _::l,ns,k=>zU st (i+1) l ns k
 |.tok _::l,ns,k=>ai
 |.fn _ _::l,ns,k=>zU st (i+1) l ns k
 |.gone::l,ns,k=>ai
def lens:(ms:List MT)->FP ms->List Nat
 | [],_=>[]
 |.lB _::ms,x=>x.1.length::lens ms x.2
 |.d _::ms,x=>lens ms x.2
 |.p _::ms,x=>lens ms x.2
 |.tok _::ms,x=>lens ms x.2
 |.box _::ms,x=>lens ms x.2
 |.fn _ _::ms,x=>lens ms x.2
 |.gone::ms,x=>lens ms x.2
def FV(fn:Fn)(ps rs os:List MT)(ns:List Nat)(st:bF):Option (QM (rs++os)):=
 if ah (fn.own.length=fn.res.length)then
  adq st fn.res λab=>A6 (st.lay ab) 0 fn.own rs λvs st1=>zU {st1 with r:=pB st1.r fn.gone} 0 ps ns λws=>of1 (rs++os) (vs++ws)
 else ai
noncomputable def iC(D:List (Nat×Callee))(H:List (Nat×ET))(fn:Fn)(ps rs os:List MT):Callee:=
 {io:=fn.io,ps:=ps,rs:=rs,os:=os,f:=λx=>dY (SZ fn (S7 0 ps x)) λst=>goL D H (FV fn ps rs os (lens ps x)) [.c fn.body] st}
end
end Go.Ab
namespace Go.Ab
def bI{α R:Type}(F:(α->Option R)->Option R)(P:α->Prop):Prop:=∀k r,F k=ae r->∃x,P x/\k x=ae r/\∀k',F k'=k' x
section
variable {α β R:Type}
def bI.mk{P:α->Prop}{x:α}(h:P x):bI (λk:α->Option R=>k x) P:=λk r hk=>⟨x,h,hk,λ_=>rfl⟩
def bI.no{P:α->Prop}:bI (λ_:α->Option R=>ai) P:=λk r hk=>by cases hk
def bI.ite{P:α->Prop}{c:Prop}[Decidable c]{F G:(α->Option R)->Option R}(hF:c->bI F P)(hG:¬c->bI G P):bI (λk=>if c then F k else G k) P:=by
 by_cases h:c;·simp only[h,aC];exact hF h
 ·simp only[h,aH];exact hG h
def bI.nT{P:α->Prop}{c:Prop}[Decidable c]{F:(α->Option R)->Option R}(hF:c->bI F P):bI (λk=>if c then F k else ai) P:=
 bI.ite hF λ_=>bI.no
def bI.bind{P:α->Prop}{o:Option β}{F:β->(α->Option R)->Option R}(hF:∀x,o=ae x->bI (F x) P):bI (λk=>o.bind λx=>F x k) P:=by cases o with|none=>exact bI.no|some x=>exact hF x rfl
def bI.dY{P:α->Prop}{o:Option β}{F:β->(α->Option R)->Option R}(hF:∀x,o=ae x->bI (F x) P):bI (λk=>Ab.dY o λx=>F x k) P:=by cases o with|none=>exact bI.no|some x=>exact hF x rfl
def bI.Kx{P:α->Prop}{o:Option α}(hF:∀x,o=ae x->P x):bI (λk:α->Option R=>Ab.dY o k) P:=bI.dY (F:=λx k=>k x) λx h=>bI.mk (hF x h)
def bI.seq{P:α->Prop}{Q:β->Prop}{F:(α->Option R)->Option R}{G:α->(β->Option R)->Option R}(hF:bI F P)(hG:∀x,P x->bI (G x) Q):bI (λk=>F λx=>G x k) Q:=by intro k r h;obtain⟨x,hx,h1,h2⟩:=hF _ r h;obtain⟨y,hy,h3,h4⟩:=hG x hx _ r h1;exact⟨y,hy,h3,λk'=>(h2 _).trans (h4 k')⟩
def bI.k9{P Q:α->Prop}{F:(α->Option R)->Option R}(hF:bI F P)(h:∀x,P x->Q x):bI F Q:=λk r hk=>by obtain⟨x,hx,h1,h2⟩:=hF k r hk;exact⟨x,h x hx,h1,h2⟩
end
def St.ext'{a b:St}(h1:∀i,a.t i=b.t i)(h2:∀i,a.r i=b.r i):a=b:=by cases a;cases b;simp only[St.mk.injEq];exact⟨funext h1,funext h2⟩
def XD(l:List (Nat×V))(d:Nat)(v:V)(i:Nat):gd ((d,v)::l) i=if i=d then v else gd l i:=rfl
def afB(l:List (Nat×Option VR))(d:Nat)(v:Option VR)(i:Nat):dX ((d,v)::l) i=if i=d then v else dX l i:=rfl
def bF.XW(st:bF)(i:Nat):st.a.t i=(gd st.t i).a:=rfl
def bF.Gu(st:bF)(i:Nat):st.a.r i=(dX st.r i).map VR.a:=rfl
def bF.xp(st:bF)(d:Option Nat)(v:V):(st.put d v).a=st.a.put d v.a:=by cases d with|none=>rfl|some d=>refine St.ext' (λi=> ?_) λi=>rfl;simp only[bF.put,bF.XW,XD,St.put];split<;>rfl
def bF.Ff(st:bF)(d:Nat)(v:V):(st.aV d v).a=st.a.aV d v.a:=by refine St.ext' (λi=> ?_) λi=>rfl;simp only[bF.aV,bF.XW,XD,St.aV];split<;>rfl
def bF.ew(st:bF)(q:Nat)(R:Option VR):(st.aD q R).a=st.a.aD q (R.map VR.a):=by refine St.ext' (λi=>rfl) λi=> ?_;simp only[bF.aD,bF.Gu,afB,St.aD];split<;>rfl
def arM(f:V->V)(l:List (Nat×V))(i:Nat):gd (l.map λp=>(p.1,f p.2)) i=f (gd l i)\/(gd (l.map λp=>(p.1,f p.2)) i=.any/\gd l i=.any):=by induction l with|nil=>exact .inr ⟨rfl,rfl⟩|cons p l ih=>simp only[aP,gd];split;(·exact .inl rfl);·exact ih
def bF.afh(st:bF){f:V->V}{g:A->A}(h:∀v,(f v).a=g v.a)(h0:g .any=.any):(st.map f).a=st.a.map g:=by
 refine St.ext' (λi=> ?_) λi=>rfl;simp only[bF.map,bF.XW,St.map];rcases arM f st.t i with e|⟨e1,e2⟩
 ·rw[e,h]
 ·rw[e1,e2];exact h0.symm
def FU{f:V->V}{g:A->A}(h:∀v,(f v).a=g v.a)(v:V):(AJ f v).a=cJ g v.a:=by
 have hl:∀l:List V,V.ab (l.map f)=(V.ab l).map g:=λl=>by induction l with|nil=>rfl|cons x l ih=>simp only[aP,V.ab,h,ih]
 cases v<;>first
  |(simp only[AJ,V.a,cJ,hl];done)
  |exact h _
def arZ(r:Nat)(v:V):iY r v.a=arY r v:=by cases v<;>rfl
def aoU(r:Nat)(v:V):abu r v.a=am5 r v:=by cases v<;>rfl
def arQ(r:Nat)(v:V):(alS r v).a=ju r v.a:=by simp only[alS,ju,arZ];split<;>rfl
def aj0(r:Nat)(v:V):(XF r v).a=iS r v.a:=by simp only[XF,iS,aoU];split<;>rfl
def bF.ra(st:bF)(r:Nat):(st.kill r).a=st.a.kill r:=st.afh (FU (arQ r)) rfl
def bF.JU(st:bF)(r:Nat):(st.cX r).a=st.a.cX r:=st.afh (FU (aj0 r)) rfl
def A.alF{a:A}(h:a.ok1=ar):a.arz.a=a:=by unfold A.ok1 at h;split at h<;>first|rfl|cases h
def A.ajO{a:A}(h:a.okV=ar):a.toV.a=a:=by
 unfold A.okV at h;split at h
 ·rename_i cs;simp only[A.toV,V.a,A.agg.injEq,V.fe,uX];conv=>rhs;rw[<-List.map_id cs]
  refine nw λx hx=>A.alF (aG.1 h x hx)
 ·rename_i hn;unfold A.toV;split;·rename_i cs;exact absurd rfl (hn cs)
  ·exact A.alF h
def bZ.eW{x:bZ}(st:bF)(h:x.ok=ar):(x.vv st).a=x.v st.a:=by cases x with|t i=>rfl|c a=>exact A.ajO h
def bZ.aj4{xs:List bZ}(st:bF)(h:xs.all bZ.ok=ar):xs.map (bZ.v st.a)=(xs.map (bZ.vv st)).map V.a:=by rw[uX];refine nw λx hx=>(bZ.eW st (aG.1 h x hx)).symm
def we(v:V):cr v.a=xe v:=by cases v<;>first|rfl|(simp only[V.a,cr,xe,V.fe,List.isEmpty_map])|(simp only[V.a,cr,xe];rename_i l;cases l<;>rfl)
def Vv(v:V):(S0 v).a=qz v.a:=by cases v<;>rfl
def arV(v:V):(alV v).a=afl v.a:=by
 cases v<;>first
  |rfl
  |(simp only[alV,V.a,afl,V.fe,uX,A.agg.injEq];exact nw λx _=>Vv x)
def ana(v:V):pure v.a=afS v:=by
 cases v<;>first
  |rfl
  |(simp only[V.a,Ab.pure,afS,V.fe,uW];congr 1;funext x;exact we x)
  |(simp only[V.a,Ab.pure,afS];exact we (.fn _ _))
def arJ{v w:V}(h:atX v=ae w):dat v.a=ae w.a:=by
 unfold atX at h;split at h;·rename_i hp;simp only[aq]at h;subst h;simp only[dat,ana,hp,aC,arV]
 ·cases h
def arK{α:Type}(n:Nat)(l:List α):Pk n l=l.drop n:=by cases n<;>rfl
def ahu(n m:Nat):arC n m=n+m:=by cases n<;>simp[arC]
def WZ(t:ET)(xs:List t.ty)(o n:Nat):((Pk o xs).take n).map t.enc=((xs.map t.enc).drop o).take n:=by rw[arK,kV,jy]
def abM:∀(l:List V) (j:Nat),(agR l j).a=((l.map V.a)[j]?).getD .any
 | [],_=>rfl
 |v::l,0=>rfl
 |v::l,j+1=>by simpa[agR]using abM l j
def ahx(v:V)(j:Nat):(Yp v j).a=comp v.a j:=by simp only[Yp,comp,V.im,abM]
def ao1(k:Nat)(v:V):(ahD k v).a=zl k v.a:=by cases v<;>first|rfl|(simp only[ahD,V.a,zl];split<;>rfl)
def alZ(q:Nat)(t:ET)(xs:List t.ty)(v:V):(adu q t xs v).a=uN q (VR.sl t xs).a v.a:=by
 cases v<;>first
  |rfl
  |(simp only[adu,V.a,uN,VR.a];split<;>first|rfl|(simp only[V.a,WZ]))
def bF.alb{st st1:bF}{i j:Nat}(h:st.pz i j=ae st1):st.a.pz i j=ae st1.a:=by
 unfold bF.pz at h;unfold St.pz;rw[bF.XW,<-ahx];split at h;·rename_i k t xs e;simp only[aq]at h;subst h;rw[e];simp only[V.a];rw[st.afh (f:=ar5 k) (g:=FR k) (FU (ao1 k)) rfl]
 ·rename_i q o n e;rw[e];simp only[V.a,bF.Gu];split at h;·rename_i t xs e2;simp only[aq]at h;subst h;rw[e2];simp only[az,af,VR.a,ao,aH,aq];rw[bF.ew,st.afh (f:=anc q t xs) (g:=zk q (VR.sl t xs).a) (FU (alZ q t xs)) rfl];rfl
  ·cases h
 ·rename_i h1 h2;simp only[aq]at h;subst h;revert h1 h2;cases Yp (gd st.t i) j<;>intro h1 h2<;>first|rfl|exact absurd rfl (h1 _ _ _)|exact absurd rfl (h2 _ _ _)
def bF.agZ{st:bF}{i:Nat}:∀{n:Nat} {st1:bF},st.oh i n=ae st1->st.a.oh i n=ae st1.a
 |0,st1,h=>by simp only[bF.oh,aq]at h;subst h;rfl
 |n+1,st1,h=>by
  simp only[bF.oh]at h
  split at h
  ·rename_i st2 e
   simp only[St.oh,bF.agZ e,af]
   exact bF.alb h
  ·cases h
def bF.aqW{st st1:bF}{x v:V}(h:st.QE x=ae (v,st1)):st.a.QE x.a=ae (v.a,st1.a):=by
 unfold bF.QE at h;split at h
 ·rename_i st2 e;split at h;·rename_i w e2;simp only[aq,be]at h;obtain⟨rfl,rfl⟩:=h;have h1:=bF.agZ e;rw[bF.Ff]at h1;simp only[St.QE,V.im,aT,h1,af];rw[bF.XW,arJ e2];simp only[az,bF.Ff];rfl
  ·cases h
 ·cases h
def ajT{st:bF}{v w:V}(h:SY st.r v=ae w):rF st.a.r v.a=ae w.a:=by
 unfold SY at h;split at h
 ·rename_i q o n;split at h;·rename_i t xs e;simp only[aq]at h;subst h;simp only[V.a,rF,bF.Gu,e,az,VR.a,WZ]
  ·cases h
 ·simp only[aq]at h;subst h;rfl
 ·rename_i h1 h2;split at h;·rename_i hp;simp only[aq]at h;subst h;(have:∀a:A,(∀q o n,a≠ .view q o n)->(∀k z xs,a≠ .tok k z xs)->rF st.a.r a=if cr a then ae (qz a)else ai:=λa ha hb=>by unfold rF;split;(·exact absurd rfl (ha _ _ _));(·exact absurd rfl (hb _ _ _));·rfl);rw[this,we,aJ hp,Vv];(·intro q o n e;cases v<;>simp[V.a]at e;exact h1 _ _ _ rfl);·intro k z xs e;cases v<;>simp[V.a]at e;exact h2 _ _ _ rfl
  ·cases h
def adh{st:bF}:∀{l m:List V},I2 st.r l=ae m->vK st.a.r (l.map V.a)=ae (m.map V.a)
 | [],m,h=>by simp only[I2,aq]at h;subst h;rfl
 |a::l,m,h=>by
  simp only[I2]at h
  split at h
  ·rename_i x xs e1 e2
   simp only[aq]at h;subst h
   simp only[aP,vK,ajT e1,adh e2,af,az]
  ·cases h
def CT.ae2{r:Nat->Option dF}(c:CT)(x:c.ty)(h:c.data=ar):rF r (c.enc x)=ae (c.enc x):=by cases c<;>first|rfl|(simp[CT.data]at h)
def rB.Px{r:Nat->Option dF}:∀(cs:rB) (x:cs.ty),cs.data=ar->vK r (cs.enc x)=ae (cs.enc x)
 |.nil,_,_=>rfl
 |.cons c cs,x,h=>by
  simp only[rB.data,aj]at h
  simp only[rB.enc,vK,CT.ae2 c x.1 h.1,rB.Px cs x.2 h.2,af,az]
def ET.Px{r:Nat->Option dF}(t:ET)(x:t.ty)(h:t.data=ar):vK r (t.enc x).cells=ae (t.enc x).cells:=by cases t with|one c=>simp only[ET.enc,CT.tO,vK,CT.ae2 c x h,af,az]|agg cs=>exact rB.Px cs x h
section
variable {R:Type}
def Yr(st:bF)(v:V):bI (R:=R) (tK st.r v) λw=>kO st.a.r v.a=ae w.a:=by
 have gen:∀v:V,(∀q i c,v≠ .loc q i c)->(∀cs,v≠ .agg cs)->bI (R:=R) (tK st.r v) λw=>kO st.a.r v.a=ae w.a:=by intro v h1 h2;(have e1:∀k:V->Option R,tK st.r v k=dY (SY st.r v) k:=λk=>by unfold tK dY;split;(·exact absurd rfl (h1 _ _ _));(·exact absurd rfl (h2 _));·cases SY st.r v<;>rfl);(have e2:kO st.a.r v.a=rF st.a.r v.a:=by unfold kO;split;(·rename_i e;cases v<;>simp[V.a]at e;exact absurd rfl (h1 _ _ _));(·rename_i e;cases v<;>simp[V.a]at e;exact absurd rfl (h2 _));·rfl);have e3:tK (R:=R) st.r v=λk=>dY (SY st.r v) k:=funext e1;rw[e3,e2];exact bI.Kx λx hx=>ajT hx
 cases v with|loc q i c=>((have e:tK (R:=R) st.r (.loc q i c)=λk=>match dX st.r q with|some (.var _ x)=>(match i,I2 st.r x.cells with|0,ae cs=>k (.ptr cs c)|_,_=>ai)|some (.sl t xs)=>if t.data then(xs[i]?).bind λx=>k (.ptr (t.vs x) c)else ai|none=>ai:=rfl);rw[e];simp only[V.a,kO,bF.Gu];cases hq:dX st.r q with|none=>exact bI.no|some R0=>cases R0 with|var z x=>(cases i with|zero=>(dsimp only;cases hc:I2 st.r x.cells with|none=>exact bI.no|some cs=>refine bI.mk (x:=V.ptr cs c) ?_;simp only[az,VR.a,af,bg,V.im,adh hc,V.fe,V.a])|succ n=>exact bI.no)|sl t xs=>refine bI.nT λhd=>bI.bind λy hy=>bI.mk ?_;simp only[az,VR.a,af,bX,hy,ET.Px _ _ hd,V.a,V.fe];rw[ET.Vx])|agg cs=>((have e:tK (R:=R) st.r (.agg cs)=λk=>match I2 st.r cs with|some cs=>k (.agg cs)|none=>ai:=rfl);rw[e];cases hc:I2 st.r cs with|none=>exact bI.no|some ds=>refine bI.mk (x:=V.agg ds) ?_;simp only[V.a,kO,V.fe,adh hc,az])|_=>exact gen _ (by intros;simp) (by intros;simp)
def Pp(st:bF):∀l:List V,bI (R:=R) (wg st.r l) λm=>wM st.a.r (l.map V.a)=ae (m.map V.a)
 | []=>bI.mk (x:=[]) rfl
 |v::l=>by
  refine bI.seq (F:=tK st.r v) (G:=λx k=>wg st.r l λxs=>k (x::xs)) (Yr st v) λx hx=> ?_
  refine bI.seq (F:=wg st.r l) (G:=λxs k=>k (x::xs)) (Pp st l) λxs hxs=>bI.mk ?_
  simp only[aP,wM,hx,hxs,af,az]
def Xz(v:V):pF v.a=PM v:=by cases v<;>rfl
def aaB{f:A->Bool}{g:V->Bool}(h:∀v,f v.a=g v)(l:List V):(l.map V.a).any f=l.any g:=by rw[awX];congr 1;funext x;exact h x
def ahZ{f:A->Bool}{g:V->Bool}(h:∀v,f v.a=g v)(l:List V):(l.map V.a).all f=l.all g:=by rw[uW];congr 1;funext x;exact h x
def S3(st:bF)(v:V):bI (R:=R) (uO st.r v) λw=>AH st.a.r v.a=ae w.a:=by
 have gen:∀v:V,(∀f c,v≠ .fn f c)->bI (R:=R) (uO st.r v) λw=>AH st.a.r v.a=ae w.a:=by intro v hv;(have e1:uO (R:=R) st.r v=tK st.r v:=by funext k;unfold uO;split;(·exact absurd rfl (hv _ _));·rfl);(have e2:AH st.a.r v.a=kO st.a.r v.a:=by unfold AH;split;(·rename_i e;cases v<;>simp[V.a]at e;exact absurd rfl (hv _ _));·rfl);rw[e1,e2];exact Yr st v
 cases v with|fn f caps=>(have e:uO (R:=R) st.r (.fn f caps)=λk=>if caps.any PM then ai else wg st.r caps λcs=>k (.fn f cs):=rfl);rw[e];refine bI.ite (λ_=>bI.no) λhn=> ?_;refine bI.seq (F:=wg st.r caps) (G:=λcs k=>k (V.fn f cs)) (Pp st caps) λcs hcs=>bI.mk ?_;simp only[V.a,AH,V.fe,aaB Xz,hcs,az];rw[aO hn]|_=>exact gen _ (by intros;simp)
end
end Go.Ab
namespace Go.Ab
def ajV{st:bF}{t:ET}{v:V}{xs:List t.ty}(h:ahy st.r t v=ae xs):elems st.a.r v.a=ae (t.z,xs.map t.enc):=by
 unfold ahy at h;split at h;·obtain⟨rfl,h⟩:=xM h;cases h;rfl
 ·obtain⟨rfl,h⟩:=xM h;cases h;rfl
 ·split at h;·rename_i e;simp only[aq]at h;subst h;subst e;rfl
  ·cases h
 ·split at h;·rename_i e;simp only[aq]at h;subst h;subst e;rfl
  ·cases h
 ·split at h;·rename_i e;obtain⟨rfl,h⟩:=xM h;cases h;simp only[V.a,elems,bF.Gu,e,az,VR.a,WZ]
  ·cases h
 ·cases h
def awb{st:bF}{v:V}{n:Nat}(h:awa st.r v=ae n):akR st.a.r v.a=ae n:=by
 unfold awa at h
 split at h<;>first
  |(simp only[aq]at h;subst h;simp only[V.a,akR,aT,cy];done)
  |skip
 ·split at h;·rename_i e;simp only[aq]at h;subst h;simp only[V.a,akR,bF.Gu,e,az]
  ·cases h
 ·cases h
def tH{cs:List V}{c:Nat}{n:Option Nat}{v:V}(h:nr cs c n=ae v):ie (cs.map V.a) c n=ae v.a:=by cases n with|none=>simp only[nr]at h;simp only[ie,bX,h,az]|some n=>simp only[nr]at h;split at h;(·rename_i hl;simp only[aq]at h;subst h;simp only[ie,aT,aJ hl,V.a,V.fe,uX,aq,A.agg.injEq,<-jy,<-kV];exact nw λx _=>(Vv x).symm);·cases h
def Yq{cs ds vs:List V}{c:Nat}(h:PQ cs c vs=ae ds):setCells (cs.map V.a) c (vs.map V.a)=ae (ds.map V.a):=by
 unfold PQ at h;split at h;·rename_i hl;simp only[aq]at h;subst h;simp only[setCells,aT,aJ hl,eu,kV,jy]
 ·cases h
def qV(old:V)(cs:List V):(kQ old cs).a=eX old.a (cs.map V.a):=by
 cases old<;>first
  |(simp only[kQ,V.a,eX,V.fe];done)
  |(cases cs<;>rfl)
def Vy(st:bF)(v:V):gj st.a.r v.a=S2 st.r v:=by
 cases v<;>first
  |rfl
  |(simp only[V.a,gj,S2,bF.Gu,ans];done)
  |(simp only[V.a,gj,S2];rename_i l;exact we (V.fn _ l))
def ajW{st:bF}:∀{parts:List (Nat×Nat×bZ)} {cs ds:List V},adj st cs parts=ae ds->zC st.a (cs.map V.a) parts=ae (ds.map V.a)
 | [],cs,ds,h=>by simp only[adj,aq]at h;subst h;rfl
 |(off,z,x)::l,cs,ds,h=>by
  simp only[adj]at h
  split at h
  ·rename_i hc
   simp only[aj,ax]at hc
   obtain⟨⟨hx,hz⟩,hs⟩:=hc
   split at h
   ·rename_i cs' e
    simp only[zC,<-bZ.eW st hx,V.im,aT,ahZ (Vy st),hz,hs,mV,aC,Yq e,af]
    exact ajW h
   ·cases h
  ·cases h
def ajY{st:bF}{t:ET}:∀{parts:List (Nat×bZ)} {xs ys:List t.ty},adk st t xs parts=ae ys->Jr st.a t.z (xs.map t.enc) parts=ae (ys.map t.enc)
 | [],xs,ys,h=>by simp only[adk,aq]at h;subst h;rfl
 |(i,x)::l,xs,ys,h=>by
  simp only[adk]at h
  split at h
  ·rename_i hx
   split at h
   ·rename_i v ev
    split at h
    ·rename_i y ey
     split at h
     ·rename_i hi
      simp only[Jr,<-bZ.eW st hx,arJ ev,af,V.I1 ey,ET.D8,aT,hi,mV,aC]
      rw[<-aav]
      exact ajY h
     ·cases h
    ·cases h
   ·cases h
  ·cases h
section
variable {R:Type}
def atW(op:BinOp)(x y:V):bI (R:=R) (QN op x y) λv=>agi op x.a y.a=ae v.a:=by
 intro k r h
 cases x<;>cases y<;>first
  |(simp[QN]at h;done)
  |skip
 ·rename_i i a j b;by_cases hij:i=j
  ·subst hij
   cases op<;>first
    |(simp[QN]at h;done)
    |(simp only[QN,aC]at h
      refine⟨_,?_,h,λk'=>by simp only[QN,aC]⟩
      simp only[V.a,agi,PA,ao,aH,aC,aqw])
    |(simp only[QN,aC,ax]at h
      split at h
      ·cases h
      ·rename_i hb
       refine⟨_,?_,h,λk'=>by simp only[QN,aC,ax,aO hb]⟩
       simp only[V.a,agi,PA,ao,aH,aC,aqw,acC,aO hb])
  ·cases op<;>first
    |(simp[QN,hij]at h;done)
    |(simp only[QN,ax]at h
      split at h
      ·cases h
      ·rename_i hb
       refine⟨_,?_,h,λk'=>by simp only[QN,ax,aO hb]⟩
       simp only[V.a,agi,PA,aC,acC,aO hb])
 ·rename_i a b
  cases op<;>first
   |(simp[QN]at h;done)
   |(simp only[QN]at h
     refine⟨_,?_,h,λk'=>by simp only[QN]⟩
     simp only[V.a,agi,arl])
   |(simp only[QN,ax]at h
     split at h
     ·rename_i hb
      refine⟨_,?_,h,λk'=>by simp only[QN,ax,aJ hb]⟩
      simp only[V.a,agi,arl,aJ hb]
     ·cases h)
def afM{k:Kd}{x y:V}{b:Bool}(h:aap k x y=ae b):VN k x.a y.a=ae b:=by
 unfold aap at h;split at h;·simp only[aq]at h;subst h;rfl
 ·split at h;·rename_i e;simp only[aq]at h;subst h;subst e;simp only[V.a,VN,aC]
  ·cases h
 ·simp only[aq]at h;subst h;rfl
 ·cases h
def adi:∀{ks:List Kd} {l m:List V} {b:Bool},BP ks l m=ae b->xP ks (l.map V.a) (m.map V.a)=ae b
 | [],l,m,b,h=>by
   cases l<;>cases m<;>simp[BP]at h
   subst h;rfl
 | [k],l,m,b,h=>by
   rcases l with _|⟨x,_|⟨x2,l⟩⟩<;>rcases m with _|⟨y,_|⟨y2,m⟩⟩<;>simp[BP]at h
   ·simp only[aP,lT,xP,afM h,af,az,aeG]
   all_goals(split at h<;>cases h)
 |k::k2::ks,l,m,b,h=>by
  cases l with
  |nil=>simp[BP]at h
  |cons x l=>
   cases m with
   |nil=>simp[BP]at h
   |cons y m=>
    simp only[BP]at h
    split at h
    ·rename_i x' y' e1 e2
     simp only[aq]at h;subst h
     have:=adi e2
     simp only[aP,xP,afM e1,af]at this⊢
     rw[this];rfl
    ·cases h
def axI{op:UnOp}{x v:V}(h:vun op x=ae v):unA op x.a=ae v.a:=by
 unfold vun at h;split at h;·simp only[aq]at h;subst h;rfl
 ·simp only[aq]at h;subst h;rfl
 ·cases h
def at0{x y v:V}(h:arT x y=ae v):aiK x.a y.a=ae v.a:=by
 unfold arT at h;split at h
 ·split at h;·rename_i e;simp only[aq]at h;subst h;subst e;simp only[V.a,aiK,aC]
  ·cases h
 ·cases h
def at1{x y v:V}(h:arU x y=ae v):aiL x.a y.a=ae v.a:=by
 unfold arU at h;split at h
 ·split at h;·rename_i e;simp only[aq]at h;subst h;subst e;simp only[V.a,aiL,aC]
  ·cases h
 ·cases h
def ahz{f:V->V->Option V}{g:A->A->Option A}(hf:∀x y v,f x y=ae v->g x.a y.a=ae v.a):∀{l:List V} {a v:V},afN f a l=ae v->TG g a.a (l.map V.a)=ae v.a
 | [],a,v,h=>by simp only[afN,aq]at h;subst h;rfl
 |b::l,a,v,h=>by
  simp only[afN]at h
  split at h
  ·rename_i c e
   simp only[aP,TG,hf _ _ _ e,af]
   exact ahz hf h
  ·cases h
def arP(v:V):Wq v.a=alR v:=by cases v<;>rfl
def adp(d:Nat):∀(l:List V) (j:Nat),(Mj d j l).map V.a=oa d j (l.map V.a)
 | [],_=>rfl
 |v::l,j=>by
  by_cases hv:∃cs,v=.agg cs
  ·obtain⟨cs,rfl⟩:=hv
   have e:(V.ab cs).any Wq=cs.any alR:=by rw[V.fe,awX];congr 1;funext v;exact arP v
   simp only[Mj,aP,V.a,oa,adp d l (j+1),e]
   split<;>rfl
  ·cases v<;>first
    |(simp only[Mj,aP,V.a,oa,adp d l (j+1)];done)
    |exact absurd ⟨_,rfl⟩ hv
def afT(d:Nat):∀(l:List V) (j:Nat),(Vw d j l).map V.a=rm d j (l.map V.a)
 | [],_=>rfl
 |v::l,j=>by cases v<;>simp only[Vw,aP,V.a,rm,afT d l (j+1)]
def aj3(d:Nat)(l:List V):(Mi d l).a=zS d (l.map V.a):=by
 by_cases hl:∃cs,l=[.agg cs];·obtain⟨cs,rfl⟩:=hl;simp only[Mi,V.a,V.fe,afT,aP,lT,zS]
 have e1:Mi d l=(match Mj d 0 l with| [a]=>a|l=>.sf l):=by unfold Mi;split;(·exact absurd ⟨_,rfl⟩ hl);·rfl
 have e2:zS d (l.map V.a)=(match oa d 0 (l.map V.a)with| [a]=>a|l=>.sf l):=by
  unfold zS;split
  ·rename_i cs e;(rcases l with _|⟨v,_|⟨u,l⟩⟩);·cases e
   ·cases v<;>first
     |exact absurd ⟨_,rfl⟩ hl
     |(simp[V.a]at e;done)
   ·simp at e
  ·rfl
 rw[e1,e2];rw[<-adp];split;·rename_i x e;rw[e];rfl
 ·rename_i hn;split;·rename_i a e;cases hl:Mj d 0 l with|nil=>rw[hl]at e;simp at e|cons x m=>cases m with|nil=>exact absurd hl (hn x)|cons y m=>rw[hl]at e;simp at e
  ·simp only[V.a,V.fe]
def ajZ(v:V):Q0 v.a=XE v:=by cases v<;>rfl
def arX(v:V)(h:S1 v=ar):v.a.plain=ar:=by cases v<;>first|rfl|(simp[S1]at h)
def afR:∀(l:List V),l.all S1=ar->A.tp (l.map V.a)=ar
 | [],_=>rfl
 |v::l,h=>by
  simp only[de,aj]at h
  simp only[aP,A.tp,arX v h.1,afR l h.2,bM]
def aoX(v:V)(h:aaq v=ar):v.a.plain=ar:=by
 cases v<;>first
  |rfl
  |(simp[aaq,S1]at h;done)
  |(simp only[V.a,A.plain,V.fe];exact afR _ h)
def alW(v:V)(h:Ky v=ar):U5 v.a=ar:=by
 cases v<;>first
  |(simp only[V.a,U5,uW,aG];exactλx _=>ET.xi _ x h)
  |rfl
  |(exact aoX _ h)
  |(simp[Ky,aaq,S1]at h;done)
def afQ(v:V):Fb v.a=HX v:=by cases v<;>rfl
def aj2(v:V):owned v.a=Po v:=by
 cases v<;>first
  |rfl
  |(simp only[V.a,owned,Po,V.fe];exact aaB afQ _)
def afm:CT->A->A
 |.own t,.jo z=>if z=t.z then .own z []else .jo z
 |_,a=>a
def afn:rB->List A->List A
 |.cons c cs,a::l=>afm c a::afn cs l
 |_,l=>l
def afo:ET->A->A
 |.one c,a=>afm c a
 |.agg cs,.agg l=>.agg (afn cs l)
 |_,a=>a
def agQ(t:ET)(cs:List A)(c:Nat):A:=
 match t with
 |.one _=>(match(cs[c]?).getD .any with|.agg _=>.any|a=>a)
 |.agg us=>.agg ((cs.drop c).take us.len)
def MK:List ET->List A->List A
 |t::ts,.ptr cs c::l=>.ptr (agQ t cs c).cells 0::MK ts l
 |_,l=>l
def MT.norm:MT->A->A
 |.fn _ ts,.fn g l=>.fn g (MK ts l)
 |.p t,.ptr cs c=>.ptr (agQ t cs c).cells 0
 |.box t,.iB z [x]=>.iB z [afo t x]
 |_,a=>a
def MT.enc(j:Nat)(m:MT)(x:m.ty):A:=(m.v j x).a
def yJ:List MT->List A->List A
 |m::ms,a::l=>m.norm a::yJ ms l
 |_,l=>l
def Gd(ms:List MT)(x:FP ms):List A:=(S7 0 ms x).map V.a
def am7(c:CT)(v:V):(am6 c v).a=afm c v.a:=by cases c with|own t=>(cases v<;>first|rfl|(simp only[am6,V.a,afm];split<;>first|(rename_i h;subst h;rfl)|rfl))|_=>cases v<;>rfl
def am9:∀(cs:rB) (l:List V),(am8 cs l).map V.a=afn cs (l.map V.a)
 |.nil,l=>by cases l<;>rfl
 |.cons c cs,[]=>rfl
 |.cons c cs,v::l=>by simp only[am8,aP,afn,am7,am9 cs l]
def at2(t:ET)(v:V):(arW t v).a=afo t v.a:=by cases t with|one c=>exact am7 c v|agg cs=>cases v<;>first|rfl|(simp only[arW,V.a,afo,V.fe,am9])
def ar3(t:ET)(cs:List V)(c:Nat):(ar2 t cs c).a=agQ t (cs.map V.a) c:=by cases t with|one _=>simp only[ar2,agQ,<-abM];cases agR cs c<;>rfl|agg us=>simp only[ar2,agQ,V.a,V.fe,kV,jy]
def auG:∀{ts:List ET} {l:List V} {x:alL ts},ofE ts l=ae x->MK ts (l.map V.a)=(vsE ts x).map V.a
 | [],[],_,_=>rfl
 | [],_::_,_,h=>by simp[ofE]at h
 |t::ts,[],_,h=>by simp[ofE]at h
 |t::ts,v::l,x,h=>by
  cases v<;>first
   |(simp[ofE]at h;done)
   |skip
  rename_i cs c
  simp only[ofE]at h
  split at h
  ·rename_i y z e1 e2
   simp only[aq]at h;subst h
   have:=V.I1 e1
   simp only[aP,V.a,MK,vsE,V.fe,auG e2,ej,A.ptr.injEq,pe]
   rw[<-ar3,this,ET.Vx]
  ·cases h
def MT.ak2{m:MT}{v:V}{x:m.ty}(hm:∀t,m≠ .tok t)(h:m.of v=ae x)(j:Nat):m.norm v.a=m.enc j x:=by cases m with|d t=>simp only[MT.of]at h;rw[MT.enc,MT.v,ET.VE,<-V.I1 h];cases v<;>rfl|p t=>(cases v<;>simp only[MT.of]at h<;>first|cases h|skip);rename_i cs c;have:=V.I1 h;simp only[V.a,MT.norm,MT.enc,MT.v,V.fe];rw[<-ar3,this,ET.Vx]|tok t=>exact absurd rfl (hm t)|box t=>(cases v<;>simp only[MT.of]at h<;>first|cases h|skip);rename_i z y;split at h;(·rename_i hz;subst hz;have:=V.I1 h;simp only[V.a,MT.norm,MT.enc,MT.v];rw[<-at2,this,ET.VE]);·cases h|lB t=>(cases v<;>simp only[MT.of]at h<;>first|cases h|skip);obtain⟨rfl,h⟩:=xM h;cases h;rfl|fn f ts=>(cases v<;>simp only[MT.of]at h<;>first|cases h|skip);split at h;(·rename_i e;subst e;simp only[V.a,MT.norm,MT.enc,MT.v,V.fe,auG h]);·cases h|gone=>(cases v<;>simp only[MT.of]at h<;>first|cases h|skip);rfl
def abG{m:MT}{ms:List MT}(h:zP (m::ms)=ar):(∀t,m≠ .tok t)/\zP ms=ar:=by cases m<;>simp[zP]at h⊢<;>exact h
def aqj:∀(ms:List MT) (x:FP ms) (j j':Nat),zP ms=ar->(S7 j ms x).map V.a=(S7 j' ms x).map V.a
 | [],_,_,_,_=>rfl
 |m::ms,x,j,j',h=>by
  obtain⟨h1,h2⟩:=abG h
  simp only[S7,aP,aqj ms x.2 (j+1) (j'+1) h2,ej,pe]
  cases m<;>first|rfl|exact absurd rfl (h1 _)
def auH:∀{ms:List MT} {l:List V} {x:FP ms},zP ms=ar->ofU ms l=ae x->yJ ms (l.map V.a)=Gd ms x
 | [],[],_,_,_=>rfl
 | [],_::_,_,_,h=>by simp[ofU]at h
 |m::ms,[],_,_,h=>by simp[ofU]at h
 |m::ms,v::l,x,ht,h=>by
  obtain⟨h1,h2⟩:=abG ht
  simp only[ofU]at h
  split at h
  ·rename_i y z e1 e2
   simp only[aq]at h;subst h
   simp only[aP,yJ,Gd,S7,MT.ak2 h1 e1 0,auH h2 e2,ej]
   exact⟨rfl,aqj ms z 0 1 h2⟩
  ·cases h
def anb:∀{ts:List ET} {x y:alL ts},(vsE ts x).map V.a=(vsE ts y).map V.a->x=y
 | [],_,_,_=>rfl
 |t::ts,x,y,h=>by
  simp only[vsE,aP,ej,V.a,V.fe,A.ptr.injEq,pe]at h
  refine Prod.ext (ET.oj t _ _ ?_) (anb h.2)
  have h:=h.1
  rw[<-ET.Vx,<-ET.Vx]at h
  cases t with
  |one c=>simpa only[ET.enc,CT.tO,ej,pe]using h
  |agg cs=>simpa only[ET.enc,A.cells,A.agg.injEq]using h
def MT.oj{m:MT}{x y:m.ty}{j:Nat}(h:m.enc j x=m.enc j y):x=y:=by cases m with|d t=>exact ET.oj t x y (by simpa only[MT.enc,MT.v,ET.VE]using h)|p t=>(simp only[MT.enc,MT.v,V.a,V.fe,A.ptr.injEq,pe]at h;refine ET.oj t x y ?_;rw[<-ET.Vx,<-ET.Vx]at h;cases t with|one c=>simpa only[ET.enc,CT.tO,ej,pe]using h|agg cs=>simpa only[ET.enc,A.cells,A.agg.injEq]using h)|tok t=>simp only[MT.enc,MT.v,V.a,A.tok.injEq,Mh]at h;exact Ox (ET.oj t) h|box t=>simp only[MT.enc,MT.v,V.a,ET.VE,A.iB.injEq,Mh,ej,pe]at h;exact ET.oj t x y h|lB t=>simp only[MT.enc,MT.v,V.a,A.lB.injEq,Mh]at h;exact Ox (ET.oj t) h|fn f ts=>simp only[MT.enc,MT.v,V.a,V.fe,A.fn.injEq,Mh]at h;exact anb h|gone=>rfl
def ae5:∀{ms:List MT} {x y:FP ms} {j:Nat},(S7 j ms x).map V.a=(S7 j ms y).map V.a->x=y
 | [],_,_,_,_=>rfl
 |m::ms,x,y,j,h=>by
  simp only[S7,aP,ej]at h
  exact Prod.ext (MT.oj (j:=j) h.1) (ae5 h.2)
def M9(c:Callee)(y:QM (c.rs++c.os)):List A×List A:=
 (((vs1 0 (c.rs++c.os) y).take c.rs.length).map V.a,((vs1 0 (c.rs++c.os) y).drop c.rs.length).map V.a)
open Classical in
noncomputable def Callee.cf(c:Callee)(ab:List A):Option (List A×List A):=
 if h:∃x,zP c.ps=ar/\yJ c.ps ab=Gd c.ps x then(c.f h.choose).map (M9 c)else ai
noncomputable def cfD(D:List (Nat×Callee)):CF:=λg ab=>(TD D g).bind λc=>c.cf ab
def Callee.ami{c:Callee}{ab:List A}{x:FP c.ps}(ht:zP c.ps=ar)(h:yJ c.ps ab=Gd c.ps x):c.cf ab=(c.f x).map (M9 c):=by unfold Callee.cf;have he:∃x,zP c.ps=ar/\yJ c.ps ab=Gd c.ps x:=⟨x,ht,h⟩;rw[axc he];have:he.choose=x:=ae5 (he.choose_spec.2.symm.trans h);rw[this]
end
end Go.Ab
namespace Go.Ab
def ioD(D:List (Nat×Callee))(g:Nat):List Bool:=alQ D g
section
variable {R:Type} {D:List (Nat×Callee)} {H:List (Nat×ET)}
def arI(D:List (Nat×Callee))(g:Nat)(ab:List V):bI (R:=R) (λk:List V×List V->Option R=>vcf D g ab λa b=>k (a,b)) λp=>cfD D g (ab.map V.a)=ae (p.1.map V.a,p.2.map V.a):=by unfold vcf;cases hc:TD D g with|none=>exact bI.no|some c=>dsimp only;cases hx:ofU c.ps ab with|none=>exact bI.no|some x=>dsimp only;refine bI.nT λht=>bI.bind λy hy=>bI.mk ?_;simp only[cfD,hc,af,Callee.ami ht (auH ht hx),hy,az,M9]
def afL(st:bF):∀l:List bZ,bI (R:=R) (Pj st l) λab=>D4 st.a l=ae (ab.map V.a)/\l.all bZ.ok=ar
 | []=>bI.mk (x:=[]) ⟨rfl,rfl⟩
 |x::l=>by
  have e:Pj (R:=R) st (x::l)=λk=>if x.ok then uO st.r (x.vv st) λa=>Pj st l λr=>k (a::r)else ai:=rfl
  rw[e]
  refine bI.nT λhx=> ?_
  refine bI.seq (F:=uO st.r (x.vv st)) (G:=λa k=>Pj st l λr=>k (a::r)) (S3 st _) λa ha=> ?_
  refine bI.seq (F:=Pj st l) (G:=λr k=>k (a::r)) (afL st l) λr hr=>bI.mk ?_
  simp only[D4,<-bZ.eW st hx,ha,hr.1,af,az,aP,de,hx,hr.2,bM,mV]
def Vr{α:Type}{P:α->Prop}{F:Nat->(α->Option R)->Option R}(n:Int)(len:Nat):∀(m j:Nat),j+m=len->(∀i:Nat,i<len->n=(i:Int)->bI (F i) P)->bI (λk=>FT n (λi=>F i k) m j) P
 |0,j,_,_=>by unfold FT;exact bI.no
 |m+1,j,hj,hF=>by
  unfold FT
  refine bI.ite (λh=>hF j (by omega) (by simpa using h)) λ_=> ?_
  exact Vr n len m (j+1) (by omega) hF
def aoS(d:Option Nat)(st:bF)(o:O):bI (R:=R) (gP D H d st o) λv=>bJ (cfD D) (ioD D) d st.a o=ae v.a:=by
 cases o with
 |mv x=>
  unfold gP;dsimp only;refine bI.nT λhx=>bI.mk ?_;simp only[bJ,bZ.eW st hx]
 |asg x=>
  unfold gP;dsimp only;refine bI.nT λhx=> ?_
  cases hv:x.vv st<;>(try dsimp only)<;>first
   |exact bI.no
   |(refine bI.mk ?_;simp only[bJ,<-bZ.eW st hx,hv,V.a])
 |pick c a b=>
  unfold gP;dsimp only;refine bI.nT λhx=> ?_;simp only[aj]at hx;obtain⟨⟨hc,ha⟩,hb⟩:=hx
  cases hv:c.vv st<;>(try dsimp only)<;>first
   |exact bI.no
   |skip
  refine bI.ite (λh=>bI.mk ?_) λh=>bI.mk ?_;·simp only[bJ,<-bZ.eW st hc,hv,V.a,bZ.eW st ha,h,aC]
  ·simp only[bJ,<-bZ.eW st hc,hv,V.a,bZ.eW st hb,h,ao,aH]
 |alloc z zero=>unfold gP;exact bI.no
 |box z x=>unfold gP;exact bI.no
 |rq n a x=>unfold gP;exact bI.no
 |app z b s x=>unfold gP;exact bI.no
 |build zero parts=>
  unfold gP;dsimp only;refine bI.nT λhz=>bI.dY λcs hcs=>bI.mk ?_;have h0:(zero.map A.arz).map V.a=zero:=by rw[uX];(conv=>rhs;rw[<-List.map_id zero]);exact nw λx hx=>A.alF (aG.1 hz x hx)
  have:=ajW hcs;rw[h0]at this;simp only[bJ,this,az,V.a,V.fe]
 |VL z zero n parts=>
  unfold gP;cases d with|none=>exact bI.no|some d=>dsimp only;refine bI.dY λt ht=>bI.nT λhc=>bI.dY λz0 hz0=>bI.dY λxs hxs=>bI.mk ?_;simp only[aj,ax]at hc;obtain⟨⟨h1,h2⟩,h3⟩:=hc;have e0:zero=t.enc z0:=(A.ajO h1).symm.trans (V.I1 hz0);have:=ajY hxs;rw[Gt,<-e0]at this;subst h2;simp only[bJ,h3,Mh,this,az,V.a];rw[aJ (by rw[e0];exact ET.D8 _ _)]
 |ld n a=>
  unfold gP;dsimp only;refine bI.nT λha=> ?_
  cases hv:a.vv st<;>(try dsimp only)<;>first
   |exact bI.no
   |skip
  ·rename_i q i c;cases hq:dX st.r q with|none=>exact bI.no|some R0=>cases R0 with|var z x=>(cases i with|zero=>dsimp only;refine bI.Kx λv hg=> ?_;simp only[bJ,<-bZ.eW st ha,hv,V.a,bF.Gu,hq,az,VR.a,af,bg,V.im,tH hg]|succ i=>exact bI.no)|sl t xs=>dsimp only;refine bI.bind λx hx=>bI.Kx λv hg=> ?_;simp only[bJ,<-bZ.eW st ha,hv,V.a,bF.Gu,hq,az,VR.a,af,bX,hx];rw[ET.Vx,tH hg]
  ·rename_i cs c;refine bI.Kx λv hg=> ?_;simp only[bJ,<-bZ.eW st ha,hv,V.a,V.fe,tH hg]
 |Oz x=>
  unfold gP;dsimp only;refine bI.nT λhx=> ?_
  cases hv:x.vv st<;>(try dsimp only)<;>first
   |exact bI.no
   |skip
  ·rename_i q i c;cases hq:dX st.r q with|none=>exact bI.no|some R0=>refine bI.mk (x:=V.loc q i c) ?_;simp only[bJ,<-bZ.eW st hx,hv,V.a,bF.Gu,hq,az]
  ·refine bI.mk ?_;simp only[bJ,<-bZ.eW st hx,hv,V.a]
  ·refine bI.mk ?_;simp only[bJ,<-bZ.eW st hx,hv,V.a]
 |bin op x y=>
  unfold gP;dsimp only;refine bI.nT λhx=> ?_;simp only[aj]at hx;refine(atW op (x.vv st) (y.vv st)).k9 λv hv=> ?_;simp only[bJ,<-bZ.eW st hx.1,<-bZ.eW st hx.2,hv]
 |eqs neq ks x y=>
  unfold gP;dsimp only;refine bI.nT λhx=> ?_;simp only[aj]at hx
  cases hv:x.vv st<;>(try dsimp only)<;>first
   |exact bI.no
   |skip
  cases hw:y.vv st<;>(try dsimp only)<;>first
   |exact bI.no
   |skip
  refine bI.dY λe he=>bI.mk ?_;simp only[bJ,<-bZ.eW st hx.1,<-bZ.eW st hx.2,hv,hw,V.a,V.fe,adi he,az]
 |eqb neq x y=>
  unfold gP;dsimp only;refine bI.nT λhx=> ?_;simp only[aj]at hx
  cases hv:x.vv st<;>(try dsimp only)<;>first
   |exact bI.no
   |skip
  cases hw:y.vv st<;>(try dsimp only)<;>first
   |exact bI.no
   |skip
  refine bI.mk ?_;simp only[bJ,<-bZ.eW st hx.1,<-bZ.eW st hx.2,hv,hw,V.a]
 |un op x=>
  unfold gP;dsimp only;refine bI.nT λhx=>bI.Kx λv hv=> ?_;simp only[bJ,<-bZ.eW st hx,axI hv]
 |conv c x=>
  unfold gP;dsimp only;refine bI.nT λhx=> ?_
  cases c with
  |int i=>
   cases hv:x.vv st<;>(try dsimp only)<;>first
    |exact bI.no
    |skip
   refine bI.mk ?_;simp only[bJ,<-bZ.eW st hx,hv,V.a]
  |same=>
   cases hv:x.vv st<;>(try dsimp only)<;>first
    |exact bI.no
    |skip
   refine bI.mk ?_;simp only[bJ,<-bZ.eW st hx,hv,V.a]
  |Jk=>
   dsimp only;refine bI.dY λxs hxs=>bI.mk ?_;(have hb:∀l:List Int,bytesOf (l.map λn=>A.int .u8 n)=ae (l.map vu8):=by intro l;induction l with|nil=>rfl|cons n l ih=>simp only[aP,bytesOf,ih,az,vu8]);have he:=ajV hxs;simp only[bJ,<-bZ.eW st hx,he,af,ET.z,aC];have:(xs.map (ET.one (CT.int KC)).enc)=xs.map λn=>A.int .u8 n:=rfl;rw[this,hb];rfl
  |Kp z=>
   cases hv:x.vv st<;>(try dsimp only)<;>first
    |exact bI.no
    |skip
   cases d with|none=>exact bI.no|some d=>dsimp only;refine bI.nT λhz=>bI.mk ?_;simp only[bJ,<-bZ.eW st hx,hv,V.a,aJ hz,uX,ET.z];rfl
 |fa off x=>
  unfold gP;dsimp only;refine bI.nT λhx=> ?_
  cases hv:x.vv st<;>(try dsimp only)<;>first
   |exact bI.no
   |skip
  ·rename_i q i c;cases hq:dX st.r q with|none=>exact bI.no|some R0=>refine bI.mk (x:=V.loc q i (c+off)) ?_;simp only[bJ,<-bZ.eW st hx,hv,V.a,bF.Gu,hq,az]
  ·refine bI.mk ?_;simp only[bJ,<-bZ.eW st hx,hv,V.a]
 |fld off n x=>
  unfold gP;dsimp only;refine bI.nT λhx=> ?_
  cases hv:x.vv st<;>(try dsimp only)<;>first
   |exact bI.no
   |skip
  refine bI.Kx λv hg=> ?_;simp only[bJ,<-bZ.eW st hx,hv,V.a,V.fe,tH hg]
 |ia z x i=>
  unfold gP;dsimp only;refine bI.nT λhx=> ?_;simp only[aj]at hx
  cases hi:i.vv st<;>(try dsimp only)<;>first
   |exact bI.no
   |skip
  rename_i ki n
  cases hv:x.vv st<;>(try dsimp only)<;>first
   |exact bI.no
   |skip
  ·rename_i t xs;refine bI.nT λhz=>bI.nT λhn=>bI.bind λy hy=>bI.mk ?_;simp only[ax]at hz hn;subst hz;simp only[bJ,<-bZ.eW st hx.1,<-bZ.eW st hx.2,hi,hv,V.a,V.fe,hn,mV,aC,bX,hy,az,ET.Vx]
  ·rename_i q o len;cases hq:dX st.r q with|none=>exact bI.no|some R0=>cases R0 with|var z x=>exact bI.no|sl t xs=>dsimp only;refine bI.nT λhz=>bI.nT λhn=>bI.mk ?_;simp only[ax,aj]at hz hn;subst hz;simp only[bJ,<-bZ.eW st hx.1,<-bZ.eW st hx.2,hi,hv,V.a,bF.Gu,hq,az,VR.a,af,hn,mV,aC,ahu]
 |iaa len z x i=>
  unfold gP;dsimp only;refine bI.nT λhx=> ?_;simp only[aj]at hx
  cases hi:i.vv st<;>(try dsimp only)<;>first
   |exact bI.no
   |skip
  rename_i ki n
  cases hv:x.vv st<;>(try dsimp only)<;>first
   |exact bI.no
   |skip
  ·rename_i q j c;cases hq:dX st.r q with|none=>exact bI.no|some R0=>dsimp only;refine Vr n len len 0 (by omega) λm hm hn=>bI.mk (x:=V.loc q j (c+m*z)) ?_;subst hn;simp only[bJ,<-bZ.eW st hx.1,<-bZ.eW st hx.2,hi,hv,V.a,bF.Gu,hq,az,aE];rw[aJ ⟨by omega,by omega⟩]
  ·refine Vr n len len 0 (by omega) λm hm hn=>bI.mk ?_;subst hn;simp only[bJ,<-bZ.eW st hx.1,<-bZ.eW st hx.2,hi,hv,V.a,aE];rw[aJ ⟨by omega,by omega⟩]
 |ix x i=>
  unfold gP;dsimp only;refine bI.nT λhx=> ?_;simp only[aj]at hx
  cases hi:i.vv st<;>(try dsimp only)<;>first
   |exact bI.no
   |skip
  rename_i ki n
  cases hv:x.vv st<;>(try dsimp only)<;>first
   |exact bI.no
   |skip
  refine bI.nT λhn=>bI.bind λy hy=>bI.mk ?_;simp only[ax]at hn;simp only[bJ,<-bZ.eW st hx.1,<-bZ.eW st hx.2,hi,hv,V.a,hn,aC,hy,az]
 |ixa len z n x i=>
  unfold gP;dsimp only;refine bI.nT λhx=> ?_;simp only[aj]at hx
  cases hi:i.vv st<;>(try dsimp only)<;>first
   |exact bI.no
   |skip
  rename_i ki j
  cases hv:x.vv st<;>(try dsimp only)<;>first
   |exact bI.no
   |skip
  refine Vr j len len 0 (by omega) λm hm hn=>bI.Kx λv hg=> ?_;subst hn;simp only[bJ,<-bZ.eW st hx.1,<-bZ.eW st hx.2,hi,hv,V.a,aE,V.fe,tH hg];rw[aJ ⟨by omega,by omega⟩]
 |als x lo hi=>
  unfold gP;dsimp only;refine bI.nT λhx=> ?_;simp only[aj]at hx;obtain⟨⟨h0,h1⟩,h2⟩:=hx
  cases lo with
  |none=>
   cases hi with
   |none=>
    simp only[cT]
    cases hv:x.vv st<;>(try dsimp only)<;>first
     |exact bI.no
     |skip
    refine bI.mk ?_;simp only[bJ,<-bZ.eW st h0,hv,V.a,cT,o9];simp
   |some h=>
    simp only[cT,az]
    cases hh:h.vv st<;>(try dsimp only)<;>first
     |exact bI.no
     |skip
    cases hv:x.vv st<;>(try dsimp only)<;>first
     |exact bI.no
     |skip
    refine bI.nT λhc=>bI.mk ?_;simp only[aj,ax]at hc;simp only[wO]at h2;simp only[bJ,<-bZ.eW st h0,<-bZ.eW st h2,hv,hh,V.a,cT,az,o9];simp[hc]
  |some l=>
   simp only[wO]at h1
   cases hi with
   |none=>
    simp only[cT,az]
    cases hl:l.vv st<;>(try dsimp only)<;>first
     |exact bI.no
     |skip
    cases hv:x.vv st<;>(try dsimp only)<;>first
     |exact bI.no
     |skip
    refine bI.nT λhc=>bI.mk ?_;simp only[aj,ax]at hc;simp only[bJ,<-bZ.eW st h0,<-bZ.eW st h1,hv,hl,V.a,cT,az,eJ];simp[hc]
   |some h=>
    simp only[az]
    cases hl:l.vv st<;>(try dsimp only)<;>first
     |exact bI.no
     |skip
    cases hh:h.vv st<;>(try dsimp only)<;>first
     |exact bI.no
     |skip
    cases hv:x.vv st<;>(try dsimp only)<;>first
     |exact bI.no
     |skip
    refine bI.nT λhc=>bI.mk ?_;simp only[aj,ax]at hc;simp only[wO]at h2;simp only[bJ,<-bZ.eW st h0,<-bZ.eW st h1,<-bZ.eW st h2,hv,hl,hh,V.a,az,eJ];simp[hc]
 |slc z x lo hi=>
  unfold gP;dsimp only;refine bI.nT λhx=> ?_;simp only[aj]at hx;obtain⟨⟨h0,h1⟩,h2⟩:=hx
  cases lo with
  |none=>
   cases hi with
   |none=>
    simp only[cT]
    cases hv:x.vv st<;>(try dsimp only)<;>first
     |exact bI.no
     |skip
    (·refine bI.nT λhz=>bI.mk ?_;simp only[ax]at hz;subst hz;simp only[bJ,<-bZ.eW st h0,hv,V.a,cT,o9];simp);·rename_i q o n;cases hq:dX st.r q with|none=>exact bI.no|some R0=>cases R0 with|var z x=>exact bI.no|sl t xs=>dsimp only;refine bI.nT λhz=>bI.mk ?_;simp only[ax]at hz;subst hz;simp only[bJ,<-bZ.eW st h0,hv,V.a,cT,o9,bF.Gu,hq,az,VR.a,af];simp
   |some h=>
    simp only[wO]at h2;simp only[cT,az]
    cases hh:h.vv st<;>(try dsimp only)<;>first
     |exact bI.no
     |skip
    cases hv:x.vv st<;>(try dsimp only)<;>first
     |exact bI.no
     |skip
    (·refine bI.nT λhz=>bI.nT λhc=>bI.mk ?_;simp only[aj,ax]at hc hz;subst hz;simp only[bJ,<-bZ.eW st h0,<-bZ.eW st h2,hv,hh,V.a,cT,az,o9];simp[hc,kV]);·rename_i q o n;cases hq:dX st.r q with|none=>exact bI.no|some R0=>cases R0 with|var z x=>exact bI.no|sl t xs=>dsimp only;refine bI.nT λhz=>bI.nT λhc=>bI.mk ?_;simp only[aj,ax]at hc hz;subst hz;simp only[bJ,<-bZ.eW st h0,<-bZ.eW st h2,hv,hh,V.a,cT,o9,bF.Gu,hq,az,VR.a,af];simp[hc]
  |some l=>
   simp only[wO]at h1
   cases hi with
   |none=>
    simp only[cT,az]
    cases hl:l.vv st<;>(try dsimp only)<;>first
     |exact bI.no
     |skip
    cases hv:x.vv st<;>(try dsimp only)<;>first
     |exact bI.no
     |skip
    (·refine bI.nT λhz=>bI.nT λhc=>bI.mk ?_;simp only[aj,ax]at hc hz;subst hz;simp only[bJ,<-bZ.eW st h0,<-bZ.eW st h1,hv,hl,V.a,cT,az,eJ];simp[hc,jy]);·rename_i q o n;cases hq:dX st.r q with|none=>exact bI.no|some R0=>cases R0 with|var z x=>exact bI.no|sl t xs=>dsimp only;refine bI.nT λhz=>bI.nT λhc=>bI.mk ?_;simp only[aj,ax]at hc hz;subst hz;simp only[bJ,<-bZ.eW st h0,<-bZ.eW st h1,hv,hl,V.a,cT,eJ,bF.Gu,hq,az,VR.a,af,ahu];simp[hc]
   |some h=>
    simp only[wO]at h2;simp only[az]
    cases hl:l.vv st<;>(try dsimp only)<;>first
     |exact bI.no
     |skip
    cases hh:h.vv st<;>(try dsimp only)<;>first
     |exact bI.no
     |skip
    cases hv:x.vv st<;>(try dsimp only)<;>first
     |exact bI.no
     |skip
    (·refine bI.nT λhz=>bI.nT λhc=>bI.mk ?_;simp only[aj,ax]at hc hz;subst hz;simp only[bJ,<-bZ.eW st h0,<-bZ.eW st h1,<-bZ.eW st h2,hv,hl,hh,V.a,az,eJ];simp[hc,jy,kV]);·rename_i q o n;cases hq:dX st.r q with|none=>exact bI.no|some R0=>cases R0 with|var z x=>exact bI.no|sl t xs=>dsimp only;refine bI.nT λhz=>bI.nT λhc=>bI.mk ?_;simp only[aj,ax]at hc hz;subst hz;simp only[bJ,<-bZ.eW st h0,<-bZ.eW st h1,<-bZ.eW st h2,hv,hl,hh,V.a,az,eJ,bF.Gu,hq,VR.a,af,ahu];simp[hc]
 |len x=>
  unfold gP;dsimp only;refine bI.nT λhx=>bI.dY λn hn=>bI.mk ?_;simp only[bJ,<-bZ.eW st hx,awb hn,az,V.a]
 |lens x=>
  unfold gP;dsimp only;refine bI.nT λhx=> ?_
  cases hv:x.vv st<;>(try dsimp only)<;>first
   |exact bI.no
   |skip
  refine bI.mk ?_;simp only[bJ,<-bZ.eW st hx,hv,V.a]
 |max xs=>
  unfold gP;dsimp only;refine bI.nT λhx=> ?_;have e:=bZ.aj4 st hx;cases hl:xs.map (bZ.vv st)with|nil=>exact bI.no|cons a l=>dsimp only;refine bI.Kx λv hv=> ?_;simp only[bJ,e,hl,aP,ahz (λ_ _ _=>at0) hv]
 |min xs=>
  unfold gP;dsimp only;refine bI.nT λhx=> ?_;have e:=bZ.aj4 st hx;cases hl:xs.map (bZ.vv st)with|nil=>exact bI.no|cons a l=>dsimp only;refine bI.Kx λv hv=> ?_;simp only[bJ,e,hl,aP,ahz (λ_ _ _=>at1) hv]
 |mks z bytes zero l c=>
  unfold gP;dsimp only;refine bI.nT λhx=> ?_;simp only[aj]at hx;obtain⟨⟨h0,h1⟩,h2⟩:=hx
  cases d with
  |none=>exact bI.no
  |some d=>
   cases hl:l.vv st<;>(try dsimp only)<;>first
    |exact bI.no
    |skip
   cases hc:c.vv st<;>(try dsimp only)<;>first
    |exact bI.no
    |skip
   rename_i kl n kc m;refine bI.dY λt ht=>bI.nT λhz=>bI.dY λz0 hz0=>bI.nT λhn=> ?_;simp only[aj,ax]at hz hn;obtain⟨⟨⟨rfl,rfl⟩,rfl⟩,hb⟩:=hz;have e0:zero=t.enc z0:=(A.ajO h2).symm.trans (V.I1 hz0);refine bI.mk ?_;simp only[bJ,<-bZ.eW st h0,<-bZ.eW st h1,hl,hc,V.a];(have hlt:m<(lim:Int):=by have h1:=hn.1.1;have h2:=hn.1.2;have h3:=hn.2;omega);rw[aJ ⟨hn.1.1,hn.1.2,hlt,hb,by rw[e0];exact ET.D8 _ _⟩,Gt,<-e0]
 |mkf f caps=>
  unfold gP;dsimp only;refine bI.nT λhx=>bI.mk ?_;simp only[aj]at hx;have e:=bZ.aj4 st hx.1;have:((caps.map (bZ.vv st)).map V.a).all (λx=>gj st.a.r x&& !pF x)=ar:=by rw[uW];refine al5 ?_ hx.2;congr 1;funext x;simp only[Function.comp,Vy,Xz]
  simp only[bJ,e,this,aC,V.a,V.fe]
 |call f args=>
  unfold gP;dsimp only;refine bI.nT λhx=> ?_
  cases hv:f.vv st<;>(try dsimp only)<;>first
   |exact bI.no
   |skip
  rename_i g caps;refine bI.ite (λ_=>bI.no) λhio=> ?_;refine bI.seq (F:=Pj st args) (G:=λab (k:V->Option R)=>if caps.any PM then ai else wg st.r caps λcs=>vcf D g (ab++cs) λrs _=> if(rs.all Ky|| !((args.map (bZ.vv st)).any Po||caps.any HX))&& !rs.any XE then k (Mi (match d with|some d=>d|none=>0) rs)else ai) (afL st args) λab has=> ?_;refine bI.ite (λ_=>bI.no) λht=> ?_;refine bI.seq (F:=wg st.r caps) (G:=λcs (k:V->Option R)=>vcf D g (ab++cs) λrs _=> if(rs.all Ky|| !((args.map (bZ.vv st)).any Po||caps.any HX))&& !rs.any XE then k (Mi (match d with|some d=>d|none=>0) rs)else ai) (Pp st caps) λcs hcs=> ?_;refine bI.seq (F:=λk:List V×List V->Option R=>vcf D g (ab++cs) λa b=>k (a,b)) (G:=λp (k:V->Option R)=> if(p.1.all Ky|| !((args.map (bZ.vv st)).any Po||caps.any HX))&& !p.1.any XE then k (Mi (match d with|some d=>d|none=>0) p.1)else ai) (arI D g (ab++cs)) λp hp=> ?_;refine bI.nT λhc=>bI.mk ?_;have e:=bZ.aj4 st has.2;simp only[bJ,<-bZ.eW st hx,hv,V.a,V.fe];rw[aO (show¬((ioD D g).any id=ar)from hio)];simp only[has.1,af,aaB Xz,aO ht,hcs,<-eu,hp];rw[aJ,aj3];·cases d<;>rfl
  ·simp only[aj,cj]at hc⊢;refine⟨hc.1.imp (λh=> ?_) λh=> ?_,?_⟩;(·rw[aG]at h⊢;intro x hx;obtain⟨v,hv,rfl⟩:=dK.1 hx;exact alW v (h v hv));(·rw[e,aaB aj2,aaB afQ];exact h);·rw[aaB ajZ];exact hc.2
 |ext x i=>
  unfold gP;dsimp only;refine bI.nT λhx=> ?_
  cases hv:x.vv st<;>(try dsimp only)<;>first
   |exact bI.no
   |skip
  refine bI.Kx λv hg=> ?_;simp only[bJ,<-bZ.eW st hx,hv,V.a,V.fe,bX,hg,az]
end
end Go.Ab
namespace Go.Ab
def arS{st:bF}{v w:V}(h:alU st.r v=ae w):Uk st.a.r v.a=ae w.a:=by
 unfold alU at h;split at h
 ·rename_i q o n;split at h;·rename_i t xs e;simp only[aq]at h;subst h;simp only[V.a,Uk,bF.Gu,e,az,VR.a,WZ]
  ·cases h
 ·rename_i h1;split at h;·rename_i hp;simp only[aq]at h;subst h;(have:∀a:A,(∀q o n,a≠ .view q o n)->Uk st.a.r a=if cr a then ae a else ai:=λa ha=>by unfold Uk;split;(·exact absurd rfl (ha _ _ _));·rfl);rw[this,we,aJ hp];intro q o n e;cases v<;>simp[V.a]at e;exact h1 _ _ _ rfl
  ·cases h
def Pm{st:bF}:∀{l m:List V},AK st.r l=ae m->JV st.a.r (l.map V.a)=ae (m.map V.a)
 | [],m,h=>by simp only[AK,aq]at h;subst h;rfl
 |a::l,m,h=>by
  simp only[AK]at h
  split at h
  ·rename_i x xs e1 e2
   simp only[aq]at h;subst h
   simp only[aP,JV,arS e1,Pm e2,af,az]
  ·cases h
def ar4{q c:Nat}{st st1:bF}{v w:V}(h:alY q c st v=ae (w,st1)):MS q c st.a v.a=ae (w.a,st1.a):=by
 unfold alY at h;split at h
 ·rename_i t xs;split at h;·rename_i hc;simp only[aq,be]at h;obtain⟨rfl,rfl⟩:=h;simp only[V.a,MS,aJ hc,aT,bF.ew,bF.ra,az,VR.a]
  ·cases h
 ·rename_i h1;split at h;·rename_i hp;simp only[aq,be]at h;obtain⟨rfl,rfl⟩:=h;(have:∀a:A,(∀z xs,a≠ .own z xs)->MS q c st.a a=if cr a then ae (a,st.a)else ai:=λa ha=>by unfold MS;split;(·exact absurd rfl (ha _ _));·rfl);rw[this,we,aJ hp];intro z xs e;cases v<;>simp[V.a]at e;exact h1 _ _ rfl
  ·cases h
def adt{q:Nat}:∀{l m:List V} {c:Nat} {st st1:bF},XJ q c st l=ae (m,st1)->zi q c st.a (l.map V.a)=ae (m.map V.a,st1.a)
 | [],m,c,st,st1,h=>by
   simp only[XJ,aq,be]at h
   obtain⟨rfl,rfl⟩:=h;rfl
 |v::l,m,c,st,st1,h=>by
  simp only[XJ]at h
  split at h
  ·rename_i x st2 e1
   split at h
   ·rename_i xs st3 e2
    simp only[aq,be]at h
    obtain⟨rfl,rfl⟩:=h
    simp only[aP,zi,ar4 e1,af,adt e2,az]
   ·cases h
  ·cases h
def ads{st st1:bF}{q z:Nat}{x:V}(h:Vz st q z x=ae st1):kN st.a q z x.a=ae st1.a:=by
 unfold Vz at h;split at h
 ·rename_i hc;split at h;·rename_i cs st2 e;simp only[aq]at h;subst h;have:=adt e;rw[bF.ew,bF.ra]at this;simp only[cT]at this;simp only[kN,V.im,aT,aJ hc,this,az,bF.ew,bF.ra,VR.a,qV]
  ·cases h
 ·cases h
def bF.anw{st st1:bF}{q c j:Nat}{w:V}(h:st.kx q c j=ae (w,st1)):st.a.kx q c j=ae (w.a,st1.a):=by
 unfold bF.kx at h;unfold St.kx;rw[bF.XW,<-ahx];split at h
 ·rename_i k t xs e;split at h;·rename_i hc;simp only[aq,be]at h;obtain⟨rfl,rfl⟩:=h;rw[e];simp only[V.a,aJ hc,aT,bF.ew,bF.ra,bF.JU,az,VR.a]
  ·cases h
 ·rename_i s o n e;rw[e];simp only[V.a,bF.Gu,ans];split at h;·rename_i hc;simp only[aq,be]at h;obtain⟨rfl,rfl⟩:=h;rw[aJ hc];rfl
  ·rename_i hc;rw[aO hc];split at h;(·rename_i st2 e2;split at h;(·rename_i hp;simp only[aq,be]at h;obtain⟨rfl,rfl⟩:=h;simp only[bF.alb e2,af,bF.XW,<-ahx,we,hp,aC,Vv]);·cases h);·cases h
 ·rename_i z e;simp only[aq,be]at h;obtain⟨rfl,rfl⟩:=h;rw[e];rfl
 ·rename_i h1 h2 h3;split at h
  ·rename_i hp;simp only[aq,be]at h;obtain⟨rfl,rfl⟩:=h;revert h1 h2 h3 hp;generalize Yp (gd st.t gs) j=v;intro h1 h2 h3 hp;have hp':=hp;rw[<-we]at hp'
   cases v<;>first
    |exact absurd rfl (h1 _ _ _)
    |exact absurd rfl (h2 _ _ _)
    |exact absurd rfl (h3 _)
    |(simp only[V.a]at hp'⊢;rw[aJ hp'];rfl)
    |(simp[xe]at hp;done)
  ·cases h
def bF.VH{q c:Nat}:∀{n j:Nat} {st st1:bF} {vs:List V},st.fh q c j n=ae (vs,st1)->st.a.fh q c j n=ae (vs.map V.a,st1.a)
 |0,j,st,st1,vs,h=>by
  simp only[bF.fh,aq,be]at h
  obtain⟨rfl,rfl⟩:=h;rfl
 |n+1,j,st,st1,vs,h=>by
  simp only[bF.fh]at h
  split at h
  ·rename_i x st2 e1
   split at h
   ·rename_i xs st3 e2
    simp only[aq,be]at h
    obtain⟨rfl,rfl⟩:=h
    simp only[St.fh,bF.anw e1,af,bF.VH e2,az,aP]
   ·cases h
  ·cases h
def arH(e:V)(c n:Nat):(ahw e c n).a=blank e.a c n:=by simp only[ahw,blank,qV,V.im,eu,kV,jy,Gt,V.a]
def arR{st st1:bF}{d:Option Nat}{rs:List V}(h:XG st d rs=ae st1):CZ st.a d (rs.map V.a)=ae st1.a:=by
 unfold XG at h;split at h
 ·rename_i z x d;split at h;·rename_i st2 e;simp only[aq]at h;subst h;simp only[aP,lT,V.a,CZ,ads e,az,bF.xp]
  ·cases h
 ·rename_i hn;split at h;·cases h
  ·rename_i hi;simp only[aq]at h;subst h;(have:∀(l:List A) (d:Option Nat),(∀z x e,l=[A.iB z [x]]->d=ae e->False)->CZ st.a d l=if l.any Q0 then ai else ae (st.a.put d (zS (d.getD 0) l)):=λl d hl=>by unfold CZ;split;(·exact absurd rfl (λh=>hl _ _ _ h rfl));·rfl);rw[this,aaB ajZ,aO hi,bF.xp,aj3];(·cases d<;>rfl);·intro z x e h1 h2;subst h2;(rcases rs with _|⟨v,_|⟨w,l⟩⟩<;>simp at h1);(cases v<;>simp[V.a]at h1);exact hn _ _ _ rfl rfl
def afC(r:List (Nat×Option VR))(ns:List Nat)(i:Nat):dX (pB r ns) i=if ns.contains i then ai else dX r i:=by induction r with|nil=>simp[pB,dX]|cons p l ih=>simp only[pB,aP]at ih⊢;by_cases hi:i=p.1;(·subst hi;by_cases hc:ns.contains p.1;(·simp only[hc,aC,dX]);·simp only[hc,aH,ao,dX,aC]);·(have:∀v,dX ((p.1,v)::l.map λp=>if ns.contains p.1 then(p.1,ai)else p) i=dX (l.map λp=>if ns.contains p.1 then(p.1,ai)else p) i:=λv=>by simp only[dX,hi,aH]);split;(·rw[this];simp only[dX,hi,aH];exact ih);·rw[show p=(p.1,p.2)from rfl,this];simp only[dX,hi,aH];exact ih
def aom(r:List (Nat×Option VR))(ns:List Nat)(i:Nat):dX (ado r ns) i=if ns.contains i then dX r i else ai:=by induction r with|nil=>simp[ado,dX]|cons p l ih=>simp only[ado,aP]at ih⊢;by_cases hi:i=p.1;(·subst hi;by_cases hc:ns.contains p.1;(·simp only[hc,aC,dX]);·simp only[hc,aH,ao,dX,aC]);·(have:∀v,dX ((p.1,v)::l.map λp=>if ns.contains p.1 then p else(p.1,ai)) i=dX (l.map λp=>if ns.contains p.1 then p else(p.1,ai)) i:=λv=>by simp only[dX,hi,aH]);split;(·rw[show p=(p.1,p.2)from rfl,this];simp only[dX,hi,aH];exact ih);·rw[this];simp only[dX,hi,aH];exact ih
def bF.Wu(st:bF)(t:List (Nat×V))(ns:List Nat):(bF.mk t (pB st.r ns)).a={t:=λi=>(gd t i).a,r:=less st.a.r ns}:=by refine St.ext' (λi=>rfl) λi=> ?_;simp only[bF.Gu,afC,less];split<;>rfl
def bF.avL(st:bF)(t:List (Nat×V))(ns:List Nat):(bF.mk t (ado st.r ns)).a={t:=λi=>(gd t i).a,r:=only st.a.r ns}:=by refine St.ext' (λi=>rfl) λi=> ?_;simp only[bF.Gu,aom,only];split<;>rfl
def Mk(v:V):ga v.a=tJ v:=by cases v<;>rfl
def DP{f:A->List Nat}{g:V->List Nat}(h:∀v,f v.a=g v)(l:List V):(l.map V.a).flatMap f=l.flatMap g:=by induction l with|nil=>rfl|cons v l ih=>simp only[aP,cg,h,ih]
def CT.D7(c:CT)(x:c.ty):ga (c.enc x)=[]:=by cases c<;>rfl
def rB.D7:∀(cs:rB) (x:cs.ty),(cs.enc x).flatMap ga=[]
 |.nil,_=>rfl
 |.cons c cs,x=>by simp only[rB.enc,cg,CT.D7,rB.D7 cs x.2,bS]
def ET.D7(t:ET)(x:t.ty):(t.enc x).cells.flatMap ga=[]:=by cases t with|one c=>simp[ET.enc,CT.tO,CT.D7]|agg cs=>exact rB.D7 cs x
def adm(st:bF)(v:V):yG st.a.r v.a=Vu st.r v:=by
 cases v<;>first|rfl|skip
 rename_i q i c;simp only[V.a,yG,Vu,bF.Gu];cases hq:dX st.r q with|none=>rfl|some R=>cases R with|var z x=>simp only[az,VR.a,VR.names,cg,List.flatMap_nil,bS,V.im,DP Mk]|sl t xs=>simp only[az,VR.a,VR.names,List.flatMap_map];(have:∀l:List t.ty,l.flatMap (λx=>(t.enc x).cells.flatMap ga)=[]:=λl=>by induction l with|nil=>rfl|cons x l ih=>rw[cg,ih,ET.D7];rfl);rw[this]
def adn(st:bF)(v:V):names st.a.r v.a=CE st.r v:=by
 have h:=adm st v
 cases v<;>first
  |(simp only[V.a,names,CE,V.fe];exact DP (adm st) _)
  |exact h
def afO:∀(vs:List V) (b:Nat) (l:List (Nat×V)) (i:Nat),gd (aj1 b vs++l) i=if b<=i/\i<b+vs.length then agR vs (i-b)else gd l i
 | [],b,l,i=>by simp only[aj1,dU,cy];rw[aO (by omega)]
 |v::vs,b,l,i=>by
  simp only[aj1,sn,XD,afO vs (b+1) l i,bh]
  by_cases h:i=b
  ·subst h;simp[agR]
  ·rw[aO h]
   by_cases h2:b+1<=i/\i<b+1+vs.length
   ·rw[aJ h2,aJ (by omega)]
    obtain⟨k,hk⟩:∃k,i-b=k+1:=⟨i-b-1,by omega⟩
    rw[hk,show i-(b+1)=k from by omega];rfl
   ·rw[aO h2,aO (by omega)]
def alP(l:List (Nat×V))(i:Nat):gd (XB l) i=if i<gs then gd l i else .any:=by induction l with|nil=>simp[XB,gd]|cons p l ih=>simp only[XB];split;(·rename_i hp;simp only[gd,ih];by_cases h:i=p.1;(·subst h;simp[hp]);·simp[h]);·rename_i hp;rw[ih];by_cases h:i<gs;(·(have:i≠p.1:=by omega);simp[h,gd,this]);·simp[h]
def afp:∀(l:List V) (j:Nat),l.length<=j->agR l j=.any
 | [],_,_=>rfl
 |v::l,0,h=>by simp at h
 |v::l,j+1,h=>afp l j (by simpa using h)
def bF.aqC(st:bF)(vs:List V):(st.lay vs).a=st.a.lay (vs.map V.a):=by
 refine St.ext' (λi=> ?_) λi=>rfl;simp only[bF.lay,bF.XW,afO,alP,St.lay];by_cases h:gs<=i
 ·rw[aJ h];by_cases h2:i<gs+vs.length;·rw[aJ ⟨h,h2⟩,abM]
  ·rw[aO (by omega),aO (by omega),<-abM,afp _ _ (by omega)]
 ·rw[aO h,aO (by omega),aJ (by omega)]
def bF.avN{st st1:bF}{m:Option MT}{j:Nat}(h:st.Dn m j=ae st1):st1.a=st.a.Dn j:=by
 unfold bF.Dn at h;split at h
 ·rename_i k t xs e;simp only[aq]at h;subst h;have h2:st.a.t (gs+j)=.tok k t.z (xs.map t.enc):=by rw[bF.XW,e];rfl
  unfold St.Dn;rw[h2,bF.Ff,bF.ew,bF.ra,bF.JU];simp only[V.a,az,VR.a,aT]
 ·rename_i z e;have h2:st.a.t (gs+j)=.jo z:=by rw[bF.XW,e];rfl
  split at h;·split at h;(·rename_i t hz;subst hz;simp only[aq]at h;subst h;unfold St.Dn;rw[h2,bF.Ff,bF.ew,bF.ra];rfl);·cases h
  ·cases h
 ·rename_i h1 h2;simp only[aq]at h;subst h;unfold St.Dn;rw[bF.XW]
  cases hv:gd st.t (gs+j)<;>first
   |rfl
   |exact absurd hv (h1 _ _ _)
   |exact absurd hv (h2 _)
def bF.UU:∀{n j:Nat} {bs:List Bool} {ms:List MT} {st st1:bF},st.fm bs ms j n=ae st1->st.a.fm bs j n=ae st1.a
 |0,j,bs,ms,st,st1,h=>by
  unfold bF.fm at h
  simp only[aq]at h;subst h
  unfold St.fm;rfl
 |n+1,j,bs,ms,st,st1,h=>by
  rcases bs with _|⟨b,bs⟩
  ·simp only[bF.fm]at h
   split at h
   ·rename_i st2 e
    simp only[St.fm,bF.XW,V.im,aT,bF.agZ e,af]
    exact bF.UU h
   ·cases h
  ·cases b
   ·simp only[bF.fm]at h
    split at h
    ·rename_i st2 e
     simp only[St.fm,bF.XW,V.im,aT,bF.agZ e,af]
     exact bF.UU h
    ·cases h
   ·simp only[bF.fm]at h
    split at h
    ·rename_i st2 e
     simp only[St.fm,<-bF.avN e]
     exact bF.UU h
    ·cases h
section
variable {R:Type} {D:List (Nat×Callee)} {H:List (Nat×ET)}
def aoW(st:bF)(v:V):bI (R:=R) (λk:Nat×V->Option R=>Pn st v λq x=>k (q,x)) λp=>E4 st.a v.a=ae (p.1,p.2.a):=by
 have no:(∀k:Nat->V->Option R,Pn st v k=ai)->bI (R:=R) (λk:Nat×V->Option R=>Pn st v λq x=>k (q,x)) λp=>E4 st.a v.a=ae (p.1,p.2.a):=λh k r hk=>by dsimp only at hk;rw[h]at hk;cases hk
 cases v with|view q o n=>(cases o with|succ o=>exact no λ_=>rfl|zero=>(have e:(λk:Nat×V->Option R=>Pn st (.view q 0 n) λq x=>k (q,x))=λk=>match dX st.r q with|some (.sl t xs)=>if ah (n=xs.length)then k (q,.lB t xs)else ai|_=>ai:=rfl);rw[e];cases hq:dX st.r q with|none=>exact bI.no|some R0=>cases R0 with|var z x=>exact bI.no|sl t xs=>refine bI.nT λhn=>bI.mk (x:=(q,V.lB t xs)) ?_;simp only[ax]at hn;simp only[V.a,E4,bF.Gu,hq,az,VR.a,af,aT,hn,mV,aC])|loc q i c=>(cases i with|succ o=>exact no λ_=>rfl|zero=>cases c with|succ o=>exact no λ_=>rfl|zero=>(have e:(λk:Nat×V->Option R=>Pn st (.loc q 0 0) λq x=>k (q,x))=λk=>match dX st.r q with|some (.var z x)=>dY (AK st.r x.cells) λcs=>k (q,.iB z (kQ x cs))|_=>ai:=rfl);rw[e];cases hq:dX st.r q with|none=>exact bI.no|some R0=>cases R0 with|sl t xs=>exact bI.no|var z x=>refine bI.dY λcs hcs=>bI.mk (x:=(q,V.iB z (kQ x cs))) ?_;simp only[V.a,E4,bF.Gu,hq,az,VR.a,af,V.im,Pm hcs,qV])|_=>exact no λ_=>rfl
def XI(st:bF):∀(l:List V) (bs:List Bool),bI (R:=R) (λk:List (Option V)×List Nat×List Nat->Option R=>xb st bs l λa b c=>k (a,b,c)) λp=>mX st.a bs (l.map V.a)=ae (p.1.map (Ts V.a),p.2.1,p.2.2)
 | [],bs=>by
   have e:(λk:List (Option V)×List Nat×List Nat->Option R=>xb st bs [] λa b c=>k (a,b,c))=λk=>k ([],[],[]):=by funext k;unfold xb;rfl
   rw[e]
   refine bI.mk ?_
   unfold mX;rfl
 |v::l,bs=>by
  have gen:∀bs:List Bool,(∀x,bs≠ar::x)->bI (R:=R) (λk:List (Option V)×List Nat×List Nat->Option R=>xb st bs (v::l) λa b c=>k (a,b,c)) λp=>mX st.a bs ((v::l).map V.a)=ae (p.1.map (Ts V.a),p.2.1,p.2.2):=by intro bs hb;(have e:(λk:List (Option V)×List Nat×List Nat->Option R=>xb st bs (v::l) λa b c=>k (a,b,c))=λk=>xb st bs.tail l λxs qs ns=>k (ai::xs,qs,ns):=by funext k;(rcases bs with _|⟨b,bs⟩);(·rfl);·cases b;(·rfl);·exact absurd rfl (hb _));rw[e];refine bI.seq (F:=λk:List (Option V)×List Nat×List Nat->Option R=>xb st bs.tail l λa b c=>k (a,b,c)) (G:=λp (k:List (Option V)×List Nat×List Nat->Option R)=>k (ai::p.1,p.2.1,p.2.2)) (XI st l bs.tail) λp hp=>bI.mk ?_;(have e2:mX st.a bs ((v::l).map V.a)=(mX st.a bs.tail (l.map V.a)).map λ(xs,qs,ns)=>(ai::xs,qs,ns):=by(rcases bs with _|⟨b,bs⟩);(·rfl);·cases b;(·rfl);·exact absurd rfl (hb _));rw[e2,hp];rfl
  rcases bs with _|⟨b,bs⟩
  ·exact gen _ (by intro x h;cases h)
  ·cases b
   ·exact gen _ (by intro x h;cases h)
   ·have e:(λk:List (Option V)×List Nat×List Nat->Option R=>xb st (ar::bs) (v::l) λa b c=>k (a,b,c))=λk=>Pn st v λq x=>xb st bs l λxs qs ns=>k (ae x::xs,q::qs,CE st.r v++ns):=rfl
    rw[e]
    refine bI.seq (F:=λk:Nat×V->Option R=>Pn st v λq x=>k (q,x)) (G:=λp (k:List (Option V)×List Nat×List Nat->Option R)=>xb st bs l λxs qs ns=>k (ae p.2::xs,p.1::qs,CE st.r v++ns)) (aoW st v) λp hp=> ?_
    refine bI.seq (F:=λk:List (Option V)×List Nat×List Nat->Option R=>xb st bs l λa b c=>k (a,b,c)) (G:=λr (k:List (Option V)×List Nat×List Nat->Option R)=>k (ae p.2::r.1,p.1::r.2.1,CE st.r v++r.2.2)) (XI st l bs) λr hr=>bI.mk ?_
    simp only[aP,mX,hp,af,hr,az,adn]
def XA(st:bF):∀(l:List V) (xs:List (Option V)),bI (R:=R) (AI st.r xs l) λab=>uQ st.a (xs.map (Ts V.a)) (l.map V.a)=ae (ab.map V.a)
 | [],[]=>bI.mk (x:=[]) rfl
 | [],ai::_=>bI.no
 | [],ae _::_=>bI.no
 |_::_,[]=>bI.no
 |v::l,ae x::xs=>by
  have e:AI (R:=R) st.r (ae x::xs) (v::l)=λk=>AI st.r xs l λr=>k (x::r):=rfl
  rw[e]
  refine bI.seq (F:=AI st.r xs l) (G:=λr (k:List V->Option R)=>k (x::r)) (XA st l xs) λr hr=>bI.mk ?_
  simp only[aP,az,uQ,hr]
 |v::l,ai::xs=>by
  have e:AI (R:=R) st.r (ai::xs) (v::l)=λk=>if Po v then ai else uO st.r v λx=>AI st.r xs l λr=>k (x::r):=rfl
  rw[e]
  refine bI.ite (λ_=>bI.no) λho=> ?_
  refine bI.seq (F:=uO st.r v) (G:=λx (k:List V->Option R)=>AI st.r xs l λr=>k (x::r)) (S3 st v) λx hx=> ?_
  refine bI.seq (F:=AI st.r xs l) (G:=λr (k:List V->Option R)=>k (x::r)) (XA st l xs) λr hr=>bI.mk ?_
  simp only[aP,cT,uQ,aj2,aO ho,hx,af,hr,az]
def PN:∀{qs:List Nat} {l:List V} {st st1:bF},qh st qs l=ae st1->mc st.a qs (l.map V.a)=ae st1.a
 | [],[],st,st1,h=>by simp only[qh,aq]at h;subst h;rfl
 | [],_::_,st,st1,h=>by simp[qh]at h
 |q::qs,[],st,st1,h=>by simp[qh]at h
 |q::qs,v::l,st,st1,h=>by
  cases v<;>first
   |(simp[qh]at h;done)
   |skip
  ·simp only[qh]at h
   have:=PN h
   simp only[aP,V.a,mc]
   rw[bF.ew]at this
   exact this
  ·rename_i z x
   simp only[qh]at h
   split at h
   ·rename_i z0 x0 e
    have:=PN h
    simp only[aP,V.a,mc,bF.Gu,e,az,VR.a,af]
    rw[<-this]
    congr 1
    refine St.ext' (λi=>rfl) λi=> ?_
    simp only[bF.Gu,afB,afC,V.im,DP Mk]
    split
    ·simp only[az,VR.a,qV,uX];rfl
    ·split<;>rfl
   ·cases h
  ·rename_i t xs
   simp only[qh]at h
   have:=PN h
   simp only[aP,V.a,mc]
   rw[bF.ew]at this
   exact this
def HY:∀{qs:List Nat} {l:List V} {st st1:bF},jN st qs l=ae st1->iT st.a qs (l.map V.a)=ae st1.a
 | [],[],st,st1,h=>by simp only[jN,aq]at h;subst h;rfl
 | [],_::_,st,st1,h=>by simp[jN]at h
 |q::qs,[],st,st1,h=>by simp[jN]at h
 |q::qs,v::l,st,st1,h=>by
  cases v<;>first
   |(simp[jN]at h;done)
   |skip
  ·simp only[jN]at h
   have:=HY h
   simp only[aP,V.a,iT,this]
  ·rename_i z x
   simp only[jN]at h
   split at h
   ·rename_i hl
    split at h
    ·rename_i cs st2 e
     have:=HY h
     rw[bF.ew]at this
     simp only[az,VR.a,qV]at this
     simp only[aP,V.a,iT,V.im,aT,aJ hl,adt e,af,this]
    ·cases h
   ·cases h
  ·rename_i t xs
   simp only[jN]at h
   have:=HY h
   simp only[aP,V.a,iT,this]
def ajX{z:Nat}{t:ET}(hz:t.z=z):∀{parts:List (Nat×bZ)} {xs ys:List t.ty} {st st1:bF},XC st t xs parts=ae (ys,st1)->bt.xR st.a z (xs.map t.enc) parts=ae (ys.map t.enc,st1.a)
 | [],xs,ys,st,st1,h=>by
   simp only[XC,aq,be]at h
   obtain⟨rfl,rfl⟩:=h;rfl
 |(i,x)::l,xs,ys,st,st1,h=>by
  simp only[XC]at h
  split at h
  ·rename_i hx
   split at h
   ·rename_i v st2 ev
    split at h
    ·rename_i y ey
     split at h
     ·rename_i hi
      have:=ajX hz h
      rw[aav]at this
      simp only[bt.xR,<-bZ.eW st hx,bF.aqW ev,af,V.I1 ey,ET.D8,aT,hz,hi,mV,aC,this]
     ·cases h
    ·cases h
   ·cases h
  ·cases h
end
end Go.Ab
namespace Go.Ab
section
variable {R:Type} {D:List (Nat×Callee)} {H:List (Nat×ET)}
def aoY(d:Option Nat)(st:bF)(o:O):bI (R:=R) (FX D H d st o) λst'=>bt (cfD D) (ioD D) d st.a o=ae st'.a:=by
 cases o with
 |asg x=>
  unfold FX;dsimp only;refine bI.nT λhx=> ?_;have gen:∀v,x.vv st=v->(∀n t xs,v≠ .tok n t xs)->(∀z,v≠ .jo z)->bI (R:=R) (λk=>k (st.put d v)) λst'=>bt (cfD D) (ioD D) d st.a (.asg x)=ae st'.a:=by intro v hv h1 h2;refine bI.mk ?_;simp only[bt,<-bZ.eW st hx,hv];split;(·rename_i e;cases v<;>simp[V.a]at e;exact absurd rfl (h1 _ _ _));(·rename_i e;cases v<;>simp[V.a]at e;exact absurd rfl (h2 _));·rw[bF.xp]
  cases d with
  |none=>
   dsimp only;refine bI.mk ?_;simp only[bt,<-bZ.eW st hx,bF.xp]
  |some d=>
   cases hv:x.vv st<;>(try dsimp only)<;>first
    |exact gen _ hv (by intros;simp) (by intros;simp)
    |skip
   (·rename_i z;refine bI.dY λt ht=>bI.nT λhc=>bI.mk ?_;simp only[aj,ax]at hc;obtain⟨rfl,hd⟩:=hc;simp only[bt,<-bZ.eW st hx,hv,V.a,aJ hd,bF.xp,bF.ew,bF.ra,az,VR.a,lT,cy]);·rename_i n t xs;refine bI.nT λhd=>bI.mk ?_;simp only[bt,<-bZ.eW st hx,hv,V.a,aJ hd,bF.xp,bF.ew,bF.ra,bF.JU,az,VR.a,aT]
 |alloc z zero=>
  unfold FX;dsimp only;cases d with|none=>exact bI.no|some d=>dsimp only;refine bI.nT λhc=>bI.mk ?_;simp only[aj,ax]at hc;obtain⟨⟨⟨h1,h2⟩,h3⟩,h4⟩:=hc;have e:=A.ajO h1;(have hl:zero.cells.length=z:=by rw[<-e,V.im,aT];exact h2);(have hp:zero.cells.all cr=ar:=by rw[<-e,V.im,ahZ we];exact h4);simp only[bt,hl,h3,hp,mV,aC,bF.xp,bF.ew,bF.ra,az,VR.a,V.a,e]
 |box z x=>
  unfold FX;dsimp only;refine bI.nT λhx=> ?_;cases d with|none=>exact bI.no|some d=>dsimp only;refine bI.nT λhc=> ?_;simp only[aj,ax]at hc;obtain⟨⟨⟨h1,h2⟩,h3⟩,h4⟩:=hc;cases hab:(((st.aV gs (x.vv st)).kill d).aD d ai).fh d 0 0 z with|none=>exact bI.no|some p=>obtain⟨cs,st1⟩:=p;refine bI.mk ?_;have:=bF.VH hab;simp only[bF.ew,bF.ra,bF.Ff,cT]at this;simp only[bt,<-bZ.eW st hx,V.im,aT,ahZ (Vy st),h1,h2,h3,h4,mV,aC,this,az,bF.xp,bF.ew,bF.ra,bF.Ff,VR.a,V.a,qV]
 |rq n a x=>
  unfold FX;dsimp only;refine bI.nT λhx=>bI.nT λhn=> ?_;simp only[aj]at hx
  cases hv:a.vv st<;>(try dsimp only)<;>first
   |exact bI.no
   |skip
  rename_i q i c;cases hq:dX st.r q with|none=>exact bI.no|some R0=>cases R0 with|var z e=>(cases i with|succ i=>exact bI.no|zero=>dsimp only;refine bI.nT λhc=> ?_;simp only[aj,ax]at hc;obtain⟨⟨⟨h1,h2⟩,h3⟩,h4⟩:=hc;cases hab:((st.aV gs (x.vv st)).aD q (ae (.var z (ahw e c n)))).fh q c 0 n with|none=>exact bI.no|some p=>obtain⟨vs,st1⟩:=p;refine bI.mk ?_;have:=bF.VH hab;simp only[bF.ew,bF.Ff,az,VR.a,arH]at this;simp only[bt,<-bZ.eW st hx.1,<-bZ.eW st hx.2,hv,V.a,bF.Gu,hq,az,VR.a,af];rw[V.im,aT,aJ hn,V.im,aT,ahZ (Vy st),aJ ⟨h1,h2,h3,h4⟩,this];simp only[az,bF.xp,bF.ew,bF.Ff,VR.a,qV,eu,kV,jy,V.a])|sl t0 xs0=>cases hp:st.QE (x.vv st)with|none=>exact bI.no|some p=>obtain⟨v,st1⟩:=p;dsimp only;refine bI.nT λhvn=> ?_;cases hq1:dX st1.r q with|none=>exact bI.no|some R1=>cases R1 with|var z e=>exact bI.no|sl t xs=>refine bI.bind λe he=>bI.dY λcs hcs=>bI.dY λy hy=>bI.mk ?_;have h1:=Yq hcs;have h2:=V.I1 hy;simp only[bt,<-bZ.eW st hx.1,<-bZ.eW st hx.2,hv,V.a,bF.Gu,hq,az,VR.a,af];rw[V.im,aT,aJ hn,bF.aqW hp];simp only[af,V.im,aT,aJ hvn,bF.Gu,hq1,az,VR.a,bX,he];rw[ET.Vx,h1];simp only[az,bF.xp,bF.ew,VR.a,V.a,aav,<-h2,qV,ET.VE]
 |app z bytes s x=>
  unfold FX;dsimp only;refine bI.nT λhx=> ?_;simp only[aj]at hx
  cases d with
  |none=>exact bI.no
  |some d=>
   dsimp only;refine bI.dY λt ht=>bI.dY λys hys=>bI.nT λhz=> ?_;simp only[aj,ax]at hz;obtain⟨rfl,hb⟩:=hz;have hy:=ajV hys;have hf:(ys.map t.enc).all Mv=ar:=by rw[uW,aG];exactλy _=>ET.aif t y
   cases hv:s.vv st<;>(try dsimp only)<;>first
    |exact bI.no
    |skip
   (·refine bI.nT λh1=>bI.nT λh2=>bI.mk ?_;simp only[ax]at h2;simp only[bt,<-bZ.eW st hx.1,<-bZ.eW st hx.2,hy,af,hv,V.a,h1,h2,hb,hf,aT,mV,aC,bF.xp]);(·rename_i n u xs;refine bI.dY λxs' hxs=>bI.nT λh2=>bI.mk ?_;obtain⟨rfl,hxs⟩:=xM hxs;cases hxs;simp only[ax]at h2;simp only[bt,<-bZ.eW st hx.1,<-bZ.eW st hx.2,hy,af,hv,V.a,h2,hb,hf,aT,mV,aC,bF.xp,bF.JU,eu]);·rename_i q o n;cases hq:dX st.r q with|none=>exact bI.no|some R0=>cases R0 with|var z e=>exact bI.no|sl u xs=>dsimp only;refine bI.dY λxs' hxs=>bI.nT λh2=>bI.mk ?_;obtain⟨rfl,hxs⟩:=xM hxs;cases hxs;simp only[ax]at h2;simp only[bt,<-bZ.eW st hx.1,<-bZ.eW st hx.2,hy,af,hv,V.a,bF.Gu,hq,az,VR.a,h2,hb,hf,aT,mV,aC,bF.xp,bF.ew,bF.ra,eu,WZ,cT]
 |call f args=>
  unfold FX;dsimp only;refine bI.nT λhx=> ?_;simp only[aj]at hx
  cases hv:f.vv st<;>(try dsimp only)<;>first
   |exact bI.no
   |skip
  rename_i g caps;refine bI.dY λst1 hst1=> ?_
  refine bI.seq (F:=λk:List (Option V)×List Nat×List Nat->Option R=>xb st1 (alQ D g) ((dL (args.length+caps.length)).map λj=>gd st1.t (gs+j)) λa b c=>k (a,b,c))
   (G:=λp (k:bF->Option R)=>if decide p.2.2.Nodup then
        AI (pB st1.r p.2.2) p.1 ((dL (args.length+caps.length)).map λj=>gd st1.t (gs+j)) λab=>vcf D g ab λres outs=>
         dY (qh (st1.lay []) p.2.1 outs) λst2=>dY (jN st2 p.2.1 outs) λst3=>dY (XG st3 d res) k
      else ai) (XI st1 _ _) λp hp=> ?_
  refine bI.nT λhnd=> ?_
  refine bI.seq (F:=AI (bF.mk st1.t (pB st1.r p.2.2)).r p.1 ((dL (args.length+caps.length)).map λj=>gd st1.t (gs+j)))
   (G:=λab (k:bF->Option R)=>vcf D g ab λres outs=>
        dY (qh (st1.lay []) p.2.1 outs) λst2=>dY (jN st2 p.2.1 outs) λst3=>dY (XG st3 d res) k) (XA _ _ _) λab has=> ?_
  refine bI.seq (F:=λk:List V×List V->Option R=>vcf D g ab λa b=>k (a,b)) (G:=λr (k:bF->Option R)=>dY (qh (st1.lay []) p.2.1 r.2) λst2=>dY (jN st2 p.2.1 r.2) λst3=>dY (XG st3 d r.1) k) (arI D g ab) λr hr=> ?_;refine bI.dY λst2 h2=>bI.dY λst3 h3=>bI.Kx λst4 h4=> ?_;have e:=bZ.aj4 st hx.2;have e1:=bF.UU hst1;rw[bF.aqC,eu,<-e]at e1;simp only[bt,<-bZ.eW st hx.1,hv,V.a,V.fe,aT];rw[show ioD D g=alQ D g from rfl,e1];simp only[af];have e2:(dL (args.length+caps.length)).map (λj=>st1.a.t (gs+j))=((dL (args.length+caps.length)).map λj=>gd st1.t (gs+j)).map V.a:=by rw[uX];rfl
  rw[e2,hp];simp only[af];rw[aJ hnd];have e3:=has;rw[bF.Wu]at e3;rw[show({st1.a with r:=less st1.a.r p.2.2}:St)={t:=λi=>(gd st1.t i).a,r:=less st1.a.r p.2.2}from rfl,e3];simp only[af];rw[hr];simp only[af,Ec];have e4:=PN h2;rw[bF.aqC]at e4;simp only[lT]at e4;rw[e4];simp only[af];rw[HY h3];simp only[af];exact arR h4
 |ia z x i=>
  unfold FX;dsimp only;refine bI.nT λhx=> ?_;simp only[aj]at hx
  cases hi:i.vv st<;>(try dsimp only)<;>first
   |exact bI.no
   |skip
  rename_i ki n
  cases hv:x.vv st<;>(try dsimp only)<;>first
   |exact bI.no
   |skip
  rename_i k' t' xs'
  cases hp:st.QE (V.tok k' t' xs')with
  |none=>exact bI.no
  |some p=>
   obtain⟨v,st1⟩:=p
   cases v<;>(try dsimp only)<;>first
    |exact bI.no
    |skip
   rename_i t xs;refine bI.nT λhz=>bI.nT λhn=>bI.bind λy hy=>bI.mk ?_;simp only[ax]at hz hn;subst hz;have:=bF.aqW hp;simp only[V.a]at this;simp only[bt,<-bZ.eW st hx.1,<-bZ.eW st hx.2,hi,hv,V.a,this,af,hn,mV,aC,bX,hy,az,bF.xp,V.fe,ET.Vx]
 |VL z zero n parts=>
  unfold FX;dsimp only;cases d with|none=>exact bI.no|some d=>dsimp only;refine bI.dY λt ht=>bI.nT λhc=>bI.dY λz0 hz0=>bI.dY λp hp=>bI.mk ?_;simp only[aj,ax]at hc;obtain⟨⟨h1,h2⟩,h3⟩:=hc;have e0:zero=t.enc z0:=(A.ajO h1).symm.trans (V.I1 hz0);have:=ajX h2 (show XC st t (aZ n z0) parts=ae (p.1,p.2)from hp);rw[Gt,<-e0]at this;simp only[bt,h3,Mh,this,az,bF.xp,V.a];rw[aJ (by rw[e0,<-h2];exact ET.D8 _ _),h2]
 |_=>unfold FX;exact bI.no
def ar1(st:bF)(o:Op):bI (R:=R) (Rh D H st o) λst'=>step (cfD D) (ioD D) st.a o=ae st'.a:=by
 unfold Rh;refine bI.ite (λh=> ?_) λh=> ?_;·refine bI.nT λhs=>(aoY o.d st o.o).k9 λst' hs'=> ?_;rw[step,aJ h,aJ hs,hs']
 ·refine bI.seq (F:=gP D H o.d st o.o) (G:=λv (k:bF->Option R)=>if fP st.a o v.a then k (st.put o.d v)else ai) (aoS o.d st o.o) λv hv=>bI.nT λhp=>bI.mk ?_;rw[step,aO h,hv,af,aJ hp,bF.xp]
def afH:∀(l:List Op) (j:Nat),W9 l j=(l[j]?).bind (·.d)
 | [],_=>rfl
 |o::_,0=>rfl
 |_::l,j+1=>by simpa[W9]using afH l j
def afw{st:bF}{d:Nat}{v:V}(h:(gd st.t d).a=v.a):(st.aV d v).a=st.a:=by
 rw[bF.Ff];refine St.ext' (λi=> ?_) λi=>rfl;simp only[St.aV];split;·rename_i e;subst e;rw[bF.XW,h]
 ·rfl
def Ml(all:List Op):∀(l:List Op) (st:bF),bI (R:=R) (kR D H all l st) λst'=>vn (cfD D) (ioD D) all l st.a=ae st'.a
 | [],st=>bI.mk (x:=st) rfl
 |o::l,st=>by
  have stp:∀s:bF,guardOf all s.a o.g=ae ar->bI (R:=R) (λk=>Rh D H s o λst'=>kR D H all l st' k) λst'=>vn (cfD D) (ioD D) all (o::l) s.a=ae st'.a:=by intro s hg;refine bI.seq (F:=Rh D H s o) (G:=λst' (k:bF->Option R)=>kR D H all l st' k) (ar1 s o) λst' hs=> ?_;refine(Ml all l st').k9 λs2 h2=> ?_;simp only[vn,hg,hs,af,h2]
  have skp:∀s:bF,guardOf all s.a o.g=ae aw->bI (R:=R) (λk=>kR D H all l (s.put o.d .undef) k) λst'=>vn (cfD D) (ioD D) all (o::l) s.a=ae st'.a:=by intro s hg;refine(Ml all l (s.put o.d .undef)).k9 λs2 h2=> ?_;rw[bF.xp]at h2;simp only[vn,hg];exact h2
  have e:kR (R:=R) D H all (o::l) st=λk=>match o.g with
   |none=>Rh D H st o λst'=>kR D H all l st' k
   |some (j,want)=>
    match W9 all j with
    |some d=>
     (match gd st.t d with
      |.bool b=>
       if b then
        (if want then Rh D H (st.aV d (.bool ar)) o λst'=>kR D H all l st' k else kR D H all l ((st.aV d (.bool ar)).put o.d .undef) k)
       else
        (if want then kR D H all l ((st.aV d (.bool aw)).put o.d .undef) k else Rh D H (st.aV d (.bool aw)) o λst'=>kR D H all l st' k)
      |.undef=>kR D H all l (st.put o.d .undef) k
      |_=>ai)
    |none=>ai:=rfl
  rw[e]
  cases hg:o.g with
  |none=>exact stp st (by rw[hg];rfl)
  |some p=>
   obtain⟨j,want⟩:=p
   dsimp only
   cases hs:W9 all j with
   |none=>exact bI.no
   |some d=>
    dsimp only
    have hsl:(all[j]?).bind (·.d)=ae d:=by rw[<-afH,hs]
    cases hv:gd st.t d<;>(try dsimp only)<;>first
     |exact bI.no
     |skip
    ·exact skp st (by rw[hg];simp only[guardOf,hsl,bF.XW,hv,V.a])
    ·rename_i b
     have hgd:∀c:Bool,b=c->guardOf all (st.aV d (.bool c)).a o.g=ae (c==want):=λc hc=>by rw[afw (by rw[hv,hc]),hg];simp only[guardOf,hsl,bF.XW,hv,V.a,hc]
     have same:∀c:Bool,b=c->(st.aV d (.bool c)).a=st.a:=λc hc=>afw (by rw[hv,hc])
     refine bI.ite (λhb=> ?_) λhb=> ?_
     ·rw[<-same ar hb]
      refine bI.ite (λhw=> ?_) λhw=> ?_
      ·exact stp _ (by rw[hgd ar hb,hw];rfl)
      ·exact skp _ (by rw[hgd ar hb];simp at hw;rw[hw];rfl)
     ·simp only[Bool.not_eq_true]at hb
      rw[<-same aw hb]
      refine bI.ite (λhw=> ?_) λhw=> ?_
      ·exact skp _ (by rw[hgd aw hb,hw];rfl)
      ·exact stp _ (by rw[hgd aw hb];simp at hw;rw[hw];rfl)
def av9(v:V):(axG v).a=fz1 v.a:=by cases v<;>rfl
def aoT(f:Nat->V)(l:List Nat)(i:Nat):gd (l.map λj=>(j,f j)) i=if i∈l then f i else .any:=by induction l with|nil=>simp[gd]|cons j l ih=>simp only[aP,gd,ih];by_cases h:i=j;(·subst h;simp);·simp[h]
def aol(f:Nat->Option VR)(l:List Nat)(i:Nat):dX (l.map λj=>(j,f j)) i=if i∈l then f i else ai:=by induction l with|nil=>simp[dX]|cons j l ih=>simp only[aP,dX,ih];by_cases h:i=j;(·subst h;simp);·simp[h]
def ajK(f:Nat->A):∀(l:List Nat) (i:Nat),tab (l.map λj=>(j,f j)) i=if i∈l then f i else .any
 | [],i=>rfl
 |j::l,i=>by
  have ih:=ajK f l i
  simp only[tab,aP,adE]at ih⊢
  by_cases h:i=j
  ·subst h;simp
  ·have:(i==j)=aw:=by simpa using h
   simp only[this]
   rw[ih]
   simp[h]
def afE(r:Nat->Option dF):∀(l:List Nat) (i:Nat),aeg (l.filterMap λj=>(r j).map λR=>(j,R)) i=if i∈l then r i else ai
 | [],i=>rfl
 |j::l,i=>by
  have ih:=afE r l i
  simp only[List.filterMap_cons]
  cases hj:r j with
  |none=>
   simp only[cT]
   rw[ih]
   by_cases h:i=j
   ·subst h;simp[hj]
   ·simp[h]
  |some R'=>
   simp only[az,aeg,adE]at ih⊢
   by_cases h:i=j
   ·subst h;simp[hj]
   ·have:(i==j)=aw:=by simpa using h
    simp only[this]
    rw[ih]
    simp[h]
def bF.aoa{st s':bF}{s:Nat}(h:st.A1 s=ae s'):s'.a=st.a.A1 s:=by
 unfold bF.A1 at h;unfold St.A1;rw[bF.XW];split at h
 ·rename_i q off n e;rw[e];simp only[V.a,bF.Gu];split at h;·rename_i t xs e2;rw[e2];simp only[az,VR.a];split at h;(·rename_i hq;cases h;rw[aJ hq]);·rename_i hq;cases h;rw[aO hq,bF.Ff,bF.ew,bF.ew,bF.ra,bF.ra];rfl
  ·cases h
 ·cases h
def bF.an9{st s':bF}{s:Nat}(h:st.A0 s=ae s'):s'.a=st.a.A0 s:=by
 unfold bF.A0 at h;unfold St.A0;rw[bF.XW];split at h
 ·rename_i q off n e;rw[e];simp only[V.a,bF.Gu];split at h;·rename_i t xs e2;rw[e2];simp only[az,VR.a];cases h;rw[bF.Ff,bF.ew,bF.ew,bF.ra,bF.ra];simp only[az,cT,VR.a,V.a,kV,jy]
  ·cases h
 ·cases h
def bF.aiV{R:Type}(H:List (Nat×ET))(st:bF)(n:Nat):(∀k:bF->Option R,st.C6 H n k=ai)\/∃st',(∀k:bF->Option R,st.C6 H n k=k st')/\st'.a=st.a.C6 n:=by
 unfold bF.C6;by_cases hreb:8000000<=n;·simp only[aJ hreb];cases hp:st.A0 (n-8000000)with|none=>exact .inl λ_=>rfl|some s=>exact .inr ⟨s,λ_=>rfl,by unfold St.C6;rw[aJ hreb,bF.an9 hp]⟩
 simp only[aO hreb];by_cases hren:7000000<=n;·simp only[aJ hren];cases hp:st.A1 (n-7000000)with|none=>exact .inl λ_=>rfl|some s=>exact .inr ⟨s,λ_=>rfl,by unfold St.C6;rw[aO hreb,aJ hren,bF.aoa hp]⟩
 simp only[aO hren];by_cases hbox:6000000<=n
 ·simp only[aJ hbox];split
  ·rename_i z x hR;by_cases hp:x.cells.all xe=ar
   ·simp only[hp,aC];refine .inr ⟨_,λ_=>rfl,?_⟩;(have hRa:st.a.r (n-6000000)=ae ⟨ar,z,[x.a]⟩:=by rw[bF.Gu,hR];rfl);(have hpa:x.a.cells.all cr=ar:=by rw[V.im,ahZ we];exact hp);unfold St.C6;rw[aO hreb,aO hren,aJ hbox];simp only[St.aaf,hRa,hpa,aC]
    rw[bF.ew,st.afh (f:=AJ (ahC (n-6000000) x.cells)) (g:=cJ (FQ (n-6000000) x.a.cells)) (FU λv=>by
     cases v<;>first
      |rfl
      |(simp only[ahC,V.a,FQ]
        split
        ·split
         ·simp only[V.a,V.im,V.fe]
         ·rfl
        ·rfl)) rfl]
    rfl
   ·simp only[hp,aH,ao];exact .inl λ_=>trivial
  ·exact .inl λ_=>rfl
 simp only[aO hbox];by_cases hbig:5000000<=n;·simp only[aJ hbig];cases hp:st.pz (n-5000000) 0 with|none=>exact .inl λ_=>rfl|some s=>exact .inr ⟨s,λ_=>rfl,by unfold St.C6;rw[aO hreb,aO hren,aO hbox,aJ hbig,bF.alb hp]⟩
 simp only[aO hbig];split;rotate_left;·exact .inl λ_=>rfl
 rename_i z cs hR;have hRa:st.a.r (n/1000-1)=ae ⟨ar,z,[.agg (cs.map V.a)]⟩:=by rw[bF.Gu,hR];simp only[az,VR.a,V.a,V.fe]
 split
 ·rename_i z1 hc;have hca:(cs.map V.a)[n%1000]? =ae (.jo z1):=by rw[bX,hc];rfl
  by_cases hcond:(ah (1000<=n)&&(dX st.r n).isNone)=ar;·simp only[hcond,aC];cases hh:Yx H n with|none=>exact .inl λ_=>rfl|some t=>simp only[dY];by_cases hz:t.z=z1;(·simp only[hz,aC];refine .inr ⟨_,λ_=>rfl,?_⟩;simp only[aj,ax]at hcond;(have hnn:(st.a.r n).isNone=ar:=by rw[bF.Gu];cases e:dX st.r n with|none=>rfl|some R=>rw[e]at hcond;simp at hcond);unfold St.C6;rw[aO hreb,aO hren,aO hbox,aO hbig,hRa];simp only[hca];rw[aJ ⟨hcond.1,hnn⟩,bF.ew,bF.ew,bF.ra];simp only[az,VR.a,V.a,V.fe,aav,lT,hz,cy]);·simp only[hz,aH];exact .inl λ_=>trivial
  ·simp only[hcond,aH,ao];exact .inl λ_=>trivial
 ·rename_i r off l hc;have hca:(cs.map V.a)[n%1000]? =ae (.view r off l):=by rw[bX,hc];rfl
  refine .inr ⟨st,λ_=>rfl,?_⟩;unfold St.C6;rw[aO hreb,aO hren,aO hbox,aO hbig,hRa];simp only[hca]
 ·exact .inl λ_=>rfl
def bF.acu(st:bF)(fk keepR:List Nat):(st.restrict fk keepR).a=st.a.restrict fk keepR:=by
 refine St.ext' (λi=> ?_) λi=> ?_
 ·have h:=ajK (λi=>fz (st.a.t i)) fk i;refine al5 ?_ (show(if i∈fk then fz (st.a.t i)else .any)=(st.a.restrict fk keepR).t i from h.symm);rw[bF.XW,show gd (st.restrict fk keepR).t i=if i∈fk then vfz (gd st.t i)else .any from aoT (λi=>vfz (gd st.t i)) fk i];split;·exact FU av9 _
  ·rfl
 ·have h:=afE st.a.r keepR i;refine al5 ?_ (show(if i∈keepR then st.a.r i else ai)=(st.a.restrict fk keepR).r i from h.symm);rw[bF.Gu,show dX (st.restrict fk keepR).r i=if i∈keepR then dX st.r i else ai from aol (λi=>dX st.r i) keepR i];split<;>rfl
end
end Go.Ab
namespace Go.Ab
section
variable {R:Type} {D:List (Nat×Callee)} {H:List (Nat×ET)} {leave:bF->Option R}
inductive To(D:List (Nat×Callee))(H:List (Nat×ET))(leave:bF->Option R)(s:List Fr)(st:bF):Type
 |g (s':List Fr) (st':bF) (h:∀G N,o4 D H leave G N s st=G s' st')
 |n (s':List Fr) (st':bF) (h:∀G N,o4 D H leave G N s st=N s' st')
 |e (h:∀G N,o4 D H leave G N s st=leave st)
theorem Wv{G N:List Fr->bF->Option R}{s:List Fr}{st:bF}{r:R}(h:o4 D H leave G N s st=ae r):Nonempty (To D H leave s st):=by
 cases s with
 |nil=>exact⟨.e λ_ _=>rfl⟩
 |cons f s=>
  cases f with
  |e i=>exact⟨.g s st λ_ _=>rfl⟩
  |l b=>exact⟨.g (.c b::.l b::s) st λ_ _=>rfl⟩
  |c c=>
   cases c with
   |stop=>simp[o4]at h
   |skip=>exact⟨.g s st λ_ _=>rfl⟩
   |reg d ops fk keepR=>
    have hF:=Ml (R:=R) (D:=D) (H:=H) ops ops st;obtain⟨st',_,_,h3⟩:=hF _ r (show kR D H ops ops st (λst'=>G s (st'.restrict fk keepR))=ae r from h);exact⟨.g s (st'.restrict fk keepR) λG' _=>h3 _⟩
   |seq a b=>exact⟨.g (.c a::.c b::s) st λ_ _=>rfl⟩
   |cond c a b=>
    by_cases hc:c.ok=ar
    ·cases hv:c.vv st<;>first
      |(simp[o4,hc,hv]at h;done)
      |skip
     rename_i t;cases t;(·exact⟨.g (.c b::s) st λG' N'=>by simp[o4,hc,hv]⟩);·exact⟨.g (.c a::s) st λG' N'=>by simp[o4,hc,hv]⟩
    ·simp[o4,hc]at h
   |block id b=>exact⟨.g (.c b::.e id::s) st λ_ _=>rfl⟩
   |loop b=>exact⟨.g (.c b::.l b::s) st λ_ _=>rfl⟩
   |exit id=>
    cases hu:unwind id s with|none=>simp[o4,hu,dY]at h|some s'=>exact⟨.g s' st λG' N'=>by simp[o4,hu,dY]⟩
   |ret=>exact⟨.e λ_ _=>rfl⟩
   |opn i b=>
    (rcases bF.aiV (R:=R) H st i with h1|⟨st',h1,_⟩);(·simp only[o4,h1]at h;cases h);·exact⟨.g (.c b::s) st' λG' N'=>by simp only[o4,h1]⟩
   |norm fk keepR b=>exact⟨.n (.c b::s) (st.restrict fk keepR) λ_ _=>rfl⟩
def aaa:∀(n:Nat) {s:List Fr} {st:bF} {r:R},gN D H leave n s st=ae r->gN D H leave (n+1) s st=ae r
 |0,s,st,r,h=>by simp[gN]at h
 |n+1,s,st,r,h=>by
  have h':o4 D H leave (gN D H leave n) (gN D H leave n) s st=ae r:=h
  show o4 D H leave (gN D H leave (n+1)) (gN D H leave (n+1)) s st=ae r
  obtain⟨t⟩:=Wv h'
  cases t with
  |g s' st' e=>rw[e]at h'⊢;exact aaa n h'
  |n s' st' e=>rw[e]at h'⊢;exact aaa n h'
  |e e=>rw[e]at h'⊢;exact h'
def auz{m n:Nat}(hmn:m<=n){s:List Fr}{st:bF}{r:R}(h:gN D H leave m s st=ae r):gN D H leave n s st=ae r:=by induction hmn with|refl=>exact h|step _ ih=>exact aaa _ ih
def xS{s:List Fr}{st:bF}{r:R}:goL D H leave s st=ae r↔∃n,gN D H leave n s st=ae r:=by
 constructor
 ·intro h;unfold goL at h;split at h;·rename_i he;simp only[aq]at h;exact⟨he.choose,h▸he.choose_spec.choose_spec⟩
  ·cases h
 ·rintro⟨n,hn⟩;unfold goL;have he:∃n r,gN D H leave n s st=ae r:=⟨n,r,hn⟩;rw[axc he];have h1:=he.choose_spec.choose_spec;have h2:=auz (adF n he.choose) hn;have h3:=auz (aax n he.choose) h1;rw[h2]at h3;exact h3.symm
def asU(s:List Fr)(st:bF):goL D H leave s st=o4 D H leave (goL D H leave) (goL D H leave) s st:=by
 apply Option.ext;intro r;constructor;·intro h;obtain⟨n,hn⟩:=xS.1 h;have hn:o4 D H leave (gN D H leave n) (gN D H leave n) s st=ae r:=aaa n hn;obtain⟨t⟩:=Wv hn;cases t with|g s' st' e=>rw[e]at hn⊢;exact xS.2 ⟨n,hn⟩|n s' st' e=>rw[e]at hn⊢;exact xS.2 ⟨n,hn⟩|e e=>rw[e]at hn⊢;exact hn
 ·intro h;obtain⟨t⟩:=Wv h;cases t with|g s' st' e=>rw[e]at h;obtain⟨n,hn⟩:=xS.1 h;exact xS.2 ⟨n+1,by rw[gN,e];exact hn⟩|n s' st' e=>rw[e]at h;obtain⟨n,hn⟩:=xS.1 h;exact xS.2 ⟨n+1,by rw[gN,e];exact hn⟩|e e=>rw[e]at h;exact xS.2 ⟨1,by rw[gN,e];exact h⟩
end
def akH{R:Type}(D:List (Nat×Callee))(H:List (Nat×ET))(leave:bF->Option R):∀(n:Nat) (s:List Fr) (st:bF),goL D H leave s st=dn D H leave (goL D H leave) n s st
 |0,s,st=>rfl
 |n+1,s,st=>by
  have ih:dn D H leave (goL D H leave) n=goL D H leave:=by funext s st;exact(akH D H leave n s st).symm
  rw[asU,dn,ih]
def ayx(D:List (Nat×Callee))(H:List (Nat×ET))(fn:Fn)(ps rs os:List MT)(x:FP ps)(n:Nat): (iC D H fn ps rs os).f x=dY (SZ fn (S7 0 ps x)) λst=>dn D H (FV fn ps rs os (lens ps x)) (goL D H (FV fn ps rs os (lens ps x))) n [.c fn.body] st:=by simp only[iC,<-akH]
end Go.Ab
namespace Go.Ab
noncomputable def zt(D:List (Nat×Callee))(g:Nat):Option Def:=(TD D g).map λc=>.alg c.io λ_ ab=>c.cf ab
def aaI(D:List (Nat×Callee))(ex:C->St->Option (Ex×St)):Ty (zt D) ex=cfD D:=by funext f ab;unfold Ty zt cfD;cases TD D f<;>rfl
def akJ(D:List (Nat×Callee)):ait (zt D)=ioD D:=by funext f;unfold ait zt ioD alQ;cases TD D f<;>rfl
def TF(M:Nat->Option Def)(n:Nat)(a b:C)(st:St):exec M (n+1) (.seq a b) st=match exec M n a st with|some (.normal,st')=>exec M n b st'|r=>r:=rfl
def D9(M:Nat->Option Def)(n:Nat)(id:Nat)(b:C)(st:St):exec M (n+1) (.block id b) st=match exec M n b st with|some (.exit j,st')=>if j=id then ae (.normal,st')else ae (.exit j,st')|r=>r:=rfl
def Py(M:Nat->Option Def)(n:Nat)(b:C)(st:St):exec M (n+1) (.loop b) st=match exec M n b st with|some (.normal,st')=>exec M n (.loop b) st'|r=>r:=rfl
def Da(D:List (Nat×Callee)):∀(m:Nat) {c:C} {st:St} {r:Ex×St},exec (zt D) m c st=ae r->exec (zt D) (m+1) c st=ae r
 |0,c,st,r,h=>by simp[exec]at h
 |m+1,c,st,r,h=>by
  cases c with
  |skip=>simpa[exec]using h
  |reg d ops k kr=>
   have e:∀n,exec (zt D) (n+1) (.reg d ops k kr) st=(vn (cfD D) (ait (zt D)) ops ops st).map λst'=>(.normal,st'.restrict k kr):=λn=>by rw[<-aaI D (exec (zt D) n)];rfl
   rw[e]at h⊢;exact h
  |seq a b=>
   rw[TF]at h⊢
   cases ha:exec (zt D) m a st with
   |none=>rw[ha]at h;cases h
   |some p=>
    obtain⟨e,st'⟩:=p
    rw[ha]at h
    rw[Da D m ha]
    cases e with
    |normal=>exact Da D m h
    |exit i=>exact h
    |ret=>exact h
  |cond c a b=>
   have e:∀n,exec (zt D) (n+1) (.cond c a b) st=match c.v st with|.bool t=>exec (zt D) n (if t then a else b) st|_=>ai:=λn=>rfl
   rw[e]at h⊢
   split at h
   ·exact Da D m h
   ·cases h
  |block id b=>
   rw[D9]at h⊢
   cases hb:exec (zt D) m b st with
   |none=>rw[hb]at h;cases h
   |some p=>
    rw[hb]at h
    rw[Da D m hb]
    exact h
  |loop b=>
   rw[Py]at h⊢
   cases hb:exec (zt D) m b st with
   |none=>rw[hb]at h;cases h
   |some p=>
    obtain⟨e,st'⟩:=p
    rw[hb]at h
    rw[Da D m hb]
    cases e with
    |normal=>exact Da D m h
    |exit i=>exact h
    |ret=>exact h
  |exit id=>simpa[exec]using h
  |ret=>simpa[exec]using h
  |norm k kr b=>exact Da D m (show exec (zt D) m b (st.restrict k kr)=ae r from h)
  |opn i b=>exact Da D m (show exec (zt D) m b (st.C6 i)=ae r from h)
  |stop=>simp[exec]at h
def Z9{D:List (Nat×Callee)}{m n:Nat}(hmn:m<=n){c:C}{st:St}{r:Ex×St}(h:exec (zt D) m c st=ae r):exec (zt D) n c st=ae r:=by induction hmn with|refl=>exact h|step _ ih=>exact Da D _ ih
def after(e:Ex)(s:List Fr):Option (List Fr):=
 match e with
 |.normal=>ae s
 |.exit id=>unwind id s
 |.ret=>ae []
inductive Run(D:List (Nat×Callee)):List Fr->St->St->Prop
 |nil (st:St):Run D [] st st
 |e (id:Nat) (s:List Fr) (st f:St) (h:Run D s st f):Run D (.e id::s) st f
 |c (c:C) (s s':List Fr) (st st' f:St) (m:Nat) (ex:Ex) (h:exec (zt D) m c st=ae (ex,st')) (ha:after ex s=ae s') (hr:Run D s' st' f):Run D (.c c::s) st f
 |l (b:C) (s:List Fr) (st f:St) (h:Run D (.c (.loop b)::s) st f):Run D (.l b::s) st f
def Run.seq{D:List (Nat×Callee)}{a b:C}{s:List Fr}{st f:St}(h:Run D (.c a::.c b::s) st f):Run D (.c (.seq a b)::s) st f:=by cases h with|c _ _ s1 _ st1 _ m ex he ha hr=>cases ex with|normal=>(simp only[after,aq]at ha;subst ha;cases hr with|c _ _ s2 _ st2 _ m2 ex2 he2 ha2 hr2=>refine .c _ _ s2 _ st2 _ (max m m2+1) ex2 ?_ ha2 hr2;rw[TF,Z9 (adF m m2) he];exact Z9 (aax m m2) he2)|exit id=>refine .c _ _ s1 _ st1 _ (m+1) (.exit id) ?_ ha hr;rw[TF,he]|ret=>refine .c _ _ s1 _ st1 _ (m+1) .ret ?_ ha hr;rw[TF,he]
def Run.loop{D:List (Nat×Callee)}{b:C}{s:List Fr}{st f:St}(h:Run D (.c b::.l b::s) st f):Run D (.c (.loop b)::s) st f:=by cases h with|c _ _ s1 _ st1 _ m ex he ha hr=>cases ex with|normal=>(simp only[after,aq]at ha;subst ha;cases hr with|l _ _ _ _ hr=>cases hr with|c _ _ s2 _ st2 _ m2 ex2 he2 ha2 hr2=>refine .c _ _ s2 _ st2 _ (max m m2+1) ex2 ?_ ha2 hr2;rw[Py,Z9 (adF m m2) he];exact Z9 (aax m m2) he2)|exit id=>refine .c _ _ s1 _ st1 _ (m+1) (.exit id) ?_ ha hr;rw[Py,he]|ret=>refine .c _ _ s1 _ st1 _ (m+1) .ret ?_ ha hr;rw[Py,he]
def Run.block{D:List (Nat×Callee)}{id:Nat}{b:C}{s:List Fr}{st f:St}(h:Run D (.c b::.e id::s) st f):Run D (.c (.block id b)::s) st f:=by cases h with|c _ _ s1 _ st1 _ m ex he ha hr=>cases ex with|normal=>(simp only[after,aq]at ha;subst ha;cases hr with|e _ _ _ _ hr=>refine .c _ _ s _ st1 _ (m+1) .normal ?_ rfl hr;rw[D9,he])|exit j=>simp only[after,unwind]at ha;by_cases hj:id=j;(·subst hj;simp only[aC,aq]at ha;subst ha;refine .c _ _ s _ st1 _ (m+1) .normal ?_ rfl hr;rw[D9,he];simp only[aC]);·rw[aO hj]at ha;refine .c _ _ s1 _ st1 _ (m+1) (.exit j) ?_ ha hr;rw[D9,he];simp only;rw[aO (λe=>hj e.symm)]|ret=>refine .c _ _ s1 _ st1 _ (m+1) .ret ?_ ha hr;rw[D9,he]
section
variable {R:Type} {D:List (Nat×Callee)} {H:List (Nat×ET)} {leave:bF->Option R}
def BW:∀(n:Nat) {s:List Fr} {st:bF} {r:R},gN D H leave n s st=ae r->∃stf:bF,leave stf=ae r/\Run D s st.a stf.a
 |0,s,st,r,h=>by simp[gN]at h
 |n+1,s,st,r,h=>by
  cases s with
  |nil=>exact⟨st,h,.nil _⟩
  |cons f s=>
   cases f with
   |e i=>
    obtain⟨stf,h1,h2⟩:=BW n (show gN D H leave n s st=ae r from h)
    exact⟨stf,h1,.e _ _ _ _ h2⟩
   |l b=>
    obtain⟨stf,h1,h2⟩:=BW n (show gN D H leave n (.c b::.l b::s) st=ae r from h)
    exact⟨stf,h1,.l _ _ _ _ h2.loop⟩
   |c c=>
    cases c with
    |stop=>simp[gN,o4]at h
    |skip=>
     obtain⟨stf,h1,h2⟩:=BW n (show gN D H leave n s st=ae r from h)
     exact⟨stf,h1,.c _ _ s _ _ _ 1 .normal rfl rfl h2⟩
    |reg d ops fk keepR=>
     obtain⟨st',e1,e2,_⟩:=Ml (R:=R) (D:=D) (H:=H) ops ops st _ r (show kR D H ops ops st (λst'=>gN D H leave n s (st'.restrict fk keepR))=ae r from h)
     obtain⟨stf,h1,h2⟩:=BW n e2
     refine⟨stf,h1,.c _ _ s _ _ _ 1 .normal ?_ rfl h2⟩
     show(vn (Ty (zt D) (exec (zt D) 0)) (ait (zt D)) ops ops st.a).map _=_
     rw[aaI,akJ,e1,az,bF.acu]
    |seq a b=>
     obtain⟨stf,h1,h2⟩:=BW n (show gN D H leave n (.c a::.c b::s) st=ae r from h)
     exact⟨stf,h1,h2.seq⟩
    |cond c a b=>
     by_cases hc:c.ok=ar
     ·cases hv:c.vv st<;>first
       |(simp[gN,o4,hc,hv]at h;done)
       |skip
      rename_i t
      have h':gN D H leave n (.c (if t then a else b)::s) st=ae r:=by cases t<;>simpa[gN,o4,hc,hv]using h
      obtain⟨stf,h1,h2⟩:=BW n h'
      refine⟨stf,h1,?_⟩
      cases h2 with
      |c _ _ s1 _ st1 _ m ex he ha hr=>
       refine .c _ _ s1 _ st1 _ (m+1) ex ?_ ha hr
       show(match c.v st.a with|.bool t=>exec (zt D) m (if t then a else b) st.a|_=>ai)=_
       rw[<-bZ.eW st hc,hv]
       exact he
     ·simp[gN,o4,hc]at h
    |block id b=>
     obtain⟨stf,h1,h2⟩:=BW n (show gN D H leave n (.c b::.e id::s) st=ae r from h)
     exact⟨stf,h1,h2.block⟩
    |loop b=>
     obtain⟨stf,h1,h2⟩:=BW n (show gN D H leave n (.c b::.l b::s) st=ae r from h)
     exact⟨stf,h1,h2.loop⟩
    |exit id=>
     cases hu:unwind id s with
     |none=>simp[gN,o4,hu,dY]at h
     |some s'=>
      obtain⟨stf,h1,h2⟩:=BW n (show gN D H leave n s' st=ae r by simpa[gN,o4,hu,dY]using h)
      exact⟨stf,h1,.c _ _ s' _ _ _ 1 (.exit id) rfl hu h2⟩
    |ret=>exact⟨st,h,.c _ _ [] _ _ _ 1 .ret rfl rfl (.nil _)⟩
    |opn i b=>
     rcases bF.aiV (R:=R) H st i with h0|⟨st',h0,h0a⟩
     ·simp only[gN,o4,h0]at h;cases h
     ·obtain⟨stf,h1,h2⟩:=BW n (show gN D H leave n (.c b::s) st'=ae r by simpa only[gN,o4,h0]using h)
      refine⟨stf,h1,?_⟩
      cases h2 with
      |c _ _ s1 _ st1 _ m ex he ha hr=>
       refine .c _ _ s1 _ st1 _ (m+1) ex ?_ ha hr
       rw[h0a]at he
       exact he
    |norm fk keepR b=>
     obtain⟨stf,h1,h2⟩:=BW n (show gN D H leave n (.c b::s) (st.restrict fk keepR)=ae r from h)
     refine⟨stf,h1,?_⟩
     cases h2 with
     |c _ _ s1 _ st1 _ m ex he ha hr=>
      refine .c _ _ s1 _ st1 _ (m+1) ex ?_ ha hr
      rw[bF.acu]at he
      exact he
def asV{c:C}{st:bF}{r:R}(h:goL D H leave [.c c] st=ae r):∃(stf:bF) (m:Nat) (ex:Ex),leave stf=ae r/\exec (zt D) m c st.a=ae (ex,stf.a)/\(ex=.normal\/ex=.ret):=by obtain⟨n,hn⟩:=xS.1 h;obtain⟨stf,h1,h2⟩:=BW n hn;cases h2 with|c _ _ s1 _ st1 _ m ex he ha hr=>(have:s1=[]/\(ex=.normal\/ex=.ret):=by cases ex with|normal=>simp only[after,aq]at ha;exact⟨ha.symm,.inl rfl⟩|exit id=>simp[after,unwind]at ha|ret=>simp only[after,aq]at ha;exact⟨ha.symm,.inr rfl⟩);obtain⟨rfl,hx⟩:=this;generalize hf:stf.a=f at hr;cases hr with|nil=>exact⟨stf,m,ex,h1,by rw[hf];exact he,hx⟩
end
end Go.Ab
namespace Go.Ab
def atZ(v:V):as1 v.a=arO v:=by cases v<;>rfl
def afP(v:V):R6 v.a=ahA v:=by cases v<;>rfl
def XH:∀(bs:List Bool) (l:List V),Iz bs (l.map V.a)=PO bs l
 |bs,[]=>by cases bs<;>rfl
 | [],v::l=>by simp only[aP,Iz,PO,afP,XH [] l]
 |b::bs,v::l=>by simp only[aP,Iz,PO,afP,XH bs l]
def DJ:∀{l:List V} {i:Nat} {st st1:bF},n7 i l st=ae st1->iO i (l.map V.a) st.a=ae st1.a
 | [],i,st,st1,h=>by simp only[n7,aq]at h;subst h;rfl
 |v::l,i,st,st1,h=>by
  have gen:(∀z x,v≠ .iB z x)->(∀t xs,v≠ .lB t xs)->iO i ((v::l).map V.a) st.a=ae st1.a:=by intro h1 h2;(have e:n7 i (v::l) st=if afS v||arO v then n7 (i+1) l (st.put (ae i) v)else ai:=by cases v<;>first|rfl|exact absurd rfl (h1 _ _)|exact absurd rfl (h2 _ _));rw[e]at h;split at h;(·rename_i hp;have:=DJ h;rw[bF.xp]at this;(have e2:∀a:A,(∀z x,a≠ .iB z [x])->(∀z xs,a≠ .lB z xs)->iO i (a::l.map V.a) st.a=if Ab.pure a||as1 a then iO (i+1) (l.map V.a) (st.a.put (ae i) a)else ai:=by intro a ha hb;rw[iO];(·intro z x e;exact ha _ _ e);·intro z xs e;exact hb _ _ e);rw[aP,e2,ana,atZ,aJ hp,this];(·intro z x e;cases v<;>simp[V.a]at e;exact h1 _ _ rfl);·intro z xs e;cases v<;>simp[V.a]at e;exact h2 _ _ rfl);·cases h
  cases v<;>first
   |(refine gen ?_ ?_<;>(intros;simp;done))
   |skip
  ·rename_i z x
   simp only[n7]at h
   split at h
   ·rename_i st2 e
    have:=DJ h
    rw[bF.xp]at this
    simp only[aP,V.a,iO,ads e,af]
    exact this
   ·cases h
  ·rename_i t xs
   simp only[n7]at h
   split at h
   ·rename_i hi
    have:=DJ h
    rw[bF.xp,bF.ew,bF.ra]at this
    simp only[aP,V.a,iO,aJ hi,aT]
    exact this
   ·cases h
def arL{fn:Fn}{l:List V}{st:bF}(h:SZ fn l=ae st):fn.enter (l.map V.a)=ae st.a:=by
 unfold SZ at h;split at h;·rename_i hc;simp only[aj,ax]at hc;have:=DJ h;unfold Fn.enter;rw[aT,XH,aJ hc];exact this
 ·cases h
section
variable {R:Type}
def awc(st:bF)(r:Rs):bI (R:=R) (vrs st r) λv=>r.v st.a=ae v.a:=by
 cases r with
 |t i=>exact bI.mk (x:=gd st.t i) rfl
 |cell i n=>
  have e:vrs (R:=R) st (.cell i n)=λk=>match gd st.t i with|.loc q j c=>(match dX st.r q with|some (.var _ x)=>(match j with|0=>dY (nr x.cells c n) k|_=>ai)|some (.sl t xs)=>(xs[j]?).bind λx=>dY (nr (t.vs x) c n) k|none=>ai)|_=>ai:=rfl
  rw[e]
  cases hv:gd st.t i<;>(try dsimp only)<;>first
   |exact bI.no
   |skip
  rename_i q j c;cases hq:dX st.r q with|none=>exact bI.no|some R0=>cases R0 with|var z x=>(cases j with|zero=>dsimp only;refine bI.Kx λv hg=> ?_;simp only[Rs.v,bF.XW,hv,V.a,bF.Gu,hq,az,VR.a,af,bg,V.im,tH hg]|succ j=>exact bI.no)|sl t xs=>dsimp only;refine bI.bind λx hx=>bI.Kx λv hg=> ?_;simp only[Rs.v,bF.XW,hv,V.a,bF.Gu,hq,az,VR.a,af,bX,hx];rw[ET.Vx,tH hg]
def afU(st:bF):∀l:List Rs,bI (R:=R) (adq st l) λvs=>OU st.a l=ae (vs.map V.a)
 | []=>bI.mk (x:=[]) rfl
 |r::l=>by
  refine bI.seq (F:=vrs st r) (G:=λa (k:List V->Option R)=>adq st l λxs=>k (a::xs)) (awc st r) λa ha=> ?_
  refine bI.seq (F:=adq st l) (G:=λxs (k:List V->Option R)=>k (a::xs)) (afU st l) λxs hxs=>bI.mk ?_
  simp only[OU,ha,hxs,af,az,aP]
def ajU(ks:List Nat)(v:V):(DW ks v).a=ql ks v.a:=by cases v<;>first|rfl|(simp only[DW,V.a,ql];split<;>rfl)
def aoZ(v:V):Xx v.a=ahB v:=by cases v<;>rfl
def ao0(v:V):Pf v.a=Mm v:=by cases v<;>first|rfl|(simp only[V.a,Pf,Mm,V.fe];exact DP aoZ _)
def VJ{t:ET}(h:t.plain=ar)(xs:List t.ty):(xs.map t.enc).all A.plain=ar:=by rw[uW,aG];exactλx _=>ET.xi t x h
def alT(st:bF)(j:Nat)(own:Bool)(m:MT):bI (R:=R) (λk:V×bF->Option R=>Vt st j own m λx s=>k (x,s)) λp=>st.a.EZ j own=ae (p.1.a,p.2.a):=by
 unfold Vt;refine bI.ite (λho=> ?_) λho=> ?_
 ·subst ho
  cases hv:gd st.t (gs+j)<;>(try dsimp only)<;>first
   |exact bI.no
   |skip
  ·rename_i cs;refine bI.nT λhnd=>bI.dY λys hys=>bI.mk (x:=(V.agg ys,bF.mk st.t (pB st.r (cs.flatMap tJ)))) ?_;simp only[St.EZ,aC,bF.XW,hv,V.a,V.fe,bF.Gu,DP Mk,Pm hys,az,bF.Wu,hnd];rfl
  ·rename_i z
   cases m<;>(try dsimp only)<;>first
    |exact bI.no
    |skip
   rename_i t;refine bI.nT λhz=>bI.mk (x:=(V.tok j t [],st)) ?_;subst hz;simp only[St.EZ,aC,bF.XW,hv,V.a,lT]
  ·rename_i n t xs;refine bI.mk (x:=(V.tok j t xs,st.cX n)) ?_;simp only[St.EZ,aC,bF.XW,hv,V.a,bF.JU]
  ·rename_i q o n;cases hq:dX st.r q with|none=>exact bI.no|some R0=>cases R0 with|var z x=>exact bI.no|sl t xs=>dsimp only;refine bI.mk (x:=(V.tok j t ((Pk o xs).take n),bF.mk st.t (pB st.r [q]))) ?_;simp only[St.EZ,aC,bF.XW,hv,V.a,bF.Gu,hq,az,VR.a,<-WZ,bF.Wu];rfl
  ·rename_i q i c
   have no:(∀k:V->bF->Option R,(match V.loc q i c with
    |.tok n t xs=>k (.tok j t xs) (st.cX n)
    |.jo z=>(match m with|.tok t=>if t.z=z then k (.tok j t []) st else ai|_=>ai)
    |.view q off n=>
     (match dX st.r q with
      |some (.sl t xs)=>k (.tok j t ((Pk off xs).take n)) {st with r:=pB st.r [q]}
      |_=>ai)
    |.loc q 0 0=>
     (match dX st.r q with
      |some (.var z x)=>dY (AK st.r x.cells) λcs=>k (.iB z (kQ x cs)) {st with r:=pB st.r (q::x.cells.flatMap tJ)}
      |_=>ai)
    |_=>ai)=ai)->bI (R:=R) (λk:V×bF->Option R=>match V.loc q i c with
    |.tok n t xs=>k (.tok j t xs,st.cX n)
    |.jo z=>(match m with|.tok t=>if t.z=z then k (.tok j t [],st)else ai|_=>ai)
    |.view q off n=>
     (match dX st.r q with
      |some (.sl t xs)=>k (.tok j t ((Pk off xs).take n),{st with r:=pB st.r [q]})
      |_=>ai)
    |.loc q 0 0=>
     (match dX st.r q with
      |some (.var z x)=>dY (AK st.r x.cells) λcs=>k (.iB z (kQ x cs),{st with r:=pB st.r (q::x.cells.flatMap tJ)})
      |_=>ai)
    |_=>ai) λp=>st.a.EZ j ar=ae (p.1.a,p.2.a):=λh k r hk=>by
     have h2:=h λa b=>k (a,b)
     exact absurd (h2.symm.trans hk) (by simp)
   cases i with|succ i=>exact no λ_=>rfl|zero=>cases c with|succ c=>exact no λ_=>rfl|zero=>show bI (R:=R) (λk:V×bF->Option R=>match dX st.r q with|some (.var z x)=>dY (AK st.r x.cells) λcs=>k (.iB z (kQ x cs),{st with r:=pB st.r (q::x.cells.flatMap tJ)})|_=>ai) _;cases hq:dX st.r q with|none=>exact bI.no|some R0=>cases R0 with|sl t xs=>exact bI.no|var z x=>dsimp only;refine bI.dY λcs hcs=>bI.mk (x:=(V.iB z (kQ x cs),bF.mk st.t (pB st.r (q::x.cells.flatMap tJ)))) ?_;simp only[St.EZ,aC,bF.XW,hv,V.a,bF.Gu,hq,az,VR.a,af,V.im,Pm hcs,qV,DP Mk,bF.Wu];rfl
 ·have hv:=S3 (R:=R) (bF.mk st.t (ado st.r (CE st.r (gd st.t (gs+j))))) (gd st.t (gs+j));rw[bF.avL]at hv;refine bI.seq (F:=uO (bF.mk st.t (ado st.r (CE st.r (gd st.t (gs+j))))).r (gd st.t (gs+j))) (G:=λx (k:V×bF->Option R)=>k (x,{t:=st.t.map λp=>(p.1,AJ (DW (Mm (gd st.t (gs+j)))) p.2),r:=pB st.r (CE st.r (gd st.t (gs+j)))})) hv λx hx=>bI.mk ?_;have ho':own=aw:=by cases own<;>simp at ho⊢
  subst ho';have e1:st.a.EZ j aw=(AH (only st.a.r (names st.a.r (gd st.t (gs+j)).a)) (gd st.t (gs+j)).a).map λx=> (x,{t:=λi=>cJ (ql (Pf (gd st.t (gs+j)).a)) (st.a.t i),r:=less st.a.r (names st.a.r (gd st.t (gs+j)).a)}):=rfl;have e2:(bF.mk (st.t.map λp=>(p.1,AJ (DW (Mm (gd st.t (gs+j)))) p.2)) (pB st.r (CE st.r (gd st.t (gs+j))))).a ={t:=λi=>cJ (ql (Pf (gd st.t (gs+j)).a)) (st.a.t i),r:=less st.a.r (names st.a.r (gd st.t (gs+j)).a)}:=by rw[bF.Wu,adn,ao0];refine St.ext' (λi=> ?_) λi=>rfl;have:=st.afh (f:=AJ (DW (Mm (gd st.t (gs+j))))) (g:=cJ (ql (Mm (gd st.t (gs+j))))) (FU (ajU _)) rfl;exact congrFun (congrArg St.t this) i
  rw[e1,e2,adn,hx];rfl
def adl:∀(bs:List Bool) (ms:List MT) (st:bF) (j:Nat),bI (R:=R) (λk:List V×bF->Option R=>A6 st j bs ms λxs s=>k (xs,s)) λp=>st.a.leaves j bs=ae (p.1.map V.a,p.2.a)/\p.1.length=ms.length
 | [],[],st,j=>by
   have e:(λk:List V×bF->Option R=>A6 st j [] [] λxs s=>k (xs,s))=λk=>k ([],st):=by funext k;rfl
   rw[e]
   exact bI.mk ⟨rfl,rfl⟩
 | [],_::_,st,j=>by
   have e:∀m ms,(λk:List V×bF->Option R=>A6 st j [] (m::ms) λxs s=>k (xs,s))=λk=>ai:=by intro m ms;funext k;rfl
   rw[e];exact bI.no
 |_::_,[],st,j=>by
  have e:∀b bs,(λk:List V×bF->Option R=>A6 st j (b::bs) [] λxs s=>k (xs,s))=λk=>ai:=by intro b bs;funext k;rfl
  rw[e];exact bI.no
 |b::bs,m::ms,st,j=>by
  have e:(λk:List V×bF->Option R=>A6 st j (b::bs) (m::ms) λxs s=>k (xs,s))=λk=>Vt st j b m λx st1=>A6 st1 (j+1) bs ms λxs st2=>k (x::xs,st2):=by funext k;rfl
  rw[e]
  refine bI.seq (F:=λk:V×bF->Option R=>Vt st j b m λx s=>k (x,s)) (G:=λp (k:List V×bF->Option R)=>A6 p.2 (j+1) bs ms λxs st2=>k (p.1::xs,st2)) (alT st j b m) λp hp=> ?_
  refine bI.seq (F:=λk:List V×bF->Option R=>A6 p.2 (j+1) bs ms λxs s=>k (xs,s)) (G:=λr (k:List V×bF->Option R)=>k (p.1::r.1,r.2)) (adl bs ms p.2 (j+1)) λr hr=>bI.mk ⟨?_,?_⟩
  ·simp only[St.leaves,hp,af,hr.1,az,aP]
  ·simp only[bh,hr.2]
def FW(st:bF):∀(ms:List MT) (i:Nat) (x:FP ms),zP ms=ar->bI (R:=R) (zU st i ms (lens ms x)) λws=>∀j,Ab.outs st.a i ((S7 j ms x).map V.a)=ae (ws.map V.a)
 | [],i,_,_=>bI.mk (x:=[]) λ_=>rfl
 |.d t::ms,i,x,hn=>by
  refine(FW st ms (i+1) x.2 hn).k9 λws hw j=> ?_
  have:∀a:A,R6 a=aw->∀l,Ab.outs st.a i (a::l)=Ab.outs st.a (i+1) l:=λa ha l=>by cases a<;>first|rfl|(simp[R6]at ha)
  simp only[S7,aP]
  rw[this,hw]
  rw[MT.v,ET.VE]
  cases t with
  |one c=>cases c<;>rfl
  |agg cs=>rfl
 |.p t::ms,i,x,hn=>(FW st ms (i+1) x.2 hn).k9 λws hw j=>hw (j+1)
 |.tok t::ms,i,x,hn=>by simp[zP]at hn
 |.fn f ts::ms,i,x,hn=>(FW st ms (i+1) x.2 hn).k9 λws hw j=>hw (j+1)
 |.gone::ms,i,x,hn=>by
  have e:zU (R:=R) st i (.gone::ms) (lens (.gone::ms) x)=λk=>ai:=by funext k;rfl
  rw[e];exact bI.no
 |.box t::ms,i,x,hn=>by
  have e:zU (R:=R) st i (.box t::ms) (lens (.box t::ms) x)=λk=>match dX st.r i with
   |some (.var z x')=>if ah (z=t.z)&&ah (i<1000)then dY (AK st.r x'.cells) λcs=>zU st (i+1) ms (lens ms x.2) λr=>k (.iB z (kQ x' cs)::r)else ai
   |_=>ai:=rfl
  rw[e]
  cases hq:dX st.r i with
  |none=>exact bI.no
  |some R0=>
   cases R0 with
   |sl u xs=>exact bI.no
   |var z y=>
    dsimp only
    refine bI.nT λhc=>bI.dY λcs hcs=> ?_
    simp only[aj,ax]at hc
    refine bI.seq (F:=zU st (i+1) ms (lens ms x.2)) (G:=λr (k:List V->Option R)=>k (.iB z (kQ y cs)::r)) (FW st ms (i+1) x.2 hn) λr hr=>bI.mk λj=> ?_
    simp only[S7,aP,MT.v,V.a,Ab.outs,bF.Gu,hq,az,VR.a,af,hc,mV,aC,V.im,Pm hcs,hr,qV]
 |.lB t::ms,i,x,hn=>by
  have e:zU (R:=R) st i (.lB t::ms) (lens (.lB t::ms) x)=λk=>match dX st.r i with
   |some (.sl u ys)=>if ah (u.z=t.z)&&ah (i<1000)then(if ah (ys.length=x.1.length)then zU st (i+1) ms (lens ms x.2) λr=>k (.lB u ys::r)else ai)else ai
   |none=>zU st (i+1) ms (lens ms x.2) λr=>k (.any::r)
   |_=>ai:=rfl
  rw[e]
  cases hq:dX st.r i with
  |none=>
   dsimp only
   refine bI.seq (F:=zU st (i+1) ms (lens ms x.2)) (G:=λr (k:List V->Option R)=>k (.any::r)) (FW st ms (i+1) x.2 hn) λr hr=>bI.mk λj=> ?_
   simp only[S7,aP,MT.v,V.a,Ab.outs,bF.Gu,hq,cT,hr,az]
  |some R0=>
   cases R0 with
   |var u xs=>exact bI.no
   |sl u ys=>
    dsimp only
    refine bI.nT λhc=>bI.nT λhl=> ?_
    simp only[aj,ax]at hc hl
    refine bI.seq (F:=zU st (i+1) ms (lens ms x.2)) (G:=λr (k:List V->Option R)=>k (.lB u ys::r)) (FW st ms (i+1) x.2 hn) λr hr=>bI.mk λj=> ?_
    simp only[S7,aP,MT.v,V.a,Ab.outs,bF.Gu,hq,az,VR.a,af,hc,hl,aT,mV,aC,hr]
def aoV{fn:Fn}{ps rs os:List MT}{x:FP ps}{st:bF}{y:QM (rs++os)}(hn:zP ps=ar)(h:FV fn ps rs os (lens ps x) st=ae y): ∃vs ws:List V,fn.leave (Gd ps x) st.a=ae (vs.map V.a,ws.map V.a)/\vs.length=rs.length/\of1 (rs++os) (vs++ws)=ae y:=by
 unfold FV at h;split at h;·rename_i hl;simp only[ax]at hl;obtain⟨ab,has,h,_⟩:=afU st fn.res _ y h;obtain⟨p,hp,h,_⟩:=adl fn.own rs (st.lay ab) 0 (λp=>zU {p.2 with r:=pB p.2.r fn.gone} 0 ps (lens ps x) λws=>of1 (rs++os) (p.1++ws)) y h;obtain⟨ws,hws,h,_⟩:=FW {p.2 with r:=pB p.2.r fn.gone} ps 0 x hn _ y h;refine⟨p.1,ws,?_,hp.2,h⟩;have h1:=hp.1;rw[bF.aqC]at h1;simp only[Fn.leave,aJ hl,has,af,h1];have e1:(bF.a {p.2 with r:=pB p.2.r fn.gone})={p.2.a with r:=Ab.less p.2.a.r fn.gone}:=bF.Wu p.2 p.2.t fn.gone;rw[Gd,<-e1,hws 0];rfl
 ·cases h
end
end Go.Ab
namespace Go.Ab
inductive apN:A->A->Prop
 |refl (a:A):apN a a
 |jo (z:Nat):apN (.jo z) (.own z [])
inductive sq:List A->List A->Prop
 |nil:sq [] []
 |cons (a b:A) (l m:List A) (h:apN a b) (t:sq l m):sq (a::l) (b::m)
inductive Ro:List A->List A->Prop
 |refl (l:List A):Ro l l
 |ptr (cs:List A) (c n:Nat) (l m:List A) (t:Ro l m):Ro (.ptr cs c::l) (.ptr ((cs.drop c).take n) 0::m)
inductive adH:A->A->Prop
 |refl (a:A):adH a a
 |ptr (cs:List A) (c n:Nat):adH (.ptr cs c) (.ptr ((cs.drop c).take n) 0)
 |tok (k j z:Nat) (xs:List A):adH (.tok k z xs) (.tok j z xs)
 |iB (z:Nat) (x y:A) (h:sq x.cells y.cells):adH (.iB z [x]) (.iB z [y])
 |fn (f:Nat) (l m:List A) (h:Ro l m):adH (.fn f l) (.fn f m)
inductive uP:List A->List A->Prop
 |nil:uP [] []
 |cons (a b:A) (l m:List A) (h:adH a b) (t:uP l m):uP (a::l) (b::m)
def sq.refl:∀l:List A,sq l l
 | []=>.nil
 |a::l=>.cons _ _ _ _ (.refl a) (sq.refl l)
def sq.len{l m:List A}(h:sq l m):l.length=m.length:=by induction h with|nil=>rfl|cons a b l m h t ih=>simp[ih]
section
variable {φ:Nat->Nat} {w:World} {K:Nat->Prop}
def dj.k9{vs:List Value}{l m:List A}{bs:List Nat}(h:dj φ w K vs l bs)(hw:sq l m):dj φ w K vs m bs:=by induction h generalizing m with|nil=>cases hw;exact .nil|cons v a b vs ab bs h t ih=>cases hw with|cons _ a' _ m' h1 h2=>refine .cons _ _ _ _ _ _ ?_ (ih h2);cases h1 with|refl=>exact h|jo z=>cases h with|data _ hr ha=>cases hr;exact .own _ _ _ _ (.empty _ _)
def jE.k9{v:Value}{z:Nat}{x y:A}{bs:List Nat}(h:jE φ w K v z x bs)(hw:sq x.cells y.cells):jE φ w K v z y bs:=by cases h with|mk b o z x vs bs h hv hr hz=>exact .mk b o z y vs bs (h.k9 hw) hv hr (hw.len▸hz)
def iD.adv{v:Value}{cs:List A}{c:Nat}(h:iD φ w K v (.ptr cs c))(n:Nat):iD φ w K v (.ptr ((cs.drop c).take n) 0):=by cases h with|ptr b o c cs vs hb h hv=>exact .ptr b (o+c) 0 _ ((vs.drop c).take n) hb ((h.drop c).take n) ((hv.drop c).take n)
def cW.axO{vs:List Value}{l m:List A}(h:cW φ w K vs l)(hw:Ro l m):cW φ w K vs m:=by induction hw generalizing vs with|refl=>exact h|ptr cs c n l m t ih=>cases h with|cons v _ vs _ h1 h2=>exact .cons _ _ _ _ (h1.adv n) (ih h2)
def iD.ane{v:Value}{f:Nat}{l m:List A}(h:iD φ w K v (.fn f l))(hw:Ro l m):iD φ w K v (.fn f m):=by cases h with|fn _ _ vs h=>exact .fn _ _ vs (h.axO hw)
def H0.k9{v:Value}{a b:A}{bs:List Nat}(h:H0 φ w K v a bs)(hw:adH a b):H0 φ w K v b bs:=by cases hw with|refl=>exact h|ptr cs c n=>(cases h with|data _ hr=>exact .data _ _ (hr.adv n))|tok k j z xs=>(cases h with|data _ hr=>cases hr)|iB z x y hc=>(cases h with|data _ hr=>cases hr|iB _ _ _ hb=>exact .iB _ _ _ _ (hb.k9 hc))|fn f l m hl=>cases h with|data _ hr=>exact .data _ _ (hr.ane hl)
def so.k9{v:Value}{a b:A}{bs:List Nat}(h:so φ w K v a bs)(hw:adH a b):so φ w K v b bs:=by cases hw with|refl=>exact h|ptr cs c n=>(cases h with|data _ hr=>exact .data _ _ (hr.adv n))|tok k j z xs=>(cases h with|data _ hr=>cases hr|tok _ _ _ b ho=>exact .tok _ _ _ _ _ ho)|iB z x y hc=>(cases h with|data _ hr=>cases hr|iB _ _ _ hb=>exact .iB _ _ _ _ (hb.k9 hc))|fn f l m hl=>cases h with|data _ hr=>exact .data _ _ (hr.ane hl)
def fL.k9{vs:List Value}{l m:List A}{bs:List Nat}(h:fL φ w K vs l bs)(hw:uP l m):fL φ w K vs m bs:=by induction h generalizing m with|nil=>cases hw;exact .nil|cons v a b vs ab bs h t ih=>cases hw with|cons _ a' _ m' h1 h2=>exact .cons _ _ _ _ _ _ (h.k9 h1) (ih h2)
def fZ.k9{vs:List Value}{l m:List A}{bs:List Nat}(h:fZ φ w K vs l bs)(hw:uP l m):fZ φ w K vs m bs:=by induction h generalizing m with|nil=>cases hw;exact .nil|cons v a b vs ab bs h t ih=>cases hw with|cons _ a' _ m' h1 h2=>exact .cons _ _ _ _ _ _ (h.k9 h1) (ih h2)
def jc.k9{vs:List Value}{ab as0 os os1:List A}{bs:List Nat}(h:jc φ w K vs ab os bs)(ha:uP as0 ab)(ho:uP os os1):jc φ w K vs as0 os1 bs:=by induction h generalizing as0 os1 with|nil=>cases ha;cases ho;exact .nil|data v a vs ab os bs h t ih=>(cases ha with|cons a0 _ l _ h1 h2=>refine .data _ _ _ _ _ _ ?_ (ih h2 ho);cases h1 with|refl=>exact h|ptr=>exact⟨by intros;simp,by intros;simp⟩|tok=>exact⟨by intros;simp,by intros;simp⟩|iB z x y _=>exact absurd rfl (h.1 z [y])|fn=>exact⟨by intros;simp,by intros;simp⟩)|iB v z x y b vs ab os bs h t ih=>(cases ha with|cons a0 _ l _ h1 h2=>cases ho with|cons _ o1 _ m h3 h4=>(have:∃x0,a0=.iB z [x0]:=by cases h1<;>exact⟨_,rfl⟩);obtain⟨x0,rfl⟩:=this;cases h3 with|refl=>exact .iB _ _ _ _ _ _ _ _ _ h (ih h2 h4)|iB _ _ y1 hc=>exact .iB _ _ _ _ _ _ _ _ _ (h.k9 hc) (ih h2 h4))|lB v z xs ys b vs ab os bs h hl t ih=>(cases ha with|cons a0 _ l _ h1 h2=>cases ho with|cons _ o1 _ m h3 h4=>cases h1;cases h3;exact .lB _ _ _ _ _ _ _ _ _ h hl (ih h2 h4))|gone v z xs vs ab os bs t ih=>cases ha with|cons a0 _ l _ h1 h2=>cases ho with|cons _ o1 _ m h3 h4=>cases h1;cases h3;exact .gone _ _ _ _ _ _ _ (ih h2 h4)
end
def dB.k9{P:Program}{φ:Nat->Nat}{f:Nat}{ab as0 res res1 outs outs1:List A}(h:dB P φ f ab res outs)(ha:uP as0 ab)(hr:uP res res1)(ho:uP outs outs1):dB P φ f as0 res1 outs1:=by intro w K vs bs h1 h2 h3 h4 h5;refine(h w K vs bs (h1.k9 ha) h2 h3 h4 h5).mono λe w' hb=> ?_;obtain⟨v,he,hb⟩:=hb;refine⟨v,he,hb.grow,hb.frame,hb.env,hb.fr,hb.room,?_⟩;obtain⟨rvs,K',rb,ob,e1,e2,e3,e4,e5,e6⟩:=hb.rest;exact⟨rvs,K',rb,ob,e1,e2,e3,e4.k9 hr,e5.k9 ha ho,e6⟩
def CT.amr(c:CT)(x:c.ty):c.enc x≠ .any:=by cases c<;>(intro h;cases h)
def abK:∀(cs:rB) (l:List A),sq l (afn cs l)
 |.nil,l=>by
  have:afn .nil l=l:=by cases l<;>rfl
  rw[this];exact sq.refl l
 |.cons c cs,[]=>.nil
 |.cons c cs,a::l=>by
  refine .cons _ _ _ _ ?_ (abK cs l)
  unfold afm
  split
  ·split
   ·exact .jo _
   ·exact .refl _
  ·exact .refl _
def ak1(t:ET)(x:A):sq x.cells (afo t x).cells:=by cases t with|one c=>simp only[afo,afm];split;(·split;(·exact .cons _ _ _ _ (.jo _) .nil);·exact sq.refl _);·exact sq.refl _|agg cs=>unfold afo;split;(·rename_i h;cases h);(·rename_i h;cases h;exact abK _ _);·exact sq.refl _
def abL{t:ET}{cs:List A}{c:Nat}{x:t.ty}(h:A.ptr (agQ t cs c).cells 0=.ptr ((t.vs x).map V.a) 0):(agQ t cs c).cells=(cs.drop c).take t.z:=by
 cases t with
 |one c0=>
  have h':=h;simp only[A.ptr.injEq,pe]at h';rw[<-ET.Vx]at h';simp only[ET.enc,CT.tO]at h';rw[h'];simp only[agQ]at h'
  cases hc:cs[c]? with
  |none=>
   rw[hc]at h';simp only[o9,A.cells,ej,pe]at h';exact absurd h'.symm (CT.amr c0 x)
  |some d=>
   rw[hc]at h';(have hd:(cs.drop c).take 1=[d]:=by(have hlt:c<cs.length:=by(rcases bH c cs.length with h1|h1);(·exact h1);·rw[bB h1]at hc;cases hc);rw[bf hlt];rw[ay hlt]at hc;simp only[aq]at hc;simp[hc]);simp only[ET.z,hd];simp only[eJ]at h'
   cases d<;>simp only[A.cells,ej,pe]at h'<;>first
    |exact absurd h'.symm (CT.amr c0 x)
    |rw[h']
 |agg us=>rfl
def abJ:∀{ts:List ET} {l:List A} {x:alL ts},MK ts l=(vsE ts x).map V.a->Ro l (MK ts l)
 | [],l,_,_=>by
   have:MK [] l=l:=by cases l<;>rfl
   rw[this];exact .refl _
 |t::ts,[],_,h=>by simp[MK,vsE]at h
 |t::ts,a::l,x,h=>by
  by_cases ha:∃cs c,a=.ptr cs c
  ·obtain⟨cs,c,rfl⟩:=ha
   simp only[MK,vsE,aP,ej,V.a,V.fe]at h⊢
   rw[abL h.1]
   exact .ptr _ _ _ _ _ (abJ h.2)
  ·have:MK (t::ts) (a::l)=a::l:=by
    unfold MK
    split
    ·rename_i e1 e2;cases e2;exact absurd ⟨_,_,rfl⟩ ha
    ·rfl
   rw[this];exact .refl _
def MT.As{m:MT}{a:A}{x:m.ty}{j:Nat}(h:m.norm a=m.enc j x):adH a (m.enc j x):=by
 rw[<-h];unfold MT.norm;split
 ·rename_i f ts g l;refine .fn _ _ _ ?_;have h':A.fn g (MK ts l)=.fn f ((vsE ts x).map V.a):=by have:=h;simp only[MT.norm,MT.enc,MT.v,V.a,V.fe]at this;exact this
  simp only[A.fn.injEq]at h';exact abJ h'.2
 ·rename_i t cs c;have h':A.ptr (agQ t cs c).cells 0=.ptr ((t.vs x).map V.a) 0:=by have:=h;simp only[MT.norm,MT.enc,MT.v,V.a,V.fe]at this;exact this
  rw[abL h'];exact .ptr _ _ _
 ·exact .iB _ _ _ (ak1 _ _)
 ·exact .refl _
def Sb:∀{ms:List MT} {ab:List A} {x:FP ms} {j:Nat},yJ ms ab=(S7 j ms x).map V.a->uP ab ((S7 j ms x).map V.a)
 | [],[],_,_,_=>.nil
 | [],_::_,_,_,h=>by simp[yJ,S7]at h
 |m::ms,[],_,_,h=>by simp[yJ,S7]at h
 |m::ms,a::ab,x,j,h=>by
  simp only[yJ,S7,aP,ej]at h
  exact .cons _ _ _ _ (MT.As h.1) (Sb h.2)
def MT.amP{m:MT}{v:V}{x:m.ty}(h:m.of v=ae x)(j:Nat):adH v.a (m.enc j x):=by cases m with|tok t=>(cases v<;>simp only[MT.of]at h<;>first|cases h|skip);obtain⟨rfl,h⟩:=xM h;cases h;exact .tok _ _ _ _|d t=>exact MT.As (MT.ak2 (by intro t h;cases h) h j)|p t=>exact MT.As (MT.ak2 (by intro t h;cases h) h j)|box t=>exact MT.As (MT.ak2 (by intro t h;cases h) h j)|lB t=>exact MT.As (MT.ak2 (by intro t h;cases h) h j)|fn f ts=>exact MT.As (MT.ak2 (by intro t h;cases h) h j)|gone=>exact MT.As (MT.ak2 (by intro t h;cases h) h j)
def aiR:∀{ms:List MT} {l:List V} {y:QM ms} {j:Nat},of1 ms l=ae y->uP (l.map V.a) ((vs1 j ms y).map V.a)
 | [],[],_,_,_=>.nil
 | [],_::_,_,_,h=>by simp[of1]at h
 | [m],[],_,_,h=>by simp[of1]at h
 | [m],[v],y,j,h=>.cons _ _ _ _ (MT.amP h j) .nil
 | [m],_::_::_,_,_,h=>by simp[of1]at h
 |m::n::ms,[],_,_,h=>by simp[of1]at h
 |m::n::ms,v::l,y,j,h=>by
  simp only[of1]at h
  split at h
  ·rename_i x z e1 e2
   simp only[aq]at h;subst h
   exact .cons _ _ _ _ (MT.amP e1 j) (aiR e2)
  ·cases h
def uP.split{l1 l2 m:List A}(h:uP (l1++l2) m):uP l1 (m.take l1.length)/\uP l2 (m.drop l1.length):=by induction l1 generalizing m with|nil=>exact⟨by simpa using uP.nil,by simpa using h⟩|cons a l ih=>cases h with|cons _ b _ m' h1 h2=>obtain⟨i1,i2⟩:=ih h2;exact⟨.cons _ _ _ _ h1 i1,i2⟩
def DOk(P:Program)(φ:Nat->Nat)(D:List (Nat×Callee)):Prop:=
 ∀g c,TD D g=ae c->jR P (φ g)/\∀ab res outs,c.cf ab=ae (res,outs)->dB P φ g ab res outs
def r6(P:Program)(φ:Nat->Nat)(g:Nat)(c:Callee):Prop:=jR P (φ g)/\∀ab res outs,c.cf ab=ae (res,outs)->dB P φ g ab res outs
def DOk.nil{P:Program}{φ:Nat->Nat}:DOk P φ []:=λg c h=>by simp[TD]at h
def DOk.cons{P:Program}{φ:Nat->Nat}{D:List (Nat×Callee)}{g:Nat}{c:Callee}(h:r6 P φ g c)(hD:DOk P φ D):DOk P φ ((g,c)::D):=λg' c' h'=>by
 simp only[TD]at h';split at h';·rename_i e;simp only[aq]at h';subst h';subst e;exact h
 ·exact hD g' c' h'
def aaQ(P:Program)(φ:Nat->Nat)(g:Nat)(fn:Fn):Bool:=
 match P.funcs[φ g]? with
 |some mf=>
  match mf.body with
  |some c=> !(mf.name== "runtime.NumGoroutine")&&(gC P φ mf.ntmps (aiI fn.io 0 fn.gone) fn.body c&&(Jn P mf.results.toList fn.res&&ah (fn.np≤mf.ntmps)))
  |none=>aw
 |none=>aw
def ain{P:Program}{φ:Nat->Nat}(hm:P.follows .mixedOrders=ar){D:List (Nat×Callee)}(hD:DOk P φ D){g:Nat}{fn:Fn}(hc:aaQ P φ g fn=ar)(H:List (Nat×ET))(ps rs os:List MT): r6 P φ g (iC D H fn ps rs os):=by
 have hir:∃mf c,P.funcs[φ g]? =ae mf∧mf.name≠ "runtime.NumGoroutine" ∧mf.body=ae c∧gC P φ mf.ntmps (aiI fn.io 0 fn.gone) fn.body c=ar∧Jn P mf.results.toList fn.res=ar∧fn.np≤mf.ntmps:=by unfold aaQ at hc;split at hc;(·rename_i mf e1;split at hc;(·rename_i c e2;simp only[aj,cn,fj,ax]at hc;exact⟨mf,c,e1,hc.1,e2,hc.2.1,hc.2.2.1,hc.2.2.2⟩);·cases hc);·cases hc
 refine⟨?_,λab res outs h=> ?_⟩;·obtain⟨mf,c,e1,e2,e3,_⟩:=hir;exact⟨mf,e1,e2,by rw[e3];rfl⟩
 ·unfold Callee.cf at h;split at h;·rename_i hx;obtain⟨y,hy,h⟩:=au.1 h;obtain⟨ht,hn⟩:=hx.choose_spec;generalize hx.choose=x at hy hn;have ht:zP ps=ar:=ht;have hy':dY (SZ fn (S7 0 ps x)) (λst=>goL D H (FV fn ps rs os (lens ps x)) [.c fn.body] st)=ae y:=hy;cases he:SZ fn (S7 0 ps x)with|none=>rw[he]at hy';cases hy'|some st0=>rw[he]at hy';obtain⟨stf,m,ex,hl,hex,hxe⟩:=asV (show goL D H _ _ _=ae y from hy');obtain⟨vs,ws,hleave,hlen,hof⟩:=aoV ht hl;have hen:=arL he;(have hMD:af6 P φ (zt D):=by refine⟨λf fn' hf=> ?_,λf io gg hf args res outs hg=> ?_⟩;(·unfold zt at hf;cases hd:TD D f<;>rw[hd]at hf<;>simp at hf);·unfold zt at hf;cases hd:TD D f with|none=>rw[hd]at hf;simp at hf|some c=>rw[hd]at hf;simp only[az,aq,Def.alg.injEq]at hf;obtain⟨rfl,rfl⟩:=hf;exact⟨(hD f c hd).1,(hD f c hd).2 args res outs hg⟩);(have hM:af6 P φ (λk=>if k=g then ae (.ir fn)else ai):=by refine⟨λf fn' hf=> ?_,λf io gg hf=> ?_⟩;(·split at hf;(·rename_i e;simp only[aq,Def.ir.injEq]at hf;subst hf;subst e;exact hir);·cases hf);·split at hf<;>cases hf);have hcf:=ah4 hM (avk hm hMD m);(have hrun:Ty (λk=>if k=g then ae (.ir fn)else ai) (exec (zt D) m) g (Gd ps x)=ae (vs.map V.a,ws.map V.a):=by unfold Ty;simp only[aC];rw[show Gd ps x=(S7 0 ps x).map V.a from rfl,hen];simp only[af,hex];(rcases hxe with rfl|rfl);(·exact hleave);·exact hleave);have hok:=(hcf g _ _ _ hrun).2;have hw:=aiR (j:=0) hof;rw[eu]at hw;obtain⟨w1,w2⟩:=hw.split;rw[aT,hlen,<-kV]at w1;rw[aT,hlen,<-jy]at w2;have hres:(res,outs)=M9 (iC D H fn ps rs os) y:=h.symm;simp only[M9,be]at hres;rw[hres.1,hres.2];exact hok.k9 (Sb hn) w1 w2
  ·cases h
end Go.Ab
namespace Go.Ab
open Go.ChangeShapes Go.WideShapes Go.ChangeAt Go.RowKit
mutual
def CT.wf:(c:CT)->c.ty->Prop
 |.bool,_=>True
 |.int k,n=>(Lit.int k n).wf=ar
 |.str,s=>s.length<=Go.maxLen
 |.sl t,xs=>xs.length<=Go.maxLen/\∀x∈xs,t.wf x
 |.own t,xs=>False
def ET.wf:(t:ET)->t.ty->Prop
 |.one c,x=>c.wf x
 |.agg cs,x=>cs.wf x
def rB.wf:(cs:rB)->cs.ty->Prop
 |.nil,_=>True
 |.cons c cs,x=>c.wf x.1/\cs.wf x.2
end
mutual
def aoM(P:Program):Nat->TypeId->rB->Option (Nat×rB)
 |0,_,_=>ai
 |n+1,t,cs=>
  match P.underlying t with
  |some .bool=>(match cs with|.cons .bool r=>ae (1,r)|_=>ai)
  |some (.int k)=>(match cs with|.cons (.int k') r=>if k=k' then ae (1,r)else ai|_=>ai)
  |some .string=>(match cs with|.cons .str r=>ae (1,r)|_=>ai)
  |some (.slice e)=>(match cs with|.cons (.sl E) r=>if aid P n e E then ae (1,r)else ai|_=>ai)
  |some (.struct fs)=>(match anY P n fs.toList 0 cs with|some (u,r)=>if P.cellsOf t=u then ae (u,r)else ai|none=>ai)
  |_=>ai
def anY(P:Program):Nat->List Field->Nat->rB->Option (Nat×rB)
 |0,_,_,_=>ai
 |n+1,[],pos,cs=>ae (pos,cs)
 |n+1,f::fs,pos,cs=>
  match aoM P n f.type cs with
  |some (u,r)=>if f.offset=pos/\P.cellsOf f.type=u then anY P n fs (pos+u) r else ai
  |none=>ai
def aid(P:Program):Nat->TypeId->ET->Bool
 |0,_,_=>aw
 |n+1,e,.agg us=>
  match aoM P n e us with
  |some (u,.nil)=>ah (P.cellsOf e=u)&&ah (us.len=u)&&ah (0<u)
  |_=>aw
 |n+1,e,.one c=>
  match aoM P n e (.cons c .nil)with
  |some (u,.nil)=>ah (P.cellsOf e=u)&&ah (u=1)
  |_=>aw
end
section
variable {H:Type} {enc:TypeId×Value->H} {P:Program} {φ:Nat->Nat} {w:World} {base:Nat} {sp:Nat->Bool} {held:Bool}
def Pre(φ:Nat->Nat)(w:World)(vals:List Value)(cs r:rB):Prop:=
 ∀(vals2:List Value) (y:r.ty),cW φ w (λb=>b<w.heap.size) vals2 (r.enc y)->r.wf y->∃x:cs.ty,cW φ w (λb=>b<w.heap.size) (vals++vals2) (cs.enc x)/\cs.wf x
def Pre.one{v:Value}{c:CT}{r:rB}(x:c.ty)(h:iD φ w (λb=>b<w.heap.size) v (c.enc x))(hw:c.wf x):Pre φ w [v] (.cons c r) r:=
 λvals2 y hy hwy=>⟨(x,y),.cons _ _ _ _ h hy,hw,hwy⟩
def ag5:∀(n:Nat),
 (∀(t:TypeId) (cs:rB) (u:Nat) (r:rB) (fuel:Nat) (vals:List Value) (x:DataW H×List MemPlace),aoM P n t cs=ae (u,r)->ank enc P w base sp held fuel t vals=ae x->vals.length=u/\Pre φ w vals cs r)/\
 (∀(fs:List Field) (pos:Nat) (cs:rB) (u:Nat) (r:rB) (vals:List Value),anY P n fs pos cs=ae (u,r)->vals.length=u->
   (∀f∈fs,∃fuel x,ank enc P w base sp held fuel f.type ((vals.drop f.offset).take (P.cellsOf f.type))=ae x)->Pre φ w (vals.drop pos) cs r)/\
 (∀(e:TypeId) (E:ET) (fuel:Nat) (vals:List Value) (x:DataW H×List MemPlace),aid P n e E=ar->ank enc P w base sp held fuel e vals=ae x->
   vals.length=P.cellsOf e/\P.cellsOf e=E.z/\0<E.z/\∃y:E.ty,cW φ w (λb=>b<w.heap.size) vals (E.enc y).cells/\E.wf y)
 |0=>⟨λt cs u r fuel vals x h=>by simp[aoM]at h,λfs pos cs u r vals h=>by simp[anY]at h,λe E fuel vals x h=>by simp[aid]at h⟩
 |n+1=>by
  obtain⟨ih1,ih2,ih3⟩:=ag5 n
  refine⟨λt cs u r fuel vals x h ht=> ?_,λfs pos cs u r vals h hl hf=> ?_,λe E fuel vals x h ht=> ?_⟩
  ·unfold aoM at h
   split at h
   ·rename_i hu
    obtain⟨b,rfl,rfl⟩:=DataW.trod_bool hu ht
    split at h
    ·simp only[aq,be]at h
     obtain⟨rfl,rfl⟩:=h
     exact⟨rfl,Pre.one (c:=.bool) b (.bool b) trivial⟩
    ·cases h
   ·rename_i k hu
    obtain⟨m,rfl,rfl,hw⟩:=DataW.trod_int hu ht
    split at h
    ·split at h
     ·rename_i hk
      subst hk
      simp only[aq,be]at h
      obtain⟨rfl,rfl⟩:=h
      exact⟨rfl,Pre.one (c:=.int k) m (.int k m) hw⟩
     ·cases h
    ·cases h
   ·rename_i hu
    obtain⟨s,rfl,rfl,hs⟩:=DataW.trod_string hu ht
    split at h
    ·simp only[aq,be]at h
     obtain⟨rfl,rfl⟩:=h
     refine⟨rfl,Pre.one (c:=.str) s.data.toList ?_ ?_⟩
     ·have:s=⟨s.data.toList.toArray⟩:=by cases s;simp
      exact this▸iD.str s.data.toList
     ·show s.data.toList.length<=_
      simpa using hs
    ·cases h
   ·rename_i e hu
    split at h
    ·rename_i E r'
     split at h
     ·rename_i hE
      simp only[aq,be]at h
      obtain⟨rfl,rfl⟩:=h
      rcases Go.Deep.open_slice hu ht with ⟨rfl,_⟩|⟨a,len,cap,m,fu,Dd,Pl,rfl,hb,hlc,hcm,hm,_,hx⟩
      ·exact⟨rfl,Pre.one (c:=.sl E) [] (.No ai 0 _) ⟨iW _,by intro x hx;cases hx⟩⟩
      ·refine⟨rfl,?_⟩
       have hlm:len<=m:=by rw[hm];split<;>omega
       have els:∀i,i<len->∃(cs':List Value) (y:E.ty),w.cells? base (a.add (i*P.cellsOf e)) (P.cellsOf e)=ae cs'/\cs'.length=E.z/\P.cellsOf e=E.z/\0<E.z/\cW φ w (λb=>b<w.heap.size) cs' (E.enc y).cells/\E.wf y:=λi hi=>by obtain⟨cs',h1,h2⟩:=hx i (by omega);obtain⟨g1,g2,g3,y,g4,g5⟩:=ih3 e E fu cs' _ hE h2;exact⟨cs',y,h1,by omega,g2,g3,g4,g5⟩
       by_cases h0:len=0
       ·subst h0
        exact Pre.one (c:=.sl E) [] (.No (ae a) cap _) ⟨iW _,by intro x hx;cases hx⟩
       ·obtain⟨cs0,y0,q1,q2,q3,q4,_⟩:=els 0 (by omega)
        have hspot:a.spot=ai/\a.block<w.heap.size:=by obtain⟨_,hl0,hc0⟩:=aph q1;have h3:=hc0 0 (by omega);rw[ay (by omega)]at h3;simp only[Nat.zero_mul,Addr.add,aC]at h3;unfold df at h3;split at h3;(·rename_i c t' f' hbk;refine⟨?_,?_⟩;(·cases hs:a.spot with|none=>rfl|some p=>rw[hs]at h3;simp at h3);·(rcases bH a.block w.heap.size with hlt|hge);(·exact hlt);·rw[nu hge]at hbk;cases hbk);·cases h3
        obtain⟨b,o,spt⟩:=a
        obtain⟨hsn,hbw⟩:=hspot
        simp only at hsn hbw
        subst hsn
        have build:∀k,k<=len->∃(vs:List Value) (ys:List E.ty),ys.length=k/\vs.length=k*E.z/\cW φ w (λb=>b<w.heap.size) vs ((ys.map E.enc).flatMap A.cells)/\cH w b o vs/\∀y∈ys,E.wf y:=by intro k;induction k with|zero=>exactλ_=>⟨[],[],rfl,by simp,.nil,cH.nil,by intro y hy;cases hy⟩|succ k ihk=>intro hk;obtain⟨vs,ys,e1,e2,e3,e4,e5⟩:=ihk (by omega);obtain⟨cs',y,f1,f2,f3,f4,f5,f6⟩:=els k (by omega);refine⟨vs++cs',ys++ [y],by simp[e1],by simp[e2,f2,dW],?_,?_,?_⟩;(·rw[eu,Jd];refine e3.append ?_;simpa using f5);(·refine e4.append ?_;obtain⟨_,g1,g2⟩:=aph f1;intro j v hj;(have hjl:j<cs'.length:=by(rcases bH j cs'.length with h1|h1);(·exact h1);·rw[bB h1]at hj;cases hj);have:=g2 j (by omega);rw[hj]at this;rw[<-this,e2,<-f3];congr 1;(have aa:∀(x y:Nat),(Addr.add ⟨b,x,ai⟩ y)=⟨b,x+y,ai⟩:=λx y=>by unfold Addr.add;split;(·rename_i h;subst h;rfl);·rfl);rw[aa,aa]);·intro z hz;(rcases aU.1 hz with h1|h1);(·exact e5 z h1);·simp at h1;subst h1;exact f6
        obtain⟨vs,ys,e1,e2,e3,e4,e5⟩:=build len (bm _)
        refine Pre.one (c:=.sl E) ys ?_ ⟨by omega,e5⟩
        have:=iD.sl (φ:=φ) (w:=w) (ok:=λb=>b<w.heap.size) b o cap E.z (ys.map E.enc) vs hbw (λx hx=>by
         obtain⟨y,_,rfl⟩:=dK.1 hx;exact ET.D8 E y) (by rw[aT];omega) e3 e4
        rw[aT,e1]at this
        exact this
     ·cases h
    ·cases h
   ·rename_i fs hu
    split at h
    ·rename_i u' r' hfs
     split at h
     ·rename_i hcell
      simp only[aq,be]at h
      obtain⟨rfl,rfl⟩:=h
      obtain⟨xs,m,rfl,rfl,hlen,hxl,hx⟩:=DataW.trod_struct hu ht
      refine⟨by omega,?_⟩
      have:=ih2 fs.toList 0 cs _ _ vals hfs (by omega) (λf hf=>by
       obtain⟨i,hi,hfi⟩:=List.getElem_of_mem hf
       have hi':i<fs.size:=by simpa using hi
       have h1:=hx i f (by rw[<-n9,ay hi,hfi])
       rw[ay (by omega)]at h1
       exact⟨m,_,h1⟩)
      simpa using this
     ·cases h
    ·cases h
   ·cases h
  ·cases fs with
   |nil=>
    simp only[anY,aq,be]at h
    obtain⟨rfl,rfl⟩:=h
    intro vals2 y hy hwy
    exact⟨y,by rw[bb (by omega)];exact hy,hwy⟩
   |cons f fs=>
    simp only[anY]at h
    split at h
    ·rename_i u' r' hty
     split at h
     ·rename_i hc
      obtain⟨hoff,hcl⟩:=hc
      obtain⟨fuel,x,hx⟩:=hf f (by simp)
      obtain⟨hl1,hp1⟩:=ih1 f.type cs u' r' fuel _ x hty hx
      have hp2:=ih2 fs (pos+u') r' u r vals h hl (λg hg=>hf g (by simp[hg]))
      intro vals2 y hy hwy
      obtain⟨y1,hy1,hw1⟩:=hp2 vals2 y hy hwy
      obtain⟨y2,hy2,hw2⟩:=hp1 _ y1 hy1 hw1
      refine⟨y2,?_,hw2⟩
      have e:vals.drop pos++vals2=(vals.drop f.offset).take (P.cellsOf f.type)++(vals.drop (pos+u')++vals2):=by rw[hoff,hcl,<-dJ];congr 1;rw[<-al9,List.take_append_drop]
      rw[e];exact hy2
     ·cases h
    ·cases h
  ·cases E with
   |agg us=>
    simp only[aid]at h
    split at h
    ·rename_i u' hty
     simp only[aj,ax]at h
     obtain⟨⟨h1,h2⟩,h3⟩:=h
     obtain⟨hl1,hp1⟩:=ih1 e us u' .nil fuel vals x hty ht
     obtain⟨y,hy,hw⟩:=hp1 [] () .nil trivial
     rw[bS]at hy
     exact⟨by omega,by rw[ET.z];omega,by rw[ET.z];omega,y,hy,hw⟩
    ·cases h
   |one c=>
    simp only[aid]at h
    split at h
    ·rename_i u' hty
     simp only[aj,ax]at h
     obtain⟨h1,h2⟩:=h
     obtain⟨hl1,hp1⟩:=ih1 e (.cons c .nil) u' .nil fuel vals x hty ht
     obtain⟨y,hy,hw⟩:=hp1 [] () .nil trivial
     rw[bS]at hy
     refine⟨by omega,by rw[ET.z];omega,by rw[ET.z];omega,y.1,?_,hw.1⟩
     rw[ET.enc,CT.tO]
     exact hy
    ·cases h
end
end Go.Ab
namespace Go.Ab
open Go.ChangeShapes Go.WideShapes Go.ChangeAt Go.RowKit
def ade(P:Program)(n:Nat)(t:TypeId):MT->Bool
 |.d (.agg us)=>(match P.underlying t with|some (.struct _)=>aid P n t (.agg us)|_=>aw)
 |.d (.one c)=>(match P.underlying t with|some .bool|some (.int _)|some .string|some (.slice _)=>aid P n t (.one c)|_=>aw)
 |_=>aw
def Mg(P:Program)(n:Nat):List TypeId->List MT->Bool
 | [],[]=>ar
 |t::ts,m::ms=>ade P n t m&&Mg P n ts ms
 |_,_=>aw
def wfM:(m:MT)->m.ty->Prop
 |.d t,x=>t.wf x
 |_,_=>False
def wfU:(ms:List MT)->FP ms->Prop
 | [],_=>True
 |m::ms,x=>wfM m x.1/\wfU ms x.2
section
variable {H:Type} {enc:TypeId×Value->H} {P:Program} {φ:Nat->Nat} {w:World} {base:Nat} {sp:Nat->Bool}
def av4{n:Nat}{t:TypeId}{m:MT}(hc:ade P n t m=ar){v:Value}{d:DataW H}{p:List MemPlace}{b0:Nat}(hv:zV P w .any b0 t v)(h:DataW.Trod enc P w base sp ar t v d p): ∃x:m.ty,H0 φ w (λb=>b<w.heap.size) v (m.enc 0 x) []/\wfM m x:=by
 obtain⟨fuel,h⟩:=h
 cases m with
 |d E=>
  cases E with
  |agg us=>
   simp only[ade]at hc;split at hc;(·rename_i fs hu;obtain⟨_,_,_,y,hy,hw⟩:=(ag5 (φ:=φ) n).2.2 t (.agg us) fuel _ _ hc h;simp only[zV,hu]at hv;obtain⟨cs,rfl,_,_⟩:=hv;refine⟨y,.data _ _ ?_,hw⟩;rw[MT.enc,MT.v,ET.VE];have:=iD.agg (φ:=φ) (w:=w) (ok:=λb=>b<w.heap.size) cs.toList _ hy;simpa[adw,ET.enc,A.cells]using this);·cases hc
  |one c=>
   simp only[ade]at hc
   have hna:∃u,P.underlying t=ae u/\(u=.bool\/(∃k,u=.int k)\/u=.string\/∃e,u=.slice e)/\aid P n t (.one c)=ar:=by
    split at hc<;>first
     |(rename_i hu;exact⟨_,hu,by simp,hc⟩)
     |cases hc
   obtain⟨u,hu,hk,hc⟩:=hna;obtain⟨_,_,_,y,hy,hw⟩:=(ag5 (φ:=φ) n).2.2 t (.one c) fuel _ _ hc h
   have hcell:v.cells= #[v]:=by
    rcases hk with rfl|⟨k,rfl⟩|rfl|⟨e,rfl⟩<;>
     (simp only[zV,hu,Cell.okWide,Cell.ok]at hv
      cases v<;>first|rfl|(simp at hv))
   rw[hcell]at hy;refine⟨y,.data _ _ ?_,hw⟩;rw[MT.enc,MT.v,ET.VE];(have hy':cW φ w (λb=>b<w.heap.size) [v] [c.enc y]:=by have e:(ET.enc (.one c) y).cells=[c.enc y]:=CT.tO c y;rw[e]at hy;exact hy);cases hy' with|cons _ _ _ _ h1 _=>exact h1
 |_=>simp[ade]at hc
def am4{n:Nat}:∀{ts:List TypeId} {ms:List MT} {vs:List Value} {ds:List (DataW H)} {p:List MemPlace} {j b0:Nat},Mg P n ts ms=ar->
 (∀(i:Nat) t v,ts[i]? =ae t->vs[i]? =ae v->zV P w .any b0 t v)->I7 enc P w base sp ar ts vs ds p->
 ∃x:FP ms,fL φ w (λb=>b<w.heap.size) vs ((S7 j ms x).map V.a) []/\wfU ms x/\ds.length=ts.length
 | [],[],vs,ds,p,j,b0,_,_,h=>by
   obtain⟨rfl,rfl,rfl⟩:=trodAll_nil h
   exact⟨(),.nil,trivial,rfl⟩
 | [],_::_,_,_,_,_,_,hc,_,_=>by simp[Mg]at hc
 |_::_,[],_,_,_,_,_,hc,_,_=>by simp[Mg]at hc
 |t::ts,m::ms,vs,ds,p,j,b0,hc,hv,h=>by
  simp only[Mg,aj]at hc
  obtain⟨v,vs',d,ds',p1,p2,rfl,rfl,rfl,h1,h2⟩:=trodAll_cons h
  obtain⟨x,hx,hwx⟩:=av4 (φ:=φ) hc.1 (hv 0 t v rfl rfl) h1
  obtain⟨y,hy,hwy,hl⟩:=am4 (j:=j+1) hc.2 (λi t v ht hv'=>hv (i+1) t v (by simpa using ht) (by simpa using hv')) h2
  refine⟨(x,y),?_,⟨hwx,hwy⟩,by simp[hl]⟩
  simp only[S7,aP]
  have hx':H0 φ w (λb=>b<w.heap.size) v (m.v j x).a []:=by(have:(m.v j x).a=m.enc 0 x:=by cases m<;>first|rfl|(simp[ade]at hc));rw[this];exact hx
  exact .cons _ _ [] _ _ [] hx' hy
def Rf{W W':World}{sp':Nat->Bool}(hl:laidOutB P=ar):∀{ts:List TypeId} {vs:List Value} {ds:List (DataW H)} {p:List MemPlace},
 (∀t∈ts,P.readableRec t=ar/\t<P.types.size)->I7 enc P W 0 (λ_=>ar) ar ts vs ds p->(∀q∈p,W.sameAt W' q)->(∀q∈p,sp' q.block=ar)->I7 enc P W' 0 sp' ar ts vs ds p
 | [],vs,ds,p,_,h,_,_=>by
   obtain⟨rfl,rfl,rfl⟩:=trodAll_nil h
   exact trodAll_mk0
 |t::ts,vs,ds,p,hr,h,hs,hsp=>by
  obtain⟨v,vs',d,ds',p1,p2,rfl,rfl,rfl,h1,h2⟩:=trodAll_cons h
  exact trodAll_cons_mk (Go.WideElems.Trod_stays hl (hr t (by simp)).1 (hr t (by simp)).2 h1 (λq hq=>hs q (bW _ hq)) (λq hq=>hsp q (bW _ hq)))
   (Rf hl (λt ht=>hr t (by simp[ht])) h2 (λq hq=>hs q (aS _ hq)) (λq hq=>hsp q (aS _ hq)))
def ai9{f:Func}{s:ChangeSpec}{apart fresh handsOn again:Bool}{W W':World}{args:Array Value}{v:Value}{ds gs:List (DataW H)}{before pa pv:List MemPlace} (hW:anj enc P f.params.toList s.vars apart W args.toList ds gs before) (hres:∀(b:Nat) (sp:Nat->Bool) (hd:Bool),I7 enc P W' b sp hd f.resultTypes.toList (v.resultList f.resultTypes.size) (s.fn H (ds++gs)).results []) (hargs:∀sp:Nat->Bool,(∀p∈before,sp p.block=ar)->I7 enc P W' 0 sp ar f.params.toList args.toList (s.fn H (ds++gs)).args pa) (hvars:∀sp:Nat->Bool,(∀p∈before,sp p.block=ar)->DataW.TrodVars enc P W' sp s.vars (s.fn H (ds++gs)).vars pv) (hps:before=pa++pv) (hk:W.keptBut W' (· ∈before)) (hfz:∀a:Addr,a.block<W.heap.size->W'.frozen? a=W.frozen? a) (hok:∀(j:Nat) (t:TypeId) (r:Value),f.resultTypes[j]? =ae t->(v.resultList f.resultTypes.size)[j]? =ae r->zV P W' .any 0 t r): s.post enc P f apart fresh handsOn again W args v W':=by
 have hold:∀p∈before,(λb=>ah (b<W.heap.size)) p.block=ar:=λp hp=>by simpa using hW.lt p hp
 have hlt:=λp hp=>hW.lt (p:=p) hp;refine⟨ds,gs,before,[],pa,pv,hW,hres _ _ _,hargs _ hold,hvars _ hold,World.keptBut_mono (λp hp=>⟨hp,?_⟩) hk,λ_=> ?_⟩;·rw[hps,aU]at hp;exact Or.inr hp
 ·obtain⟨_,_,_,_,_,hz,hn⟩:=hW;refine⟨hok,_,_,([]++pa)++pv,⟨[]++pa,pv,trodAll_append (hargs _ (λ_ _=>rfl)) (hres _ _ _),hvars _ (λ_ _=>rfl),rfl,?_,?_⟩,?_⟩;·intro b off hp;(have hp':MemPlace.cell b off∈before:=by rw[hps];simpa using hp);rw[hfz _ (hlt _ hp')];exact hz b off hp'
  ·intro ha;have:=hn ha;rw[hps]at this;simpa using this
  ·intro p hp _;rw[hps];simpa using hp
def ahc{g:Nat}{c:Callee}(hok:r6 P φ g c){f:Func}{s:ChangeSpec}{tb:TypeId}{n:Nat}(hvars:s.vars=[])(hres:f.resultTypes= #[tb])(htb:P.underlying tb=ae .bool)
 (hps:Mg P n f.params.toList c.ps=ar) (hnt:zP c.ps=ar) (hlaw:∀x,wfU c.ps x->∃y,c.f x=ae y/\M9 c y=([A.bool ar],[]))
 (hlaid:laidOutB P=ar) (hread:∀t∈f.params.toList,P.readableRec t=ar/\t<P.types.size)
 (hspec:∀(H:Type) (ds:List (DataW H)),ds.length=f.params.toList.length->s.fn H ds={results:=[.lit (.bool ar)],args:=ds})
 (W:World) (b0:Nat) (args:Array Value) (ds gs:List (DataW H)) (before:List MemPlace)
 (hval:∀(j:Nat) t v,f.params[j]? =ae t->args[j]? =ae v->zV P W .any b0 t v)
 (hW:anj enc P f.params.toList s.vars aw W args.toList ds gs before) (hgl:I6 P (λb=>b<W.heap.size) W):
 Calls P (φ g) args W λe W'=>∃v,e=.returned v/\s.post enc P f aw ar aw aw W args v W':=by
 have hW':=hW
 obtain⟨p,q,hA,hV,rfl,hfz,hnd⟩:=hW
 rw[hvars]at hV
 obtain⟨rfl,rfl⟩:=trodVars_none hV
 obtain⟨x,hx,hwx,hlen⟩:=am4 (φ:=φ) (j:=0) hps (λi t v ht hv=>hval i t v (by rw[<-n9];exact ht) (by rw[<-n9];exact hv)) hA
 obtain⟨y,hy,hr⟩:=hlaw x hwx
 have hcf:c.cf (Gd c.ps x)=ae ([A.bool ar],[]):=by
  have hn:yJ c.ps (Gd c.ps x)=Gd c.ps x:=by(have:∀(ms:List MT) (x:FP ms) (j:Nat) (ts:List TypeId),Mg P n ts ms=ar->yJ ms ((S7 j ms x).map V.a)=(S7 j ms x).map V.a:=by intro ms;induction ms with|nil=>intro x j ts _;rfl|cons m ms ih=>intro x j ts hc;cases ts with|nil=>simp[Mg]at hc|cons t ts=>simp only[Mg,aj]at hc;simp only[S7,aP,yJ,ih x.2 (j+1) ts hc.2,ej,pe];cases m with|d E=>(unfold MT.norm;split<;>first|rfl|(rename_i h _;cases h))|_=>simp[ade]at hc);exact this c.ps x 0 _ hps
  rw[Callee.ami hnt hn,hy,az,hr]
 have hcall:=hok.2 _ _ _ hcf W (λb=>b<W.heap.size) args.toList [] hx iy (λb hb=>by cases hb) (λb hb=>hb) hgl
 rw[show args.toList.toArray=args from by simp]at hcall
 refine hcall.mono λe W' hb=> ?_
 obtain⟨v,rfl,hb⟩:=hb
 obtain⟨rvs,K',rb,ob,hv,_,_,hrr,_,_,_⟩:=hb.rest
 have hvb:v=.bool ar:=by cases hrr with|cons v0 _ _ vs _ _ h1 h2=>cases h2;cases h1 with|data _ h3=>cases h3;exact hv
 subst hvb
 refine⟨_,rfl,?_⟩
 have hfr:∀b,b<W.heap.size->W'.heap[b]? =W.heap[b]? :=λb hb1=>hb.frame b hb1 (by simp)
 simp only[bS]at hW'
 have hsame:∀q∈p,W.sameAt W' q:=λq hq=>by have hlt:=DataW.TrodAll.lt hA q hq;cases q with|cell b off=>exact cell?_of_block (hfr b hlt) off|map b=>exact hfr b hlt
 refine ai9 (pa:=p) (pv:=[]) hW' (λb sp hd=> ?_) (λsp hsp=> ?_) (λsp _=> ?_) (by simp) ?_ (λa ha=> ?_) (ok_one hres rfl (okWide_bool_mk htb _))
 ·rw[bS,hspec H ds hlen,hres]
  exact trodAll_cons_mk (shut_bool htb _) trodAll_mk0
 ·rw[bS,hspec H ds hlen]
  exact Rf hlaid hread hA hsame hsp
 ·rw[bS,hspec H ds hlen,hvars]
  rfl
 ·refine⟨hb.env.1,hb.env.2,λi hi=> ?_⟩
  have:=hfr i hi
  rw[this]
  cases hh:W.heap[i]? with
  |none=>trivial
  |some o=>
   cases o with
   |cells c t fr=>exact⟨rfl,rfl,rfl,λj _=>rfl⟩
   |map es clock=>exact .inr ⟨rfl,rfl⟩
   |_=>rfl
 ·cases a with
  |mk b o sp=>exact hb.fr b o ha
end
end Go.Ab
namespace Go.Ab
def fR{n:Int}(h1: -9223372036854775808<=n)(h2:n<9223372036854775808):ag.wrap n=n:=by
 have e:ag.wrap n=if ah (n%18446744073709551616>=9223372036854775808)then n%18446744073709551616-18446744073709551616 else n%18446744073709551616:=rfl
 rw[e];split;·rename_i h;simp only[ax]at h;omega
 ·rename_i h;simp only[ax]at h;omega
def DV:bj=9223372036854775807:=rfl
def lM:lim=1099511627776:=rfl
end Go.Ab
namespace Go.Ab
open Go.RowKit
section
variable {P:Program} {φ:Nat->Nat}
def fA.below{z:Nat}{w w':World}(h:Below w.heap.size w w'){b n:Nat}(hr:fA z w b n):fA z w' b n:=hr.of_block (h.block b hr.lt)
def E0:A->Bool
 |.iB .. |.lB .. =>ar
 |_=>aw
def jc.aaW{w:World}{K:Nat->Prop}:∀{vs:List Value} {ab:List A},vs.length=ab.length->ab.any E0=aw->jc φ w K vs ab [] []
 | [],[],_,_=>.nil
 | [],_::_,h,_=>by simp at h
 |_::_,[],h,_=>by simp at h
 |v::vs,a::ab,h,hn=>by
  simp only[zy,oA]at hn
  exact .data _ _ _ _ _ _ ⟨λz xs e=>by subst e;simp[E0]at hn,λz xs e=>by subst e;simp[E0]at hn⟩ (jc.aaW (by simpa using h) hn.2)
def fL.len{w:World}{K:Nat->Prop}{vs:List Value}{ab:List A}{bs:List Nat}(h:fL φ w K vs ab bs):vs.length=ab.length:=by induction h with|nil=>rfl|cons _ _ _ _ _ _ _ _ ih=>simp[ih]
def fL.aqK{w:World}{K:Nat->Prop}{vs:List Value}{ab:List A}{bs:List Nat}(h:fL φ w K vs ab bs)(hn:ab.any E0=aw):cW φ w K vs ab/\bs=[]:=by induction h with|nil=>exact⟨.nil,rfl⟩|cons v a b vs ab bs h t ih=>simp only[zy,oA]at hn;obtain⟨i1,i2⟩:=ih hn.2;cases h with|data _ h'=>exact⟨.cons _ _ _ _ h' i1,by simp[i2]⟩|iB=>simp[E0]at hn|lB=>simp[E0]at hn
def fZ.mT{w:World}{K:Nat->Prop}:∀{vs:List Value} {ab:List A},cW φ w K vs ab->fZ φ w K vs ab []
 |_,_,.nil=>.nil
 |_,_,.cons v a vs ab h t=>.cons _ _ [] _ _ _ (.data _ _ h) (fZ.mT t)
def dB.yK{g:Nat}{ab res:List A}(hn:ab.any E0=aw) (h:∀(w:World) (K:Nat->Prop) (vs:List Value),cW φ w K vs ab->(∀b,K b->b<w.heap.size)->I6 P K w-> Calls P (φ g) vs.toArray w λe w'=>∃rvs K' rb,e=.returned (C7 rvs)/\Below w.heap.size w w'/\(∀b,K b->K' b)/\(∀b,K' b->K b\/(w.heap.size<=b/\b<w'.heap.size))/\ fZ φ w' K' rvs res rb/\rb.Nodup/\∀b∈rb,¬K' b/\b<w'.heap.size/\w.heap.size<=b):dB P φ g ab res []:=by intro w K vs bs ha hnd hKb hKz hG;obtain⟨hr,rfl⟩:=ha.aqK hn;refine(h w K vs hr hKz hG).mono λe w' hh=> ?_;obtain⟨rvs,K',rb,rfl,hb,h1,h2,h3,h4,h5⟩:=hh;refine⟨_,rfl,hb.size,λb hb' _=>hb.block b hb',⟨hb.os,hb.output⟩,λb off hb'=>frozen?_block (hb.block b hb') off,λb n hr=>hr.below hb,?_⟩;refine⟨rvs,K',rb,[],rfl,h1,λb hb'=>(h2 b hb').elim .inl λh=>.inr (.inr h),h3,jc.aaW ha.len hn,by simpa using h4,λb hb'=> ?_⟩;rw[bS]at hb';exact⟨(h5 b hb').1,(h5 b hb').2.1,.inr (h5 b hb').2.2⟩
def dB.OA{g:Nat}{ab res:List A}(hn:ab.any E0=aw) (h:∀(w:World) (K:Nat->Prop) (vs:List Value),cW φ w K vs ab->(∀b,K b->b<w.heap.size)->I6 P K w-> Calls P (φ g) vs.toArray w λe w'=>∃rvs,e=.returned (C7 rvs)/\Below w.heap.size w w'/\cW φ w (λ_=>False) rvs res):dB P φ g ab res []:=by refine dB.yK hn λw K vs hr hK hG=>(h w K vs hr hK hG).mono λe w' hh=> ?_;obtain⟨rvs,rfl,hb,h3⟩:=hh;refine⟨rvs,K,[],rfl,hb,λ_ h=>h,λ_ h=>.inl h,?_,iy,λb hb=>by cases hb⟩;exact fZ.mT (h3.mono (λ_ h=>h.elim) (λ_ h=>h.elim))
def r6.none{g:Nat}{io:List Bool}{ps rs os:List MT}(he:jR P (φ g)):r6 P φ g ⟨io,ps,rs,os,λ_=>ai⟩:=by
 refine⟨he,λab res outs hc=> ?_⟩;unfold Callee.cf at hc;split at hc;·simp at hc
 ·cases hc
def aia:List MT->Bool
 | []=>ar
 |.d _::ms=>aia ms
 |_=>aw
def KJ:∀{ms:List MT} {ab:List A},aia ms=ar->yJ ms ab=ab
 | [],ab,_=>by cases ab<;>rfl
 |.d E::ms,[],_=>rfl
 |.d E::ms,a::ab,h=>by
  have:(MT.d E).norm a=a:=by unfold MT.norm;split<;>first|rfl|(rename_i e;exact absurd e (by simp))
  rw[yJ,this,KJ (ms:=ms) h]
 |.p _::_,_,h|.tok _::_,_,h|.box _::_,_,h|.lB _::_,_,h|.fn _ _::_,_,h|.gone::_,_,h=>by simp[aia]at h
def r6.pA{g:Nat}{c:Callee}(he:jR P (φ g))(hd:aia c.ps=ar)(ho:c.os=[]) (h:∀x y,c.f x=ae y->dB P φ g (Gd c.ps x) (M9 c y).1 (M9 c y).2):r6 P φ g c:=by
 refine⟨he,λab res outs hc=> ?_⟩;unfold Callee.cf at hc;split at hc;·rename_i hx;obtain⟨y,hy,hr⟩:=au.1 hc;have h1:=h _ _ hy;rw[hr]at h1;have e:ab=Gd c.ps hx.choose:=(KJ hd).symm.trans hx.choose_spec.2;generalize hx.choose=x at e h1;subst e;exact h1
 ·cases hc
end
end Go.Ab
namespace Go.Ab
noncomputable def aa2:Callee:=
 {io:=[],ps:=[.d (.one (.int .i64)),.d (.one (.int .i64))],rs:=[.d (.one .str)],os:=[],
  f:=λx=>if ah (x.2.1=10)&&(ah (-9223372036854775808<=x.1)&&ah (x.1<=9223372036854775807))then ae (bG x.1)else ai}
noncomputable def aqg:Callee:=
 {io:=[],ps:=[.d (.one .str),.d (.one .str)],rs:=[.d (.one .str),.d (.one .str),.d (.one .bool)],os:=[],
  f:=λx=>if ah (cP (α:=UInt8) x.1<4294967281)then ae (A7 x.1 x.2.1)else ai}
noncomputable def amW:Callee:=
 {io:=[],ps:=[.d (.one .str),.d (.one (.int .i64))],rs:=[.d (.one .str)],os:=[],
  f:=λx=>if ah (0<=x.2.1)&&(ah (x.2.1<=9223372036854775807)&&ah (cP (α:=UInt8) x.1*x.2.1.toNat<=140737488355328))then ae (F0 x.1 x.2.1.toNat)else ai}
noncomputable def ac3:Callee:=
 {io:=[],ps:=[.d (.one .str),.d (.one .str)],rs:=[.tok (.one .str)],os:=[],
  f:=λx=>if ah (cP (α:=UInt8) x.1<4294967281)&&ah (1<=cP (α:=UInt8) x.2.1)then ae (uV x.2.1 0 (Nq x.1 x.2.1) x.1)else ai}
noncomputable def auA:Callee:=
 {io:=[],ps:=[.d (.one (.sl (.one .str))),.d (.one .str)],rs:=[.d (.one .str)],os:=[],
  f:=λx=>if ah (cP (α:=List UInt8) x.1<=140737488355328)&&ah ((mZ x.1 x.2.1).length<=140737488355328)then ae (mZ x.1 x.2.1)else ai}
def Fh(l:List UInt8):Int×Bool:=
 if 18<(jF l [45]).length then(0,aw)else
 match Lib.parseIntB 64 l with
 |.ok v=>if bG v=l then(v,ar)else(0,aw)
 |_=>(0,aw)
noncomputable def aje:Callee:=
 {io:=[],ps:=[.d (.one .str)],rs:=[.d (.one (.int .i64)),.d (.one .bool)],os:=[],f:=λx=>ae (Fh x.1)}
noncomputable def aqI(ys:List (List UInt8)):Callee:={io:=[],ps:=[],rs:=[.tok (.one .str)],os:=[],f:=λ_=>ae ys}
def xO:List (List UInt8):=[[98,101,110,99,104,101,115],[99,108,101,97,110],[99,117,116],[100,114,121],[102,105,116],[103,108,117,101],[104,101,108,112],[109,97,115,115],[109,111,100,101],[110,101,99,107],[110,111,116,101],[111,112,101,110],[112,97,112,101,114],[112,101,103],[112,108,97,116,101],[112,111,116],[114,101,112,111,114,116],[114,105,98],[115,104,105,109],[115,104,111,119],[115,116,97,99,107],[116,104,105,110],[116,114,117,115,116],[119,111,108,102],[119,111,114,107]]
end Go.Ab
namespace Go.Ab
def abw{P:Program}{n:String}{d:DataW Unit}{r:List (String×DataW Unit)}{W:World}{g:Nat}{ti:TypeId}{ms:Array (String×TypeId)} (h:laidMet P ((n,d)::r) W) (hd:∃nm d',d=.iface nm d') (hg:P.globalNamed n=ae g) (ht:(P.globals[g]?).map (·.type)=ae ti) (hi:P.underlying ti=ae (.interface ms)): ∃u v,W.var? P n=ae #[.iface u v]:=by obtain⟨nm,d',rfl⟩:=hd;obtain⟨ps,⟨g0,t0,cs0,f0,p0,q0,hg0,ht0,hv0,hd0,_,e0⟩,_,hrows⟩:=h;obtain rfl:=cq (hg.symm.trans hg0);obtain rfl:=cq (ht.symm.trans ht0);obtain⟨_,u,v,hcs,_⟩:=iface_of_trod hi hd0;refine⟨u,v,?_⟩;rw[hv0];congr 1;exact Ri hcs
section
variable {H:Type} {enc:TypeId×Value->H}
def OR{a:Assume}{C:Checked}{os:Os}{f:FuncId}{fn:Func}{s:ChangeSpec}{conds:List PathCond}{apart fresh handsOn again:Bool}{laid:List (String×DataW Unit)} (own:ownKnob C.prog.godebug=ai) (started:os.Started) (noInit:C.prog.inits.idxOf? f=ai) (hfn:C.prog.funcs[f]? =ae fn) (witness:∃(w:World) (tape:Tape) (i:Input),w.os=os/\(w.forCall tape i).Shaped C.prog/\i.vars=[]/\Input.okWide C.prog (w.forCall tape i) .any w.heap.size f i/\ ((s.pre enc C.prog fn conds apart (w.forCall tape i).memory i.args/\laidMetH C.prog laid (w.forCall tape i).memory)/\sizedMet enc C.prog fn (PT s) apart (w.forCall tape i).memory i.args)/\a.holds C.prog (lone (Frame.enter C.prog f i.args .normal) [] (w.forCall tape i))) (aaT:∀(W:World) (base:Nat) (args:Array Value) (ds gs:List (DataW H)) (before:List MemPlace), (∀(j:Nat) t v,fn.params[j]? =ae t->args[j]? =ae v->zV C.prog W .any base t v)-> anj enc C.prog fn.params.toList s.vars apart W args.toList ds gs before-> laidMetH C.prog laid W->W.ShapedOpen C.prog-> Calls C.prog f args W λe W'=>∃v,e=.returned v/\s.post enc C.prog fn apart fresh handsOn again W args v W'): ReturnsInHanded a C os f .any (λw args=>(s.pre enc C.prog fn conds apart w args/\laidMetH C.prog laid w)/\sizedMet enc C.prog fn (PT s) apart w args) (s.post enc C.prog fn apart fresh handsOn again):=by refine returnsInHanded_of_calls own started noInit witness ?_;intro w tape i _ hsh _ hok hpre hholds;obtain⟨_,_,_,fn',hfn',_,_,_,_,hval⟩:=hok;have e:fn'=fn:=cq (hfn'.symm.trans hfn);subst e;obtain⟨⟨⟨ds,gs,before,hw,hc⟩,hx⟩,hz⟩:=hpre;have hw':=DataW.Whole.of_heap (w':=w.forCall tape i) (by rfl) hw;refine(aaT (w.forCall tape i) w.heap.size i.args ds gs before hval hw' (hx.of_heap (by rfl)) hsh).mono λe W' ⟨v,he,hp⟩=> ?_;subst he;exact ChangeSpec.post_blind hp
end
end Go.Ab
namespace Go.Ab
structure Q where
 x:Nat
 l:Nat
abbrev Rd(α:Type):=Q->α×Q
def rt{α:Type}(a:α):Rd α:=λq=>(a,q)
noncomputable section
def bd{α β:Type}(m:Rd α)(f:α->Rd β):Rd β:=λq=>Prod.rec (λa q=>f a q) (m q)
instance :Pure Rd:=⟨rt⟩
instance :Bind Rd:=⟨bd⟩
def str{β:Type}(x:Nat)(k:Nat->β):β:=Nat.rec (k 0) (λn _=>k (n+1)) x
def nth{α:Type}(d:α):List α->Nat->α
 | [],_=>d
 |a::_,0=>a
 |_::l,n+1=>nth d l n
def scan(l:Nat)(t:List Nat):Nat->Nat->Nat->Nat×Q:=
 List.rec (λ_ i _=>(i,⟨0,l⟩)) (λf _ k r i y=>Bool.rec (str (f*y+r) λx=>(i,⟨x,l⟩)) (k (r-f) (i+1) y) (Nat.ble f r)) t
def t0:List Nat:=[153,91,130,244,219,129,32,11,9,3,1,1,1]
def t1:List Nat:=[999,10,7,6,2]
def t2:List Nat:=[494,157,101,52,3,32,183,1,1]
def t3:List Nat:=[1002,22]
def t4:List Nat:=[559,205,43,26,27,17,19,16,8,8,16,7,5,1,6,1,3,5,1,1,1,3,1,1,1,1,1,1,1,1,2,1,1,1,1,1,1,1,1,1,2,1,1,1,1,1,1,1,1,1,1,1,1,1,1,1,1,1,1,1,1,1,1,1,1,1]
def t5:List Nat:=[676,348]
def t6:List Nat:=[696,93,79,114,26,2,1,1,9,1,1,1]
def t7:List Nat:=[29,27,18,25,20,19,18,11,17,11,10,10,7,14,6,14,5,8,2,6,6,4,27,62,59,63,58,6,1,1,60,3,3,58,56,57,58,4,1,1,1,1,2,1,1,1,1,1,1,1,1,1,1,1,1,1,1,1,1,1,1,1,1,1,1,1,1,1,1,1,1,1,1,1,1,1,1,1,1,1,1,1,1,1,1,1,1,1,1,1,1,1,1,1,1,4,1,1,1,1,3,6,12,24,48,1,0,0,0,0,0,0,0,0,0,0,0,0,0,0,0,0,0,0,0,0,0,1]
def t8:List Nat:=[0,471,213,340]
def t9:List Nat:=[58,28,321,507,101,1,1,1,1,3,1,1]
def t10:List Nat:=[1,22,1,6,12,87,37,63,86,277,346,84,1,1]
def t11:List Nat:=[286,107,48,197,124,110,54,38,31,11,7,4,2,2,1,2]
def t12:List Nat:=[834,161,29]
def t13:List Nat:=[674,350]
def t14:List Nat:=[306,200,107,74,73,11,46,26,25,19,35,14,26,20,9,5,4,1,6,1,2,1,1,2,1,1,1,3,1,1,1,1]
def t15:List Nat:=[4,16,186,376,210,112,57,26,27,7,1,1,1]
def t16:List Nat:=[898,97,17,12]
def t17:List Nat:=[802,1,1,1,1,1,106,3,41,10,10,7,8,32]
def t19:List Nat:=[1021,3]
def t20:List Nat:=[1009,8,2,1,1,1,1,1]
def t21:List Nat:=[56,3,27,334,102,22,41,111,15,1,1,1,1,1,1,1,1,1,1,1,270,9,1,20,1,1]
def t22:List Nat:=[770,254]
def t23:List Nat:=[339,685]
def t24:List Nat:=[925,55,38,4,1,1]
def t25:List Nat:=[597,292,121,12,1,1]
def t26:List Nat:=[745,279]
def t27:List Nat:=[252,283,325,82,69,10,1,1,1]
def t28:List Nat:=[76,20,148,217,88,27,5,1,1,1,213,47,86,46,23,12,3,1,1,1,1,1,3,1,1]
def t29:List Nat:=[312,368,74,70,78,43,21,22,34,1,1]
def t30:List Nat:=[971,53]
def t31:List Nat:=[1,234,407,227,114,32,6,1,1,1]
def t32:List Nat:=[1023,1]
def t33:List Nat:=[3,1,951,42,4,11,5,1,1,1,1,1,1,1]
def t34:List Nat:=[522,214,173,83,27,3,1,1]
def t35:List Nat:=[7,7,7,7,7,7,7,7,7,7,7,7,89,7,7,334,67,7,7,7,7,7,7,380,7,7]
def t36:List Nat:=[962,0,62]
def t37:List Nat:=[5,1,485,478,53,1,1]
def t38:List Nat:=[0,0,222,685,106,0,0,0,0,11]
def t39:List Nat:=[1015,9]
def t40:List Nat:=[922,0,102]
def t41:List Nat:=[612,130,116,113,48,3,1,1]
def t42:List Nat:=[2,3,136,264,162,164,160,43,4,1,13,16,34,10,3,5,2,1,1]
def t43:List Nat:=[316,195,158,166,145,42,1,1]
def t44:List Nat:=[836,0,0,3,0,43,0,83,45,5,9]
def t45:List Nat:=[110,10,162,350,170,95,15,1,1,1,78,1,8,1,1,7,1,1,1,1,1,1,5,1,1]
def t46:List Nat:=[1022,1,1]
def t47:List Nat:=[363,469,192]
def t48:List Nat:=[0,39,381,434,167,0,0,0,0,3]
def t49:List Nat:=[348,299,377]
def t50:List Nat:=[1,1,1,109,174,269,279,128,53,7,1,1]
def t51:List Nat:=[261,25,542,143,51,1,1]
def t52:List Nat:=[987,37]
def t53:List Nat:=[0,0,528,496]
def t119:List Nat:=[1010,14]
def t120:List Nat:=[687,1,51,93,9,17,12,24,21,23,27,22,17,20]
def t121:List Nat:=[529,495]
def t122:List Nat:=[62,1,747,110,40,13,9,5,6,5,10,5,7,4]
def t123:List Nat:=[978,46]
def t124:List Nat:=[110,1,1,436,153,163,26,33,36,12,13,15,12,13]
def t125:List Nat:=[489,535]
def t126:List Nat:=[1,1,1,928,84,1,1,1,1,1,1,1,1,1]
def t127:List Nat:=[19,1005]
def t128:List Nat:=[33,5,5,5,212,16,163,309,65,5,5,114,82,5]
def t129:List Nat:=[4,492,500,28]
def t130:List Nat:=[877,147]
def t131:List Nat:=[13,1,1,685,169,72,26,29,10,6,5,3,2,2]
def t132:List Nat:=[754,270]
def t133:List Nat:=[0,0,358,551,113,0,0,0,0,2]
def t134:List Nat:=[1024]
def t135:List Nat:=[123,1,1,857,4,2,3,5,5,5,8,3,5,2]
def t136:List Nat:=[1024]
def t137:List Nat:=[50,1,1,883,21,2,4,17,1,2,13,25,2,2]
def t138:List Nat:=[251,243,350,124,56]
def t139:List Nat:=[1024]
def t140:List Nat:=[365,1,1,434,19,32,22,11,30,12,18,40,13,26]
def t141:List Nat:=[1024]
def t142:List Nat:=[18,1,1,37,37,171,262,227,137,70,39,16,4,4]
def t143:List Nat:=[467,466,89,2]
def t144:List Nat:=[1024]
def t145:List Nat:=[1,1,1,1011,1,1,1,1,1,1,1,1,1,1]
def t146:List Nat:=[1024]
def t147:List Nat:=[1,1,1,1011,1,1,1,1,1,1,1,1,1,1]
def t148:List Nat:=[0,508,217,299]
def t149:List Nat:=[1024]
def t150:List Nat:=[43,1,1,111,549,93,99,63,9,17,1,8,3,26]
def t151:List Nat:=[911,113]
def t152:List Nat:=[17,1,1,757,98,59,3,4,15,7,2,7,23,30]
def t153:List Nat:=[0,759,136,129]
def t154:List Nat:=[276,372,122,205,47,2]
def t155:List Nat:=[276,372,122,205,47,2]
def t156:List Nat:=[279,745]
def t157:List Nat:=[64,1,1,763,40,33,15,49,9,12,1,27,6,3]
def t158:List Nat:=[361,181,262,180,33,7]
def t159:List Nat:=[1024]
def t160:List Nat:=[133,1,1,1,15,159,283,89,119,50,45,37,49,42]
def t161:List Nat:=[438,586]
def t162:List Nat:=[1,1,1,1011,1,1,1,1,1,1,1,1,1,1]
def t163:List Nat:=[586,438]
def t164:List Nat:=[1,1,1,1011,1,1,1,1,1,1,1,1,1,1]
def t165:List Nat:=[0,443,176,357,46,0,0,0,0,2]
def t166:List Nat:=[1024]
def t167:List Nat:=[365,1,519,1,2,1,2,19,20,34,6,13,22,19]
def t168:List Nat:=[998,26]
def t169:List Nat:=[2,1,422,311,168,36,15,51,4,4,1,7,1,1]
def t170:List Nat:=[0,11,247,663,100,0,0,0,0,3]
def t171:List Nat:=[0,508,262,254]
def t172:List Nat:=[0,17,0,0,275,262,470]
def t173:List Nat:=[1024]
def t174:List Nat:=[60,1,1,1,99,309,94,146,73,116,47,9,51,17]
def t175:List Nat:=[1024]
def t176:List Nat:=[1,1,1,1011,1,1,1,1,1,1,1,1,1,1]
def t177:List Nat:=[0,0,383,564,77]
def t178:List Nat:=[383,12,417,194,18]
def t179:List Nat:=[764,260]
def t180:List Nat:=[58,1,1,368,124,89,128,70,15,81,23,12,46,8]
def t181:List Nat:=[301,286,332,67,38]
def t182:List Nat:=[0,966,46,12]
def t183:List Nat:=[1024]
def t184:List Nat:=[9,9,9,9,313,142,9,451,9,9,9,28,9,9]
def t185:List Nat:=[1024]
def t186:List Nat:=[8,8,8,920,8,8,8,8,8,8,8,8,8,8]
def t187:List Nat:=[0,47,248,594,135]
def t188:List Nat:=[1024]
def t189:List Nat:=[1,1,1,354,487,119,51,4,1,1,1,1,1,1]
def t190:List Nat:=[1024]
def t191:List Nat:=[9,9,9,9,310,113,312,9,57,28,113,9,28,9]
def t192:List Nat:=[1024]
def t193:List Nat:=[8,8,8,920,8,8,8,8,8,8,8,8,8,8]
def t194:List Nat:=[1024]
def t195:List Nat:=[4,4,4,972,4,4,4,4,4,4,4,4,4,4]
def t196:List Nat:=[0,0,1024]
def t197:List Nat:=[0,1024]
def t198:List Nat:=[0,0,1024]
def t199:List Nat:=[1024]
def t200:List Nat:=[63,63,63,205,63,63,63,63,63,63,63,63,63,63]
def t201:List Nat:=[0,0,485,269,162,0,0,0,0,108]
def t202:List Nat:=[0,755,269]
def t203:List Nat:=[1024]
def t204:List Nat:=[584,14,14,272,14,14,14,14,14,14,14,14,14,14]
def t205:List Nat:=[593,431]
def t206:List Nat:=[22,22,22,585,73,22,22,73,22,73,22,22,22,22]
def t207:List Nat:=[808,216]
def t208:List Nat:=[5,5,5,275,613,5,81,5,5,5,5,5,5,5]
def t209:List Nat:=[795,229]
def t210:List Nat:=[5,5,5,959,5,5,5,5,5,5,5,5,5,5]
def t211:List Nat:=[0,0,341,0,683]
def t212:List Nat:=[0,1024]
def t213:List Nat:=[1024]
def t214:List Nat:=[1024]
def t215:List Nat:=[1024]
def t216:List Nat:=[45,45,45,45,45,439,45,45,45,45,45,45,45,45]
def t217:List Nat:=[1024]
def t218:List Nat:=[47,47,47,305,155,47,47,47,47,47,47,47,47,47]
def t219:List Nat:=[0,333,307,384]
def t220:List Nat:=[1024]
def t221:List Nat:=[7,7,7,72,631,169,48,24,7,24,7,7,7,7]
def t222:List Nat:=[589,435]
def t223:List Nat:=[843,181]
def t224:List Nat:=[18,18,18,708,59,18,59,18,18,18,18,18,18,18]
def t225:List Nat:=[384,640]
def t226:List Nat:=[1024]
def t227:List Nat:=[11,11,11,881,11,11,11,11,11,11,11,11,11,11]
def t228:List Nat:=[965,59]
def t229:List Nat:=[9,9,9,200,202,202,116,145,87,9,9,9,9,9]
def t230:List Nat:=[410,614]
def t231:List Nat:=[780,244]
def t232:List Nat:=[16,16,16,540,216,54,54,16,16,16,16,16,16,16]
def t233:List Nat:=[410,614]
def t234:List Nat:=[878,146]
def t235:List Nat:=[14,14,14,842,14,14,14,14,14,14,14,14,14,14]
def t236:List Nat:=[1024]
def t237:List Nat:=[3,3,3,985,3,3,3,3,3,3,3,3,3,3]
def t238:List Nat:=[0,0,1024]
def t239:List Nat:=[842,182]
def t240:List Nat:=[19,6,6,600,58,136,19,6,39,6,39,6,6,78]
def t241:List Nat:=[0,0,1024]
def t242:List Nat:=[878,146]
def t243:List Nat:=[12,12,12,539,78,116,39,78,78,12,12,12,12,12]
def t244:List Nat:=[0,481,167,376]
def t245:List Nat:=[0,146,0,0,188,167,523]
def t246:List Nat:=[648,376]
def t247:List Nat:=[9,9,9,907,9,9,9,9,9,9,9,9,9,9]
def t248:List Nat:=[961,63]
def t249:List Nat:=[6,6,6,946,6,6,6,6,6,6,6,6,6,6]
def t250:List Nat:=[0,0,0,0,0,0,0,0,0,0,1024]
def t251:List Nat:=[0,439,439,146]
def t252:List Nat:=[1024]
def t253:List Nat:=[285,17,17,17,17,284,114,171,17,17,17,17,17,17]
def tD:List (List Nat):=[[838,0,186],[83,0,941],[907,0,117],[1020,0,4],[992,0,32],[1018,0,6],[1004,0,20],[1024],[1024],[1024],[1022,0,2],[915,0,109],[1024],[0,1024],[136,0,888],[1024],[1018,0,6],[1024],[492,0,532],[1024],[1024],[1024],[970,0,54],[1024],[1024],[1024],[1024],[1024],[1024],[1024],[961,0,63],[1024]]
def tW:List (List Nat):=[[1024],[834,190],[1024],[778,246],[1024],[1024],[1024],[1024],[1024],[1024],[1024],[981,43],[1024],[0,1024],[0,1024],[0,1024],[1024],[1024],[0,1024],[1024],[1024],[1024],[1024],[1024],[1024],[1024],[1024],[1024],[1024],[1024],[1024],[1024]]
def aw7:List Nat:=[101,32,116,97,114,111,110,105,115,108,100,104,109,99,117,112,103,98,121,107,119,102,48,50,52,49,51,45,44,58,53,120,118,54,55,56,57,122,113,106,33,34,35,36,37,38,39,40,41,42,43,46,47,59,60,61,62,63,64,65,66,67,68,69,70,71,72,73,74,75,76,77,78,79,80,81,82,83,84,85,86,87,88,89,90,91,92,93,94,95,96,123,124,125,126,10,0,1,2,3,4,5,6,7,8,9,11,12,13,14,15,16,17,18,19,20,21,22,23,24,25,26,27,28,29,30,31,127,128,129,130,131,132,133,134,135,136,137,138,139,140,141,142,143,144,145,146,147,148,149,150,151,152,153,154,155,156,157,158,159,160,161,162,163,164,165,166,167,168,169,170,171,172,173,174,175,176,177,178,179,180,181,182,183,184,185,186,187,188,189,190,191,192,193,194,195,196,197,198,199,200,201,202,203,204,205,206,207,208,209,210,211,212,213,214,215,216,217,218,219,220,221,222,223,224,225,226,227,228,229,230,231,232,233,234,235,236,237,238,239,240,241,242,243,244,245,246,247,248,249,250,251,252,253,254,255]
def rd(t:List Nat):Rd Nat:=λq=>str (q.x%1024) λr=>scan q.l t r 0 (q.x/1024)
def bits(k:Nat):Rd Nat:=λq=>str (q.x/2^k) λx=>str (q.x%2^k) λv=>(2^k+v,⟨x,q.l⟩)
def rn(c:List Nat):Rd Nat:=do match<-rd c with|0=>rt 0|k+1=>bits k
def rb(c:List Nat):Rd Bool:=do match<-rd c with|0=>rt aw|_=>rt ar
def rep{α:Type}(m:Rd α)(n:Nat):Rd (List α):=Nat.rec (rt []) (λ_ k=>bd m λa=>bd k λl=>rt (a::l)) n
def ls{α:Type}(c:List Nat)(m:Rd α):Rd (List α):=do rep m (<-rn c)
def rf(c:List Nat):Rd Nat:=do match<-rd c with|0=>rn t0|k+1=>λq=>(q.l+1-k,q)
def rik:Rd IntKind:=do match<-rd t1 with|0=>rt .i64|1=>rt .u8|2=>rt .u64|3=>rt .u32|_=>rt .i32
def rA:Nat->Rd A
 |0=>rt .any
 |n+1=>do match<-rd t2 with
  |0=>do
   let k<-rik
   match<-rd t3 with
   |0=>return .int k (Int.ofNat (<-rn t4))
   |_=>return .int k (-(Int.ofNat (<-rn t4)))
  |1=>return .bool (<-rb t5)
  |2=>return .str ((<-ls t6 (rd t7)).map λi=>oD (nth 0 aw7 i))
  |3=>return .jo (<-rn t8)
  |4=>return .sl (<-rn t8) []
  |5=>return .agg (<-ls t9 (rA n))
  |6=>return .fn (<-rn t10) []
  |7=>return .Yw .nilFunc
  |8=>return .Yw (.pointer ai)
  |_=>return .undef
def rx(c d:List Nat):Rd bZ:=do match<-rd c with|0=>return .t (<-rf d)|_=>return .c (<-rA 9)
def ro{α:Type}(c:List Nat)(m:Rd α):Rd (Option α):=do match<-rd c with|0=>rt ai|_=>return ae (<-m)
def ayC:Rd BinOp:=do match<-rd t11 with
 |0=>rt .add|1=>rt .sub|2=>rt .mul|3=>rt .lss|4=>rt .neq|5=>rt .eql|6=>rt .gtr|7=>rt .geq|8=>rt .leq|9=>rt .quo|10=>rt .rem|11=>rt .shr|12=>rt .shl|13=>rt .and|14=>rt .or|15=>rt .xor|_=>rt .andNot
def rcv:Rd Conv:=do match<-rd t12 with|0=>return .int (<-rik)|1=>rt .Jk|2=>rt (.Kp 1)|_=>rt .same
def rkd:Rd Kd:=do match<-rd t13 with|0=>rt .i|1=>rt .s|_=>rt .b
def rO(t:Nat):Rd O:=do match t with
 |0=>return .mv (<-rx t119 t120)
 |1=>return .asg (<-rx t121 t122)
 |2=>return .bin (<-ayC) (<-rx t123 t124) (<-rx t125 t126)
 |3=>return .call (<-rx t127 t128) (<-ls t129 (rx t130 t131))
 |4=>return .ld (<-ro t132 (rn t133)) (<-rx t134 t135)
 |5=>return .Oz (<-rx t136 t137)
 |6=>return .fa (<-rn t138) (<-rx t139 t140)
 |7=>return .ext (<-rx t141 t142) (<-rn t143)
 |8=>return .len (<-rx t144 t145)
 |9=>return .un (match<-rd t52 with|0=>.not|_=>.neg) (<-rx t146 t147)
 |10=>return .ia (<-rn t148) (<-rx t149 t150) (<-rx t151 t152)
 |11=>return .VL (<-rn t153) (<-rA 9) (<-rn t154) (<-ls t155 (do return (<-rn t158,<-rx t156 t157)))
 |12=>return .pick (<-rx t159 t160) (<-rx t161 t162) (<-rx t163 t164)
 |13=>return .rq (<-rn t165) (<-rx t166 t167) (<-rx t168 t169)
 |14=>return .alloc (<-rn t170) (<-rA 9)
 |15=>return .app (<-rn t171) (<-rn t172) (<-rx t173 t174) (<-rx t175 t176)
 |16=>return .build (<-ls t177 (rA 9)) (<-ls t178 (do return (<-rn t181,<-rn t182,<-rx t179 t180)))
 |17=>return .eqs (<-rb t5) (<-ls t53 rkd) (<-rx t183 t184) (<-rx t185 t186)
 |18=>return .box (<-rn t187) (<-rx t188 t189)
 |19=>return .eqb (<-rb t5) (<-rx t190 t191) (<-rx t192 t193)
 |20=>return .conv (<-rcv) (<-rx t194 t195)
 |21=>return .fld (<-rn t196) (<-ro t197 (rn t198)) (<-rx t199 t200)
 |22=>return .iaa (<-rn t201) (<-rn t202) (<-rx t203 t204) (<-rx t205 t206)
 |23=>return .ix (<-rx t207 t208) (<-rx t209 t210)
 |24=>return .ixa (<-rn t211) (<-rn t212) (<-ro t213 (rn t214)) (<-rx t215 t216) (<-rx t217 t218)
 |25=>return .slc (<-rn t219) (<-rx t220 t221) (<-ro t222 (rx t223 t224)) (<-ro t225 (rx t226 t227))
 |26=>return .als (<-rx t228 t229) (<-ro t230 (rx t231 t232)) (<-ro t233 (rx t234 t235))
 |27=>return .lens (<-rx t236 t237)
 |28=>return .max (<-ls t238 (rx t239 t240))
 |29=>return .min (<-ls t241 (rx t242 t243))
 |30=>return .mks (<-rn t244) (<-rn t245) (<-rA 9) (<-rx t246 t247) (<-rx t248 t249)
 |_=>return .mkf (<-rn t250) (<-ls t251 (rx t252 t253))
def axt:Nat->Option (Nat×Bool)->Rd (List Op)
 |0,_=>rt []
 |n+1,g=>do
  let t<-rd t14
  let d<-(match<-rd (nth [] tD t)with
   |0=>λq=>str (q.l+1) λl=>(ae l,⟨q.x,l⟩)
   |1=>rt ai
   |_=>do
    let d<-rn t15
    λq=>str (max q.l d) λl=>(ae d,⟨q.x,l⟩))
  let w<-rb (nth [] tW t)
  let g<-(match<-rd t16 with|0=>rt ai|1=>rt g|2=>return ae (<-rf t17,aw)|_=>return ae (<-rf t17,ar))
  let pq<-rb t19
  let av<-ls t20 (rn t21)
  let o<-rO t
  let l<-axt n g
  rt (⟨d,w,o,g,pq,av⟩::l)
def ins(i:Nat):List Nat->List Nat
 | []=>[i]
 |j::l=>match Nat.blt i j with|true=>i::j::l|false=>match Nat.beq i j with|true=>j::l|false=>j::ins i l
def uni(a b:List Nat):List Nat:=b.foldl (λa i=>ins i a) a
def sel(new:List Nat):List Nat->Rd (List Nat)
 | []=>rt []
 |i::l=>do match<-rd (match new.any (Nat.beq i)with|true=>t22|false=>t23)with
  |0=>sel new l
  |_=>return i::(<-sel new l)
def kp(k new r:List Nat):Rd (List Nat×List Nat):=do
 let s<-sel new (uni k new)
 let e<-ls t24 (rn t25)
 let r<-(match<-rd t26 with|0=>rt r|_=>ls t27 (rn t28))
 rt (uni s e,r)
def rC:Nat->List Nat->List Nat->Rd (C×List Nat×List Nat)
 |0,k,r=>rt (.stop,k,r)
 |n+1,k,r=>do match<-rd t29 with
  |0=>do
   let dr<-rb t30
   let ops<-axt (<-rn t31) ai
   let (k,r)<-kp k (ops.filterMap Op.d) r
   return (.reg dr ops k r,k,r)
  |1=>do
   let (a,k,r)<-rC n k r
   let (b,k,r)<-rC n k r
   return (.seq a b,k,r)
  |2=>do
   let c<-rx t32 t33
   let (a,_,_)<-rC n k r
   let (b,k,r)<-rC n k r
   return (.cond c a b,k,r)
  |3=>return (.skip,k,r)
  |4=>return (.ret,k,r)
  |5=>do
   let i<-rn t34
   let (a,k,r)<-rC n k r
   return (.block i a,k,r)
  |6=>do
   let (a,k,r)<-rC n k r
   return (.loop a,k,r)
  |7=>return (.exit (<-rn t34),k,r)
  |8=>do
   let (k,r)<-kp k [] r
   let (a,k2,r2)<-rC n k r
   return (.norm k r a,k2,r2)
  |9=>do
   let i<-rn t35
   let (a,k,r)<-rC n k r
   return (.opn i a,k,r)
  |_=>return (.stop,k,r)
structure Rec where
 ty:List ET
 id:Nat
 D:List (Nat×Callee)
 ps:List MT
 rs:List MT
 os:List MT
 n:Nat
def rRs:Rd Rs:=do match<-rd t36 with|0=>return .t (<-rn t37)|1=>return .cell (<-rn t37) ai|_=>return .cell (<-rn t37) (ae (<-rn t38))
def aqy:MT->Bool
 |.box _|.lB _=>ar
 |_=>aw
def axj:MT->Bool
 |.box _|.tok _=>ar
 |.d t=> !t.data
 |_=>aw
def Rec.dec(r:Rec):Fn×List (Nat×ET):=((do
 let gone<-ls t39 (rn t40)
 let H<-ls t41 (do
  let s<-rn t42
  let t<-rn t43
  rt (s,nth (.one .bool) r.ty t))
 let res<-rep rRs r.rs.length
 let b<-rC 400 [] []
 rt (({np:=r.ps.length,io:=(match r.ps.any aqy with|true=>r.ps.map aqy|false=>[]),res:=res,own:=r.rs.map axj,body:=b.1,gone:=gone}:Fn),H)):Rd (Fn×List (Nat×ET))) ⟨r.n,0⟩|>.1
def Rec.c(r:Rec):Callee:=iC r.D r.dec.2 r.dec.1 r.ps r.rs r.os
def Rec.p(r:Rec):Nat×Callee:=(r.id,r.c)
end
def aR{r:Rec}{x:FP r.ps}{y:Option (QM (r.rs++r.os))}(h:(dY (SZ r.dec.1 (S7 0 r.ps x)) λst=>dn r.D r.dec.2 (FV r.dec.1 r.ps r.rs r.os (lens r.ps x)) (goL r.D r.dec.2 (FV r.dec.1 r.ps r.rs r.os (lens r.ps x))) 4000 [.c r.dec.1.body] st)=y:=by kernel_rfl):r.c.f x=y:=
 (ayx _ _ _ _ _ _ _ 4000).trans h
noncomputable section
def C.pre:C->List C->List C
 |.seq a b,l=>.seq a b::a.pre (b.pre l)
 |.cond c a b,l=>.cond c a b::a.pre (b.pre l)
 |.block i a,l=>.block i a::a.pre l
 |.loop a,l=>.loop a::a.pre l
 |.norm k r a,l=>.norm k r a::a.pre l
 |.opn i a,l=>.opn i a::a.pre l
 |c,l=>c::l
def ayB:List V->V×List V
 | []=>(.any,[])
 |v::l=>(v,l)
def axh(r:List (Nat×Option VR))(q:Nat):Nat:=
 match dX r q with
 |some (.sl _ xs)=>xs.length
 |_=>0
def atw(m:List V->Rd (V×List V)):Nat->List V->Rd (List V×List V)
 |0,a=>rt ([],a)
 |n+1,a=>do
  let (v,a)<-m a
  let (l,a)<-atw m n a
  rt (v::l,a)
def rsh(r:List (Nat×Option VR)):Nat->List V->Rd (V×List V)
 |0,a=>rt (.any,a)
 |n+1,a=>do match<-rd t44 with
  |0=>rt (ayB a)
  |1=>rt (.any,a)
  |2=>rt (.undef,a)
  |3=>return (.jo (<-rn t8),a)
  |4=>return (.sl0 (<-rn t8),a)
  |5=>do
   let (l,a)<-atw (rsh r n) (<-rn t9) a
   rt (.agg l,a)
  |6=>return (.view (<-rn t45) 0 0,a)
  |7=>do
   let q<-rn t45
   rt (.view q 0 (axh r q),a)
  |8=>do
   let q<-rn t45
   let i<-rn t46
   let c<-rn t46
   rt (.loc q i c,a)
  |9=>do
   let (l,a)<-atw (rsh r n) (<-rn t9) a
   return (.ptr l (<-rn t46),a)
  |10=>do
   let f<-rn t10
   let (l,a)<-atw (rsh r n) (<-rn t9) a
   return (.fn f l,a)
  |_=>rt (.Yw .nilFunc,a)
def alo(rf:List (Nat×Option VR)):List Nat->List V->Rd (List (Nat×Option VR)×List V)
 | [],a=>rt ([],a)
 |q::qs,a=>do
  let (R,a)<-(match<-rd t47 with
   |0=>rt (ai,a)
   |1=>(match a with
    |.sl t xs::a=>rt (ae (.sl t xs),a)
    |a=>rt (ai,a))
   |_=>do
    let z<-rn t48
    let (v,a)<-rsh rf 9 a
    rt (ae (.var z v),a))
  let (l,a)<-alo rf qs a
  rt ((q,R)::l,a)
def aq8(r:List (Nat×Option VR)):List Nat->List V->Rd (List (Nat×V))
 | [],_=>rt []
 |i::l,a=>do
  let (v,a)<-rsh r 9 a
  let l<-aq8 r l a
  rt ((i,v)::l)
def rfr(pre:List C):Rd Fr:=do match<-rd t49 with|0=>return .c (nth .stop pre (<-rn t50))|1=>return .l (nth .stop pre (<-rn t50))|_=>return .e (<-rn t34)
def rpt(pre:List C)(ab bs:List V):Rd (List Fr×bF):=do
 match nth .stop pre (<-rn t50)with
 |.norm k r b=>do
  let fr<-ls t51 (rfr pre)
  let (r,_)<-(λq=>alo (alo [] r bs q).1.1 r bs q:Rd (List (Nat×Option VR)×List V))
  let t<-aq8 r k ab
  rt (.c b::fr,⟨t,r⟩)
 |_=>rt ([],⟨[],[]⟩)
def Rec.g(r:Rec)(ns:List Nat)(n:Nat)(ab bs:List V):Option (QM (r.rs++r.os)):=
 goL r.D r.dec.2 (FV r.dec.1 r.ps r.rs r.os ns) (rpt (r.dec.1.body.pre []) ab bs ⟨n,0⟩).1.1 (rpt (r.dec.1.body.pre []) ab bs ⟨n,0⟩).1.2
end
abbrev mI:=MT.d (.one (.int .i64))
abbrev mS:=MT.d (.one .str)
abbrev mB:=MT.d (.one .bool)
abbrev mSS:=MT.d (.one (.sl (.one .str)))
abbrev mII:=MT.d (.one (.sl (.one (.int .i64))))
abbrev kS:=MT.tok (.one .str)
abbrev kI:=MT.tok (.one (.int .i64))
abbrev eI:=ET.one (.int .i64)
abbrev eS:=ET.one .str
abbrev e8:=ET.one (.int .u8)
abbrev eSS:=ET.one (.sl (.one .str))
abbrev KK:=ET.one (.sl (.one (.int .i64)))
abbrev vI:=V.int .i64
abbrev vS:=V.str
abbrev vB:=V.bool
def bnG:Nat->Nat->List UInt8
 |0,_=>[]
 |f+1,n=>match n with
  |0=>[]
  |n+1=>oD ((n+1)%256)::bnG f ((n+1)/256)
def bn(n:Nat):List UInt8:=bnG 500 n
def bz{r:Rec}{ns:List Nat}{n:Nat}{ab bs:List V}{y:Option (QM (r.rs++r.os))}
 (h:dn r.D r.dec.2 (FV r.dec.1 r.ps r.rs r.os ns) (goL r.D r.dec.2 (FV r.dec.1 r.ps r.rs r.os ns)) 4000 (rpt (r.dec.1.body.pre []) ab bs ⟨n,0⟩).1.1 (rpt (r.dec.1.body.pre []) ab bs ⟨n,0⟩).1.2=y:=by kernel_rfl):r.g ns n ab bs=y:=
 (akH _ _ _ 4000 _ _).trans h
end Go.Ab
