/- A line of the console, out of walks and contracts. Conditions: none. -/
import Derived.Test.YtohijocnlnmlpaaGreatDoorG3
import Derived.Maps.OwnSet
import Derived.Maps.OwnOps
import Derived.Maps.Views
import Derived.StringKeys
import Derived.WalkKit
import Derived.Shelf.Spec.SlicesInsert
import Derived.Laws.IdiomCopy
import Derived.Laws.Externs
import Derived.Lib.Overlaps
import Derived.Lib.AppendZerosOnto
import Derived.Shelf.RegionOpenPlain
import Derived.Lib.CountLaws
set_option linter.unusedVariables false
set_option linter.unusedSimpArgs false
set_option linter.defProp false
open Array renaming ext'->Ri,getElem?_eq_getElem->vA,getElem?_eq_none->nu,getElem?_modify->PS,getElem?_push_lt->zo,getElem?_push_size->xy,getElem?_toList->n9,length_toList->Ys,size_append->Mo
open Bool renaming and_eq_true->aj,false->aw,true->ar
open Decidable renaming decide->ah
open Go renaming sizeOf->aun
open Go.Builtin renaming append_->fU,clear_->apm,copy_->lO,firstCells->pC,nextslicecap->ahN,zeroCells->bQ
open Go.Extern.SlicesOverlaps renaming overlaps->tM
open Go.Instr renaming lookup->Gb
open Go.Lib renaming count->Nq,index->af0,splitK->uV
open Go.Oper renaming wp->zq
open Go.Result renaming andThen_ok->bP
open Go.RowKit.Below renaming heap_setCell->ava,refl->BU
open Go.Sem renaming run_bind->dp,run_pure->jb
open Go.Src renaming ofSlice->asr
open Go.Value renaming bool->adC,int->jC
open Go.World renaming alloc->Rm,cell? ->df,cell?_setCells_in->aj9,cell?_setCells_out->KD,frozen? ->xF,setCell->KE,shape? ->avb
open Int renaming le_trans->pc,toNat->asv,toNat_natCast->aE,toNat_of_nonneg->Yv
open List renaming all_eq_true->aG,all_map->uW,append_assoc->dJ,append_nil->bS,drop->mL,drop_append->F9,drop_eq_getElem_cons->bf,drop_eq_nil_of_le->bb,drop_zero->dV,flatMap_append->Jd,flatMap_cons->cg,getElem?_append_left->eA,getElem?_append_right->dC,getElem?_drop->Je,getElem?_eq_getElem->ay,getElem?_eq_none->bB,getElem?_eq_some_iff->iL,getElem?_map->bX,getElem?_replicate->ama,getElem?_set->apA,getElem?_take->oB,length->cP,length_append->aQ,length_cons->bh,length_drop->dm,length_map->aT,length_nil->cy,length_replicate->DZ,length_singleton->fB,length_take->cQ,map->iN,map_append->eu,map_cons->aP,map_drop->jy,map_nil->lT,map_set->aav,map_take->kV,mem_append_left->bW,mem_append_right->aS,mem_cons->bl,mem_cons_of_mem->aL,mem_flatMap->jq,mem_iff_getElem? ->ff,mem_map->dK,mem_of_getElem? ->bw,mem_of_mem_drop->cA,mem_singleton->aX,nil_append->dU,nodup_append->cZ,nodup_cons->pd,nodup_nil->iy,replicate->aZ,size_toArray->Nu,take->mM,take_append_of_le_length->kt,take_of_length_le->dO
open List.cons renaming injEq->ej
open Nat renaming add_mul->Ga,add_zero->anr,le_refl->bm,le_trans->dZ,lt_of_lt_of_le->bU,lt_or_ge->bH,min_def->ady,mul_le_mul->VG,mul_le_mul_right->cu,mul_one->asz,sub_mul->uY,succ_mul->dW,zero_add->c8
open Option renaming map_eq_some_iff->au,map_some->az,none->ai,some->ae
open Option.some renaming inj->cq
open Prod renaming fst->amd
open Prod.mk renaming injEq->be
namespace Go.Ab
open Go.RowKit Go.Maps
structure Lo(B:Nat)(w w':World):Prop where
 size:w.heap.size<=w'.heap.size
 block:∀b,b<B->w'.heap[b]? =w.heap[b]?
 os:w'.os=w.os
 output:w'.output=w.output
def Lo.refl(B:Nat)(w:World):Lo B w w:=⟨bm _,λ_ _=>rfl,rfl,rfl⟩
def Lo.mono{B B':Nat}{w w':World}(h:Lo B w w')(hB:B'<=B):Lo B' w w':=⟨h.size,λb hb=>h.block b (bU hb hB),h.os,h.output⟩
def Lo.trans{B:Nat}{w w1 w2:World}(h:Lo B w w1)(h':Lo B w1 w2):Lo B w w2:=⟨dZ h.size h'.size,λb hb=>(h'.block b hb).trans (h.block b hb),h'.os.trans h.os,h'.output.trans h.output⟩
def Lo.yK{B:Nat}{w w':World}(h:Below B w w'):Lo B w w':=⟨h.size,h.block,h.os,h.output⟩
def Lo.alloc{B:Nat}{w w1:World}(h:Lo B w w1)(hB:B<=w1.heap.size)(o:Obj):Lo B w (w1.alloc o):=h.trans (.yK ((BU B w1).alloc hB o))
section
variable {P:Program} {φ:Nat->Nat}
def Rp{w:World}{K:Nat->Prop}:∀{vs:List Value} {ab:List A},cW φ w K vs ab->fL φ w K vs ab []
 |_,_,.nil=>.nil
 |_,_,.cons v a vs ab h t=>.cons _ _ [] _ _ [] (.data _ _ h) (Rp t)
def dB.bool{g:Nat}{ab:List A}{b:Bool}(hc:dB P φ g ab [.bool b] []){w:World}{K:Nat->Prop}{vs:List Value}(hr:cW φ w K vs ab)(hK:∀b,K b->b<w.heap.size)(hG:I6 P K w): Calls P (φ g) vs.toArray w λe w'=>e=.returned (.bool b)/\Lo w.heap.size w w':=by refine(hc w K vs [] (Rp hr) iy (λ_ h=>by cases h) hK hG).mono λe w' ⟨v,he,hb⟩=> ?_;subst he;obtain⟨rvs,K',rb,ob,hv,_,_,hrr,_⟩:=hb.rest;refine⟨?_,hb.grow,λb hb'=>hb.frame b hb' (by simp),hb.env.1,hb.env.2⟩;cases hrr with|cons v0 _ _ vs0 _ _ h1 h2=>cases h2;cases h1 with|data _ h3=>cases h3;rw[hv];rfl
def aku{D:List (Nat×Callee)}{H:List (Nat×ET)}{fn:Fn}{E R:ET}{g:Nat}(h:r6 P φ g (iC D H fn [.d E] [.d R] [])){x:E.ty}{y:R.ty}(hf:(iC D H fn [.d E] [.d R] []).f (x,())=ae y): dB P φ g [E.enc x] [R.enc y] []:=by
 have e:(iC D H fn [.d E] [.d R] []).cf [E.enc x]=ae ([R.enc y],[]):=by
  rw[Callee.ami (c:=iC D H fn [.d E] [.d R] []) (ab:=[E.enc x]) (x:=(x,())) rfl (by
   show yJ [MT.d E] [E.enc x]=[(E.v x).a]
   rw[KJ rfl,ET.VE]),hf]
  show ae ([(R.v y).a],[])=_;rw[ET.VE]
 exact h.2 _ _ _ e
end
end Go.Ab
namespace Go.Ab
structure Rg(X:Nat->Prop)(w w':World):Prop where
 size:w.heap.size<=w'.heap.size
 block:∀c,c<w.heap.size->¬X c->w'.heap[c]? =w.heap[c]?
 os:w'.os=w.os
 output:w'.output=w.output
def ant(φ:Nat->Nat)(z:Nat)(xs:List A)(v:Value)(lo hi:Nat)(w:World):Prop:=
 hi<=w.heap.size/\xs.all A.plain=ar/\∃b,gD φ w (λ_=>False) v z xs b/\∀c,b=ae c->lo<=c/\c<hi
section
variable {P:Program} {φ:Nat->Nat}
def gD.any{z:Nat}{xs:List A}{v:Value}{b:Option Nat}{K K2:Nat->Prop}{w:World}(h:gD φ w K v z xs b)(hp:xs.all A.plain=ar):gD φ w K2 v z xs b:=by cases h with|empty ad z=>exact .empty ad z|mk b o cap z xs vs hc h0 hzz hr hv hroom=>exact .mk b o cap z xs vs hc h0 hzz (hr.plain (Bb hp)) hv hroom
def ant.data{z:Nat}{xs:List A}{v:Value}{lo hi:Nat}{w:World}(h:ant φ z xs v lo hi w):iD φ w (λb=>lo<=b/\b<hi) v (.sl z xs):=by obtain⟨h1,h2,b,h3,h4⟩:=h;cases h3 with|empty ad z=>exact .No ad 0 z|mk b o cap z xs vs hc h0 hzz hr hv hroom=>exact .sl b o cap z xs vs (h4 b rfl) hzz hc (hr.plain (Bb h2)) hv
def ant.slice{z:Nat}{xs:List A}{v:Value}{lo hi:Nat}{w:World}(h:ant φ z xs v lo hi w):∃ad n cp,v=.slice ad n cp:=by obtain⟨h1,h2,b,h3,h4⟩:=h;cases h3 with|empty ad z=>exact⟨_,_,_,rfl⟩|mk=>exact⟨_,_,_,rfl⟩
def gD.toP{z:Nat}{xs:List A}{v:Value}{b:Option Nat}{K:Nat->Prop}{lo:Nat}{w:World}(h:gD φ w K v z xs b)(hp:xs.all A.plain=ar)(hb:∀c,b=ae c->lo<=c/\c<w.heap.size):ant φ z xs v lo w.heap.size w:=by refine⟨bm _,hp,b,?_,hb⟩;cases h with|empty ad z=>exact .empty ad z|mk b o cap z xs vs hc h0 hzz hr hv hroom=>exact .mk b o cap z xs vs hc h0 hzz (hr.plain (Bb hp)) hv hroom
def dB.own{g j z:Nat}{ab xs:List A}(hc:dB P φ g ab [.tok j z xs] []){w:World}{K:Nat->Prop}{vs:List Value}(hr:cW φ w K vs ab)(hK:∀b,K b->b<w.heap.size)(hG:I6 P K w)(hp:xs.all A.plain=ar:=by first|assumption|exact VJ rfl _): Calls P (φ g) vs.toArray w λe w'=>∃ad n cp,e=.returned (.slice ad n cp)/\Lo w.heap.size w w'/\ant φ z xs (.slice ad n cp) w.heap.size w'.heap.size w':=by
 refine(hc w K vs [] (Rp hr) iy (λ_ h=>by cases h) hK hG).mono λe w' ⟨v,he,hb⟩=> ?_;subst he;obtain⟨rvs,K',rb,ob,hv,_,_,hrr,ho,_,hbl⟩:=hb.rest
 cases hrr with
 |cons v0 _ b0 vs0 _ bs0 h1 h2=>
  cases h2
  cases h1 with
  |data _ h3=>cases h3
  |tok _ _ _ b h3=>
   have hP:=h3.toP hp (λc hc=>by
    subst hc
    have:=hbl c (by simp)
    exact⟨this.2.2.resolve_left (by simp),this.2.1⟩)
   obtain⟨ad,n,cp,rfl⟩:=hP.slice;exact⟨ad,n,cp,by rw[hv];rfl,⟨hb.grow,λb hb'=>hb.frame b hb' (by simp),hb.env.1,hb.env.2⟩,hP⟩
@[reducible] def Ed:ET:=.one (.int .i64)
end
def TH(w:World)(o:Obj){b:Nat}(h:b=w.heap.size):(w.alloc o).heap[b]? =ae o:=by subst h;simp only[Rm,xy]
def wi(w:World)(o:Obj){b:Nat}(h:b<w.heap.size):(w.alloc o).heap[b]? =w.heap[b]? :=by simp only[Rm];rw[zo h,vA h]
def Dp(w:World)(a:Addr)(v:Value):(w.setCell a v).heap.size=w.heap.size:=by simp[KE]
def nY(w:World)(b j c:Nat)(v:Value)(h:c≠b):(w.setCell ⟨b,j,ai⟩ v).heap[c]? =w.heap[c]? :=ava w _ v c h
def Lo.setCell{B:Nat}{w w1:World}(h:Lo B w w1){b j:Nat}{v:Value}(hb:B<=b):Lo B w (w1.setCell ⟨b,j,ai⟩ v):=
 ⟨by rw[Dp];exact h.size,λc hc=>(nY _ _ _ _ _ (by omega)).trans (h.block c hc),h.os,h.output⟩
def LR{w:World}{b:Nat}{C:Array Value}{t:TypeId}(h:w.heap[b]? =ae (.cells C t))(j:Nat)(v:Value):(w.setCell ⟨b,j,ai⟩ v).heap[b]? =ae (.cells (C.setIfInBounds j v) t):=by simp only[KE,PS,aC,h,az];rfl
def Lo.drew{B:Nat}{w w1:World}(h:Lo B w w1):Lo B w w1.drew:=⟨h.size,h.block,h.os,h.output⟩
def Rg.refl(X:Nat->Prop)(w:World):Rg X w w:=⟨bm _,λ_ _ _=>rfl,rfl,rfl⟩
def Rg.trans{X:Nat->Prop}{w w1 w2:World}(h:Rg X w w1)(h':Rg X w1 w2):Rg X w w2:=
 ⟨dZ h.size h'.size,λc hc hx=>(h'.block c (bU hc h.size) hx).trans (h.block c hc hx),h'.os.trans h.os,h'.output.trans h.output⟩
def Rg.axo{X:Nat->Prop}{w w':World}(h:Lo w.heap.size w w'):Rg X w w':=⟨h.size,λc hc _=>h.block c hc,h.os,h.output⟩
def Lo.rg{X:Nat->Prop}{B:Nat}{w w1 w2:World}(h:Lo B w w1)(hr:Rg X w1 w2)(hx:∀c,X c->B<=c)(hB:B<=w1.heap.size):Lo B w w2:=
 ⟨dZ h.size hr.size,λc hc=>(hr.block c (bU hc hB) (λe=>Nat.lt_irrefl _ (bU hc (hx c e)))).trans (h.block c hc),hr.os.trans h.os,hr.output.trans h.output⟩
def Rg.setCell{X:Nat->Prop}{w w1:World}(h:Rg X w w1){b j:Nat}{v:Value}(hb:X b):Rg X w (w1.setCell ⟨b,j,ai⟩ v):=
 ⟨by rw[Dp];exact h.size,λc hc hx=>(nY _ _ _ _ _ (λe=>hx (by rw[e];exact hb))).trans (h.block c hc hx),h.os,h.output⟩
section
variable {P:Program} {φ:Nat->Nat}
def Rg.mono{X Y:Nat->Prop}{w w':World}(h:Rg X w w')(hx:∀c,X c->Y c):Rg Y w w':=⟨h.size,λc hc hy=>h.block c hc λe=>hy (hx c e),h.os,h.output⟩
end
section
variable {P:Program} {φ:Nat->Nat}
end
section
variable {P:Program} {φ:Nat->Nat}
end
section
variable {P:Program} {φ:Nat->Nat}
end
section
variable {P:Program} {φ:Nat->Nat}
end
end Go.Ab
namespace Go.Ab
def rowAt{T:Type}(xs:List (List T))(j:Nat):List T:=(xs[j]?).getD []
section
variable {P:Program} {φ:Nat->Nat} {E:ET}
end
@[reducible] def zf:ET:=.one .str
section
variable {P:Program} {φ:Nat->Nat}
end
end Go.Ab
namespace Go.Ab
inductive Tt(w:World)(e:TypeId):Value->List Value->Option Nat->Prop where
 |empty (ad:Option Addr):Tt w e (.slice ad 0 0) [] ai
 |mk (b cap:Nat) (C:Array Value) (vs:List Value):w.heap[b]? =ae (.cells C e)->C.size=cap->vs.length<=cap->cap≠0->(∀j,j<vs.length->C[j]? =vs[j]?)->
  Tt w e (.slice (ae ⟨b,0,ai⟩) vs.length cap) vs (ae b)
def Tt.lt{w:World}{e:TypeId}{v:Value}{vs:List Value}{b:Nat}(h:Tt w e v vs (ae b)):b<w.heap.size:=by cases h with|mk b cap C vs hC _ _ _ _=>(rcases bH b w.heap.size with h|h);(·exact h);·rw[nu h]at hC;cases hC
def Tt.fk{w w':World}{e:TypeId}{v:Value}{vs:List Value}{ob:Option Nat}(h:Tt w e v vs ob)(hs:∀b,ob=ae b->w'.heap[b]? =w.heap[b]?):Tt w' e v vs ob:=by cases h with|empty ad=>exact .empty ad|mk b cap C vs hC h1 h2 h3 h4=>exact .mk b cap C vs ((hs b rfl).trans hC) h1 h2 h3 h4
section
variable {P:Program}
def Tt.app{w:World}{e:TypeId}{v:Value}{vs:List Value}{ob:Option Nat}(h:Tt w e v vs ob){t:TypeId}(ht:P.underlying t=ae (.slice e)){i:TypeInfo}(hi:P.info? e=ae i)(hz:i.size=1){zv:Value}(hzv:i.zero=ae zv)(hzs:zv.cells.size=1) (hb:i.bytes<=128) (hlim:vs.length+1<1099511627776) {bu:Nat} {D:Array Value} {tu:TypeId} {x:Value} (hu:w.heap[bu]? =ae (.cells D tu)) (hx:D[0]? =ae x) (h1:x.oneCell'=ar) (c:Nat) (ty:TypeId): ∃ad n cp w' ob',(fU #[t,t] ty #[v,.slice (ae ⟨bu,0,ai⟩) 1 c]).run P w=.ok (.slice ad n cp) w'/\Tt w' e (.slice ad n cp) (vs++ [x]) ob'/\w.heap.size<=w'.heap.size/\ (∀q,q<w.heap.size->ob≠ae q->w'.heap[q]? =w.heap[q]?)/\(ob'=ob\/∃q,ob'=ae q/\w.heap.size<=q/\q<w'.heap.size)/\w'.os=w.os/\w'.output=w.output:=by
 have hs:Src P i.size t (.slice (ae ⟨bu,0,ai⟩) 1 c) 1 [x] w:=asr w ht ⟨bu,0,ai⟩ 1 c [x] (by rw[hz];rfl) (λj u hj=>by
  match j,hj with
  |0,hj=>cases hj;rw[World.cell?_add];simp[df,hu,hx]) (λu hu=>by
  rw[aX]at hu;subst hu;exact h1)
 have hfit:∀c,c<vs.length+1->ahN (vs.length+1) c*i.bytes<=281474976710656:=λc hc=> growslice_fits hc (by have:=VG (show vs.length+1<=1099511627776 by omega) hb;omega)
 have grow:∀{base:Option Addr} {c0:Nat},v=.slice base vs.length c0->c0<vs.length+1->(pC i.size vs.length (.slice base vs.length c0)).run P w.drew=.ok vs.toArray w.drew->
  ∃ad n cp w' ob',(fU #[t,t] ty #[v,.slice (ae ⟨bu,0,ai⟩) 1 c]).run P w=.ok (.slice ad n cp) w'/\Tt w' e (.slice ad n cp) (vs++ [x]) ob'/\w.heap.size<=w'.heap.size/\
   (∀q,q<w.heap.size->ob≠ae q->w'.heap[q]? =w.heap[q]?)/\(ob'=ob\/∃q,ob'=ae q/\w.heap.size<=q/\q<w'.heap.size)/\w'.os=w.os/\w'.output=w.output:=by
  intro base c0 hv hlt hold
  subst hv
  have hrun:=run_append_grow_src (P:=P) w t t ty e i zv ht hi hzv base vs.length c0 vs hold (.slice (ae ⟨bu,0,ai⟩) 1 c) 1 [x] hs hlt (by omega) (hfit c0 hlt)
  have hge:=grownCap_ge w (vs.length+1) c0 e
  have hh:(w.drew.alloc (.cells ((vs++ [x]).toArray++bQ zv.cells (grownCap w (vs.length+1) c0 e-(vs.length+1))) e)).heap=
   w.heap.push (.cells ((vs++ [x]).toArray++bQ zv.cells (grownCap w (vs.length+1) c0 e-(vs.length+1))) e):=rfl
  have hz1:(w.heap.push (.cells ((vs++ [x]).toArray++bQ zv.cells (grownCap w (vs.length+1) c0 e-(vs.length+1))) e)).size=w.heap.size+1:=by simp
  refine⟨_,_,_,_,ae w.heap.size,hrun,?_,by rw[hh,hz1];omega,λq hq _=>by rw[hh];rw[zo hq,vA hq],.inr ⟨w.heap.size,rfl,bm _,by rw[hh,hz1];omega⟩,rfl,rfl⟩
  have hsz:((vs++ [x]).toArray++bQ zv.cells (grownCap w (vs.length+1) c0 e-(vs.length+1))).size=grownCap w (vs.length+1) c0 e:=by
   rw[Mo,size_zeroCells,hzs]
   simp only[Nu,aQ,bh,cy]
   omega
  have:=Tt.mk (w:=w.drew.alloc (.cells ((vs++ [x]).toArray++bQ zv.cells (grownCap w (vs.length+1) c0 e-(vs.length+1))) e)) (e:=e) w.heap.size (grownCap w (vs.length+1) c0 e) _ (vs++ [x])
   (by rw[hh];exact xy) hsz (by rw[aQ];exact hge) (by omega) (λj hj=>by
     rw[Array.getElem?_append_left (by simpa using hj)]
     simp)
  rw[aQ]at this
  exact this
 cases h with
 |empty ad=>
  refine grow (c0:=0) (base:=ad) rfl (by simp) ?_;cases ad with|none=>exact run_firstCells_none w.drew i.size 0 0 0|some ad=>exact run_firstCells_some w.drew i.size 0 ad 0 0 [] (by simp) (λj u h=>by simp at h)
 |mk b cap C vs hC hsz hle h0 hcs=>
  by_cases hroom:vs.length+1<=cap
  ·(have hcell:∀j,j< [x].length->(w.cell? ⟨b,0+vs.length*i.size+j,ai⟩).isSome=ar:=λj hj=>by(have hj0:j=0:=by simpa using hj);subst hj0;rw[hz];(have:vs.length<C.size:=by omega);simp[df,hC,this]);have hrun:=run_append_room_src (P:=P) w t t ty e i ht hi b 0 vs.length cap (.slice (ae ⟨bu,0,ai⟩) 1 c) 1 [x] hs hroom hcell (λj hj=>by simp[xF,hC]);(have hset:w.setCells b (0+vs.length*i.size) [x]=w.setCell ⟨b,vs.length,ai⟩ x:=by rw[hz,c8,asz];rfl);rw[hset]at hrun;have hb2:=LR hC vs.length x;refine⟨_,_,_,_,ae b,hrun,?_,by rw[Dp];omega,λq hq hne=>nY _ _ _ _ _ (λe=>hne (by rw[e])),.inl rfl,rfl,rfl⟩
   have:=Tt.mk (w:=w.setCell ⟨b,vs.length,ai⟩ x) (e:=e) b cap _ (vs++ [x]) hb2 (by simpa using hsz) (by rw[aQ];exact hroom) h0 (λj hj=>by
    rw[aQ,fB]at hj
    rcases bH j vs.length with hj2|hj2
    ·rw[Array.getElem?_setIfInBounds_ne (by omega),eA hj2]
     exact hcs j hj2
    ·obtain rfl:j=vs.length:=by omega
     rw[Array.getElem?_setIfInBounds_self_of_lt (by omega)]
     simp)
   rw[aQ]at this;exact this
  ·refine grow (c0:=cap) (base:=ae ⟨b,0,ai⟩) rfl (by omega) ?_
   exact run_firstCells_some w.drew i.size vs.length ⟨b,0,ai⟩ vs.length cap vs (by rw[hz,asz]) (λj u hj=>by
    have hjl:j<vs.length:=by
     rcases bH j vs.length with h|h
     ·exact h
     ·simp[bB h]at hj
    rw[World.cell?_add]
    have:=hcs j hjl
    have hd:w.drew.heap=w.heap:=rfl
    simp[df,hd,hC,this,hj])
def wpList_append_run(w:World){ops:Array Oper}{rest:List Oper}{o:Oper}{a:Act}{Q:Exit->Act->World->Prop}(hgd:o.guard=ai)(d s:Operand)(t t':TypeId)
 (ho:o.op=.call {callee:=.builtin .append,args:= #[d,s],argTypes:= #[t,t']}) (v u:Value) (hd:a.eval d=v) (hs:a.eval s=u) {v':Value} {w':World}
 (hr:(fU #[t,t'] o.type #[v,u]).run P w=.ok v' w') (h:wpList P ops Q rest (a.put o.dst v') w'):wpList P ops Q (o::rest) a w:=
 wpList_plain hgd λ_ hK=>by unfold zq;simp only[execOp,ho,resolve,invoke,builtin,dp,jb,bP,List.map_toArray,aP,lT,hd,hs,hr];exact hK _ _ h
end
section
variable {P:Program} {φ:Nat->Nat}
@[reducible] def Yj:ET:=.one (.sl Ed)
end
@[reducible] def axw:ET:=.agg (.cons (.sl (.one (.int .u8))) (.cons (.int .i64) (.cons (.int .u64) .nil)))
section
variable {P:Program} {φ:Nat->Nat} {S:Nat} {e eI:TypeId} {K:Nat->Prop} {x:axw.ty} {v3:Value} {xs:List (List Int)} {vout:Value} {acc:List Int} {vrow:Value} {w:World}
def dj.amC{w':World}(hK:∀b,K b->w'.heap[b]? =w.heap[b]?):∀{vs:List Value} {ab:List A} {bs:List Nat},dj φ w K vs ab bs->(∀b∈bs,w'.heap[b]? =w.heap[b]?)->dj φ w' K vs ab bs
 |_,_,_,.nil,_=>.nil
 |_,_,_,.cons v a b vs ab bs h t,hb=>by
  refine .cons _ _ _ _ _ _ ?_ (dj.amC hK t λc hc=>hb c (aS _ hc))
  cases h with
  |data a h ha=>exact .data _ _ (h.mono hK λ_ h=>h) ha
  |own z xs b h=>
   refine .own _ _ _ _ ?_
   cases h with
   |empty ad z=>exact .empty ad z
   |mk b o cap z xs vs hc h0 hzz hr hv hroom=>
    have eb:=hb b (by simp)
    exact .mk b o cap z xs vs hc h0 hzz (hr.mono hK λ_ h=>h) (hv.of_block eb) (hroom.of_block eb)
def jE.amC{w':World}{z:Nat}{a:A}{v:Value}{bs:List Nat}(h:jE φ w K v z a bs)(hK:∀b,K b->w'.heap[b]? =w.heap[b]?)(hb:∀b∈bs,w'.heap[b]? =w.heap[b]?):jE φ w' K v z a bs:=by cases h with|mk b o z a vs bs h hv hr hz=>have eb:=hb b (by simp);exact .mk b o z a vs bs (dj.amC hK h λc hc=>hb c (by simp[hc])) (hv.of_block eb) (hr.of_block eb) hz
end
section
variable {P:Program} {φ:Nat->Nat}
end
section
variable {P:Program} {φ:Nat->Nat}
end
end Go.Ab
namespace Go.Lib
variable {P:Program}
def aeF{z:Value}(h1:∀v∈z.cells.toList,v.oneCell'=ar)(n:Nat):∀v∈(bQ z.cells n).toList,v.oneCell'=ar:=by
 intro v hv;simp only[bQ,Array.toList_map,dK]at hv;obtain⟨i,hi,rfl⟩:=hv;have hi':i<n*z.cells.size:=by simpa using hi
 have hpos:0<z.cells.size:=by(rcases Nat.eq_zero_or_pos z.cells.size with e|e);(·rw[e]at hi';omega);·exact e
 have hlt:i%z.cells.size<z.cells.size:=Nat.mod_lt _ hpos;rw[getElem!_pos z.cells _ hlt];exact h1 _ (by simp)
def W7(w:World)(t e ty:TypeId)(z:Value)(k:Nat)(ht:P.underlying t=ae (.slice e))(hv:∀w,(zeroValue e).run P w=.ok z w)(hz:z.cells.size=k)(h1:∀v∈z.cells.toList,v.oneCell'=ar)(b o n c:Nat)(hn:0<n) (hc:∀j,j<n*k->(w.cell? ⟨b,o+j,ai⟩).isSome=ar) (hf:∀j,j<n*k->w.frozen? ⟨b,o+j,ai⟩=aw): (apm #[t] ty #[.slice (ae ⟨b,o,ai⟩) n c]).run P w=.ok (.tuple #[]) (w.setCells b o (bQ z.cells n).toList):=by
 have hl:(bQ z.cells n).toList.length=n*k:=by rw[Ys,size_zeroCells,hz]
 have hst:=run_storeCells_cells (P:=P) b o (bQ z.cells n).toList 0 w (by simpa[hl]using hc) (by simpa[hl]using hf) (aeF h1 n);simp only[anr]at hst;obtain⟨m,rfl⟩:∃m,n=m+1:=⟨n-1,by omega⟩;simp[apm,run_underlying ht,hv,hst]
def W8(w:World)(tS tR e:TypeId)(ht:P.underlying tS=ae (.slice e))(size:Nat)(hz:∀w,(aun e).run P w=.ok size w) (a b:Addr) (la ca lb cb:Nat) (hne:a.block≠b.block) (tA tB:TypeId) (kA kB:Nat) (hsa:w.shape? a.block=ae (tA,kA)) (hsb:w.shape? b.block=ae (tB,kB)) (hkA:kA≠0) (hfb:w.frozen? b=aw) (hfe:w.frozen? {block:=b.block,off:=kB}=aw): (tM #[tS,tS] #[tR] #[.slice (ae a) la ca,.slice (ae b) lb cb]).run P w=.ok (.bool aw) w:=by
 have hnb:(a.block !=b.block)=ar:=by simpa using hne
 have hnb':(a.block==b.block)=aw:=by simpa using hne
 change Sem.run P (α:=Value) (do
  let ae t:=(#[tS,tS]:Array TypeId)[0]? |stuck "slices.overlaps: no parameter types"
  let .slice elem←underlying t|stuck "slices.overlaps: slice type expected"
  let size<-sizeOf elem
  match(ae a:Option Addr),(ae b:Option Addr)with
  |some a,ae b=>
   if la=0\/lb=0\/size=0 then pure (adC aw)
   else if a.block !=b.block&&(<-frozen a)&&(<-frozen b)then unsupported .addressObserved
   else do
    if a.block !=b.block then do
     noView a;noView b
     if←mayBeOne a b then return adC ((←choose (.extern "sameAddr.stringBytes" 2))==1)
    pure (adC (a.block==b.block&&a.off<b.off+lb*size&&b.off<a.off+la*size))
  |_,_=>pure (adC aw)) w=_
 by_cases h0:la=0\/lb=0\/size=0;·simp[run_underlying ht,hz,h0]
 ·cases kA with|zero=>exact absurd rfl hkA|succ kA=>simp[run_underlying ht,hz,h0,hnb,hnb',frozen,noView,viewAt,mayBeOne,stringish,shape,Sem.run,hsa,hsb,hfb,hfe]
end Go.Lib
namespace Go.Ab
section
variable {P:Program}
def wH(w:World)(dT sT ty elem:TypeId)(b o dLen dCap:Nat)(a:Addr)(sLen sCap:Nat)(cs:List Value)(z k:Nat) (hu:P.underlying dT=ae (.slice elem)) (hs:(P.info? elem).map (·.size)=ae z) (hk:Nat.min sLen dLen=k) (hn:cs.length=k*z) (hsrc:∀j v,cs[j]? =ae v->w.cell? (a.add j)=ae v) (hc:∀j,j<cs.length->(w.cell? ⟨b,o+j,ai⟩).isSome=ar) (hf:∀j,j<cs.length->w.frozen? ⟨b,o+j,ai⟩=aw) (h1:∀v∈cs,v.oneCell'=ar): (lO #[dT,sT] ty #[.slice (ae ⟨b,o,ai⟩) dLen dCap,.slice (ae a) sLen sCap]).run P w=.ok (goInt k) (w.setCells b o cs):=by have hl:=run_loadCells_list (P:=P) w a cs hsrc;have hst:=run_storeCells_cells (P:=P) b o cs 0 w (by simpa using hc) (by simpa using hf) h1;cases hq:P.info? elem with|none=>simp[hq]at hs|some i=>(have hi:i.size=z:=by simpa[hq]using hs);simp[lO,run_underlying hu,Builtin.lenOf,pC,sizeOf,typeInfo,hq,hi,hk,<-hn,hl,hst]
end
structure jd(b:Nat)(w w':World):Prop where
 size:w.heap.size<=w'.heap.size
 block:∀q,q<w.heap.size->q≠b->w'.heap[q]? =w.heap[q]?
 os:w'.os=w.os
 output:w'.output=w.output
 fr:∀q off,q<w.heap.size->w'.frozen? ⟨q,off,ai⟩=w.frozen? ⟨q,off,ai⟩
 room:∀{z:Nat} q n,fA z w q n->fA z w' q n
def jd.refl(b:Nat)(w:World):jd b w w:=⟨bm _,λ_ _ _=>rfl,rfl,rfl,λ_ _ _=>rfl,λ_ _ h=>h⟩
def jd.drew{b:Nat}{w w1:World}(h:jd b w w1):jd b w w1.drew:=⟨h.size,h.block,h.os,h.output,h.fr,h.room⟩
def jd.alloc{b:Nat}{w w1:World}(h:jd b w w1)(o:Obj):jd b w (w1.alloc o):=by
 have hs:(w1.alloc o).heap.size=w1.heap.size+1:=by simp
 have hb:∀q,q<w1.heap.size->(w1.alloc o).heap[q]? =w1.heap[q]? :=λq hq=>wi _ _ hq
 exact⟨by have:=h.size;omega,λq hq hn=>(hb q (bU hq h.size)).trans (h.block q hq hn),h.os,h.output,λq off hq=>(frozen?_of_block (hb q (bU hq h.size)) off).trans (h.fr q off hq),
  λq n hr=>have hr1:=h.room q n hr;hr1.of_block (hb q hr1.lt)⟩
def gR{z:Nat}{b:Nat}:∀(vs:List Value) (o:Nat) (w:World) {q n:Nat},fA z w q n->fA z (w.setCells b o vs) q n
 | [],_,_,_,_,h=>h
 |v::vs,o,w,_,_,h=>gR vs (o+1) _ (U7 h)
def Fj(b:Nat):∀(vs:List Value) (o:Nat) (w:World) (q:Nat),q≠b->(w.setCells b o vs).heap[q]? =w.heap[q]?
 | [],_,_,_,_=>rfl
 |v::vs,o,w,q,h=>(Fj b vs (o+1) _ q h).trans (nY _ _ _ _ _ h)
def A3(b:Nat):∀(vs:List Value) (o:Nat) (w:World),(w.setCells b o vs).heap.size=w.heap.size
 | [],_,_=>rfl
 |v::vs,o,w=>(A3 b vs (o+1) _).trans (Dp _ _ _)
def LS(b:Nat):∀(vs:List Value) (o:Nat) (w:World),(w.setCells b o vs).os=w.os/\(w.setCells b o vs).output=w.output
 | [],_,_=>⟨rfl,rfl⟩
 |v::vs,o,w=>LS b vs (o+1) _
def jd.setCells{b b':Nat}{w w1:World}(h:jd b w w1)(hb:b'=b\/w.heap.size<=b')(o:Nat)(vs:List Value):jd b w (w1.setCells b' o vs):=
 ⟨by rw[A3];exact h.size,λq hq hn=>(Fj _ _ _ _ _ (by omega)).trans (h.block q hq hn),(LS _ _ _ _).1.trans h.os,(LS _ _ _ _).2.trans h.output,
   λq off hq=>(World.frozen?_setCells _ _ _ _ _).trans (h.fr q off hq),λq n hr=>gR _ _ _ (h.room q n hr)⟩
structure pD(P:Program)(fn z:Nat):Prop where
 en:jR P fn
 nil:∀(ad:Option Addr) (va vo vc:Nat) (xs:List Value) (w:World),xs.length=z->cH w va vo xs->(∀v∈xs,v.oneCell'=ar)->va<w.heap.size->
  Calls P fn #[.slice ad 0 0,.int .i64 0,.slice (ae ⟨va,vo,ai⟩) 1 vc] w λe w'=>∃b' cp,e=.returned (.slice (ae ⟨b',0,ai⟩) 1 cp)/\1<=cp/\w.heap.size<=b'/\b'<w'.heap.size/\cH w' b' 0 xs/\fA z w' b' (cp*z)/\jd w.heap.size w w'
 run:∀(b o n c i va vo vc:Nat) (cs xs:List Value) (w:World),c≠0->n<=c->i<=n->n+1<1099511627776->cs.length=n*z->cH w b o cs->fA z w b (o+c*z)->xs.length=z->cH w va vo xs->va≠b->(∀v∈cs,v.oneCell'=ar)->(∀v∈xs,v.oneCell'=ar)->va<w.heap.size->
  (∃e k,w.shape? va=ae (e,k)/\k≠0)->
  Calls P fn #[.slice (ae ⟨b,o,ai⟩) n c,.int .i64 i,.slice (ae ⟨va,vo,ai⟩) 1 vc] w λe w'=>∃b' o' cp,e=.returned (.slice (ae ⟨b',o',ai⟩) (n+1) cp)/\n+1<=cp/\(b'=b\/w.heap.size<=b'/\b'<w'.heap.size)/\
   cH w' b' o' (cs.take (i*z)++xs++cs.drop (i*z))/\fA z w' b' (o'+cp*z)/\jd b w w'
section
variable {P:Program}
def aip{w:World}{e:TypeId}{t:TypeId}{i:TypeInfo}(ht:P.underlying t=ae (.slice e))(hi:P.info? e=ae i){z:Nat}(hz:i.size=z){zv:Value}(hzv:i.zero=ae zv)(hzs:zv.cells.size=z) (hb:i.bytes<=128) {base:Option Addr} {n c va vo vc:Nat} {cs xs:List Value} (hn:n+1<1099511627776) (hl:cs.length=n*z) (hx:xs.length=z) (hs:Src P i.size t (.slice (ae ⟨va,vo,ai⟩) 1 vc) 1 xs w) (hlt:c<n+1) (hold:(pC i.size n (.slice base n c)).run P w.drew=.ok cs.toArray w.drew) (ty:TypeId) (b:Nat): ∃cp w',(fU #[t,t] ty #[.slice base n c,.slice (ae ⟨va,vo,ai⟩) 1 vc]).run P w=.ok (.slice (ae ⟨w.heap.size,0,ai⟩) (n+1) cp) w'/\n+1<=cp/\w.heap.size<w'.heap.size/\cH w' w.heap.size 0 (cs++xs)/\fA z w' w.heap.size (cp*z)/\jd b w w':=by
 have hfit:ahN (n+1) c*i.bytes<=281474976710656:=growslice_fits hlt (by have:=VG (show n+1<=1099511627776 by omega) hb;omega);have hrun:=run_append_grow_src (P:=P) w t t ty e i zv ht hi hzv base n c cs hold (.slice (ae ⟨va,vo,ai⟩) 1 vc) 1 xs hs hlt (by omega) hfit;have hge:=grownCap_ge w (n+1) c e;have hh:(w.drew.alloc (.cells ((cs++xs).toArray++bQ zv.cells (grownCap w (n+1) c e-(n+1))) e)).heap= w.heap.push (.cells ((cs++xs).toArray++bQ zv.cells (grownCap w (n+1) c e-(n+1))) e):=rfl;have hcp:=pG hh;have htl:((cs++xs).toArray++bQ zv.cells (grownCap w (n+1) c e-(n+1))).toList=(cs++xs)++(bQ zv.cells (grownCap w (n+1) c e-(n+1))).toList:=by simp
 rw[htl]at hcp;have hsz:((cs++xs).toArray++bQ zv.cells (grownCap w (n+1) c e-(n+1))).size=grownCap w (n+1) c e*z:=by rw[Mo,size_zeroCells,hzs];simp only[Nu,aQ,hl,hx];rw[show n*z+z=(n+1)*z by rw[dW],<-Ga];congr 1;omega
 refine⟨_,_,hrun,hge,by rw[hh];simp,hcp.left,fA.le (by rw[hsz];exact bm _) (Ax hh),?_⟩;exact((jd.refl b w).drew).alloc _
def am2{w:World}{t e:TypeId}(ht:P.underlying t=ae (.slice e)){z va vo vc:Nat}{xs:List Value}(hx:xs.length=z)(hc:cH w va vo xs)(h1:∀v∈xs,v.oneCell'=ar):Src P z t (.slice (ae ⟨va,vo,ai⟩) 1 vc) 1 xs w:=
 asr w ht ⟨va,vo,ai⟩ 1 vc xs (by rw[hx,Nat.one_mul]) (λj u hj=>by rw[World.cell?_add];exact hc j u hj) h1
def asZ{w:World}{e:TypeId}{t:TypeId}{i:TypeInfo}(ht:P.underlying t=ae (.slice e))(hi:P.info? e=ae i){z:Nat}(hz:i.size=z){zv:Value}(hzv:i.zero=ae zv)(hzs:zv.cells.size=z) (hb:i.bytes<=128) {ad:Option Addr} {va vo vc:Nat} {xs:List Value} (hx:xs.length=z) (hc:cH w va vo xs) (h1:∀v∈xs,v.oneCell'=ar) (ty:TypeId): ∃cp w',(fU #[t,t] ty #[.slice ad 0 0,.slice (ae ⟨va,vo,ai⟩) 1 vc]).run P w=.ok (.slice (ae ⟨w.heap.size,0,ai⟩) 1 cp) w'/\1<=cp/\w.heap.size<w'.heap.size/\cH w' w.heap.size 0 xs/\fA z w' w.heap.size (cp*z)/\jd w.heap.size w w':=by
 have hold:(pC i.size 0 (.slice ad 0 0)).run P w.drew=.ok ([]:List Value).toArray w.drew:=by cases ad with|none=>exact run_firstCells_none w.drew i.size 0 0 0|some ad=>exact run_firstCells_some w.drew i.size 0 ad 0 0 [] (by simp) (λj u h=>by simp at h)
 obtain⟨cp,w',q⟩:=aip (vc:=vc) (n:=0) (c:=0) (cs:=[]) (base:=ad) ht hi hz hzv hzs hb (by omega) (by simp) hx (by rw[hz];exact am2 ht hx hc h1) (by omega) hold ty w.heap.size;exact⟨cp,w',q⟩
def asY{w:World}{e:TypeId}{t:TypeId}{i:TypeInfo}(ht:P.underlying t=ae (.slice e))(hi:P.info? e=ae i){z:Nat}(hz:i.size=z){zv:Value}(hzv:i.zero=ae zv)(hzs:zv.cells.size=z) (hb:i.bytes<=128) {b o n c va vo vc:Nat} {cs xs:List Value} (hnc:n<=c) (hn:n+1<1099511627776) (hl:cs.length=n*z) (hcs:cH w b o cs) (hr:fA z w b (o+c*z)) (hx:xs.length=z) (hc:cH w va vo xs) (h1:∀v∈xs,v.oneCell'=ar) (ty:TypeId): ∃b' o' cp w',(fU #[t,t] ty #[.slice (ae ⟨b,o,ai⟩) n c,.slice (ae ⟨va,vo,ai⟩) 1 vc]).run P w=.ok (.slice (ae ⟨b',o',ai⟩) (n+1) cp) w'/\n+1<=cp/\(b'=b\/w.heap.size<=b'/\b'<w'.heap.size)/\cH w' b' o' (cs++xs)/\fA z w' b' (o'+cp*z)/\jd b w w':=by
 have hs:=am2 (vc:=vc) ht hx hc h1;by_cases hroom:n+1<=c
 ·have hle:n*z+z<=c*z:=by rw[<-dW];exact cu _ hroom
  have hpos:∀j,j<xs.length->(w.cell? ⟨b,o+n*i.size+j,ai⟩).isSome=ar/\w.frozen? ⟨b,o+n*i.size+j,ai⟩=aw:=λj hj=>hr.cell (by rw[hz];omega);have hrun:=run_append_room_src (P:=P) w t t ty e i ht hi b o n c (.slice (ae ⟨va,vo,ai⟩) 1 vc) 1 xs (by rw[hz];exact hs) hroom (λj hj=>(hpos j hj).1) (λj hj=>(hpos j hj).2);refine⟨b,o,c,_,hrun,hroom,.inl rfl,?_,gR _ _ _ hr,(jd.refl b w).setCells (.inl rfl) _ _⟩;rw[hz];refine cH.append (λj v hj=> ?_) (λj v hj=> ?_);·(have hjl:j<cs.length:=by(rcases bH j cs.length with h|h);(·exact h);·simp[bB h]at hj);rw[KD b xs _ w ⟨b,o+j,ai⟩ (λ_ _=>.inl (by simp;omega))];exact hcs j v hj
  ·(have hjl:j<xs.length:=by(rcases bH j xs.length with h|h);(·exact h);·simp[bB h]at hj);rw[hl,aj9 b xs (o+n*z) w (λj hj=>by have:=(hpos j hj).1;rwa[hz]at this) j hjl,<-hj];simp
 ·obtain⟨cp,w',q1,q2,q3,q4,q5,q6⟩:=aip (base:=ae ⟨b,o,ai⟩) (n:=n) (c:=c) (cs:=cs) ht hi hz hzv hzs hb hn hl hx (by rw[hz];exact hs) (by omega) (run_firstCells_some w.drew i.size n ⟨b,o,ai⟩ n c cs (by rw[hl,hz]) (λj u hj=>by rw[World.cell?_add];exact hcs j u hj)) ty b;exact⟨w.heap.size,0,cp,w',q1,q2,.inr ⟨bm _,q3⟩,q4,by rw[c8];exact q5,q6⟩
end
def aln{z:Nat}{w:World}{b o k m:Nat}(h:fA z w b m)(hk:o+k<=m):∃ex:List Value,ex.length=k/\cH w b o ex:=by
 obtain⟨C,e,fr,h1,h2,h3⟩:=h;refine⟨(C.toList.drop o).take k,by simp;omega,λj v hj=> ?_⟩;rw[oB]at hj;split at hj;·rw[Je,n9]at hj;simp only[df,h1];exact hj
 ·cases hj
def anZ{n i z:Nat}{cs ex xs:List Value}(hi:i<n)(hl:cs.length=n*z)(hx:xs.length=z)(he:ex.length=z): (((cs++ex).take ((i+1)*z)++cs.drop (i*z)++(cs++ex).drop ((i+1)*z+(cs.drop (i*z)).length)).take (i*z)++xs++((cs++ex).take ((i+1)*z)++cs.drop (i*z)++(cs++ex).drop ((i+1)*z+(cs.drop (i*z)).length)).drop (i*z+xs.length))=cs.take (i*z)++xs++cs.drop (i*z):=by
 have h1:i*z<=n*z:=cu _ (by omega);have h2:(i+1)*z<=n*z:=cu _ (by omega);have h3:(i+1)*z=i*z+z:=dW _ _;have e1:(cs++ex).drop ((i+1)*z+(cs.drop (i*z)).length)=[]:=bb (by rw[aQ,dm];omega);have e2:(cs++ex).take ((i+1)*z)=cs.take ((i+1)*z):=by rw[kt (by omega)]
 rw[e1,e2,bS,hx];have e3:(cs.take ((i+1)*z)).length=(i+1)*z:=by rw[cQ];omega
 have e4:(cs.take ((i+1)*z)++cs.drop (i*z)).take (i*z)=cs.take (i*z):=by rw[kt (by omega),List.take_take];congr 1;omega
 have e5:(cs.take ((i+1)*z)++cs.drop (i*z)).drop (i*z+z)=cs.drop (i*z):=by rw[F9,bb (by omega),dU,e3];rw[show i*z+z-(i+1)*z=0 by omega,dV]
 rw[e4,e5]
def an0{w:World}{b o n c i z:Nat}{cs xs:List Value}(hi:i<n)(hroom:n+1<=c)(hl:cs.length=n*z)(hcs:cH w b o cs)(hr:fA z w b (o+c*z))(hx:xs.length=z): cH ((w.setCells b (o+(i+1)*z) (cs.drop (i*z))).setCells b (o+i*z) xs) b o (cs.take (i*z)++xs++cs.drop (i*z)):=by
 have hle:(n+1)*z<=c*z:=cu _ hroom;have h4:(n+1)*z=n*z+z:=dW _ _;have h3:(i+1)*z=i*z+z:=dW _ _;have h1:i*z+z<=n*z:=by rw[<-h3];exact cu _ (by omega)
 obtain⟨ex,he,hex⟩:=aln (o:=o+n*z) (k:=z) hr (by omega);have h0:cH w b o (cs++ex):=hcs.append (by rw[hl];exact hex);have hdl:(cs.drop (i*z)).length=n*z-i*z:=by rw[dm,hl]
 have w1:=cH.write (news:=cs.drop (i*z)) (c:=(i+1)*z) h0 (hr.le (by rw[aQ,hl,he];omega)) (by rw[aQ,hl,he,hdl];omega)
 have w2:=cH.write (news:=xs) (c:=i*z) w1 ((gR _ _ _ hr).le (by
  simp only[aQ,cQ,dm,hl,he];omega)) (by
  simp only[aQ,cQ,dm,hl,he,hx];omega)
 rw[anZ hi hl hx he]at w2;exact w2
def an6{w:World}{N n i z:Nat}{cs xs zs:List Value}{m:Nat}(hi:i<n)(hl:cs.length=n*z)(hx:xs.length=z)(hzs:zs.length=(n+1-i)*z)(h0:cH w N 0 (cs.take (i*z)++zs))(hr:fA z w N m)(hm:(n+1)*z<=m): cH ((w.setCells N (i*z) xs).setCells N ((i+1)*z) (cs.drop (i*z))) N 0 (cs.take (i*z)++xs++cs.drop (i*z)):=by
 have h3:(i+1)*z=i*z+z:=dW _ _;have h4:(n+1)*z=n*z+z:=dW _ _;have h1:i*z+z<=n*z:=by rw[<-h3];exact cu _ (by omega)
 have hz1:(n+1-i)*z=n*z+z-i*z:=by rw[uY,h4]
 have htl:(cs.take (i*z)).length=i*z:=by rw[cQ];omega
 have hdl:(cs.drop (i*z)).length=n*z-i*z:=by rw[dm,hl]
 have w1:=cH.write (news:=xs) (c:=i*z) h0 (hr.le (by rw[aQ,htl,hzs];omega)) (by rw[aQ,htl,hzs,hx];omega);rw[c8]at w1;have e1:(cs.take (i*z)++zs).take (i*z)++xs++(cs.take (i*z)++zs).drop (i*z+xs.length)=cs.take (i*z)++xs++zs.drop z:=by rw[hx,kt (by omega),dO (by omega),F9,bb (by omega),dU,htl];congr 2;omega
 rw[e1]at w1;have w2:=cH.write (news:=cs.drop (i*z)) (c:=(i+1)*z) w1 ((gR _ _ _ hr).le (by simp only[aQ,htl,hx,dm,hzs];omega)) (by simp only[aQ,htl,hx,dm,hzs,hl];omega);rw[c8]at w2;have e2:(cs.take (i*z)++xs++zs.drop z).take ((i+1)*z)=cs.take (i*z)++xs:=by rw[kt (by rw[aQ,htl,hx];omega),dO (by rw[aQ,htl,hx];omega)]
 have e3:(cs.take (i*z)++xs++zs.drop z).drop ((i+1)*z+(cs.drop (i*z)).length)=[]:=bb (by simp only[aQ,htl,hx,dm,hzs,hl];omega);rw[e2,e3,bS]at w2;exact w2
structure Rn(P:Program)(z tS tE tI tB ov:Nat)(zv:Value):Prop where
 hS:P.underlying tS=ae (.slice tE)
 hI:P.underlying tI=ae (.int .i64)
 info:∃i,P.info? tE=ae i/\i.zero=ae zv/\i.size=z/\i.bytes<=128
 hc:zv.cells.size=z
 h0:1<z
 ho:∀args w,(callFunc ov args).run P w=((tM #[tS,tS] #[tB] args).run P w).andThen λv w'=>.ok (.value v) w'
section
variable {P:Program} {z tS tE tI tB ov:Nat} {zv:Value}
def Rn.mk'(hS:P.underlying tS=ae (.slice tE))(hI:P.underlying tI=ae (.int .i64))(h:(P.info? tE).map (λi=>(i.zero,i.size,ah (i.bytes<=128)))=ae (ae zv,z,ar))(hc:zv.cells.size=z)(h0:1<z) {fn:Func} (hf:P.funcs[ov]? =ae fn) (h1:(fn.name== "runtime.NumGoroutine")=aw) (h2:fn.body.isNone=ar) (h3:Extern.findNext fn=ai) (h4:Extern.find fn=ae (tM #[tS,tS] #[tB])):Rn P z tS tE tI tB ov zv:=by obtain⟨i,hi,he⟩:=au.1 h;simp only[be]at he;exact⟨hS,hI,⟨i,hi,he.1,he.2.1,cd he.2.2⟩,hc,h0,run_callFunc_extern hf h1 h2 h3 h4⟩
def Rn.room(T:Rn P z tS tE tI tB ov zv){b o n c i va vo vc:Nat}{cs xs:List Value}{w:World}(hlt:i<n)(hroom:n+1<=c)(hn:n+1<1099511627776)(hl:cs.length=n*z)(hcs:cH w b o cs)(hr:fA z w b (o+c*z)) (hx:xs.length=z) (hc:cH w va vo xs) (hne:va≠b) (h1c:∀v∈cs,v.oneCell'=ar) (h1:∀v∈xs,v.oneCell'=ar) (hva:va<w.heap.size) (hsh:∃e k,w.shape? va=ae (e,k)/\k≠0): (∀lb cb,(callFunc ov #[.slice (ae ⟨va,vo,ai⟩) 1 vc,.slice (ae ⟨b,o+(i+1)*z,ai⟩) lb cb]).run P w=.ok (.value (.bool aw)) w)/\ (∀ty dc sc,(lO #[tS,tS] ty #[.slice (ae ⟨b,o+(i+1)*z,ai⟩) (n-i) dc,.slice (ae ⟨b,o+i*z,ai⟩) (n+1-i) sc]).run P w.drew=.ok (goInt ((n-i:Nat):Int)) (w.drew.setCells b (o+(i+1)*z) (cs.drop (i*z))))/\ (∀ty dc,(lO #[tS,tS] ty #[.slice (ae ⟨b,o+i*z,ai⟩) (n+1-i) dc,.slice (ae ⟨va,vo,ai⟩) 1 vc]).run P (w.drew.setCells b (o+(i+1)*z) (cs.drop (i*z)))=.ok (goInt 1) ((w.drew.setCells b (o+(i+1)*z) (cs.drop (i*z))).setCells b (o+i*z) xs))/\ cH ((w.drew.setCells b (o+(i+1)*z) (cs.drop (i*z))).setCells b (o+i*z) xs) b o (cs.take (i*z)++xs++cs.drop (i*z))/\ fA z ((w.drew.setCells b (o+(i+1)*z) (cs.drop (i*z))).setCells b (o+i*z) xs) b (o+c*z)/\ jd b w ((w.drew.setCells b (o+(i+1)*z) (cs.drop (i*z))).setCells b (o+i*z) xs):=by
 obtain⟨iE,hi,hz0,hsz,hby⟩:=T.info;have h0:=T.h0;have hszm:(P.info? tE).map (·.size)=ae z:=by rw[hi];simp[hsz]
 have hzE:∀w,(aun tE).run P w=.ok z w:=λw=>by simp[aun,typeInfo,hi,hsz]
 have hdl:(cs.drop (i*z)).length=(n-i)*z:=by rw[dm,hl,uY]
 have h1d:∀v∈cs.drop (i*z),v.oneCell'=ar:=λv hv=>h1c v (cA hv);have hle:(n+1)*z<=c*z:=cu _ hroom;have h4:(n+1)*z=n*z+z:=dW _ _;have h3:(i+1)*z=i*z+z:=dW _ _;have h5:(n-i)*z=n*z-i*z:=uY _ _ _;have h6:i*z+z<=n*z:=by rw[<-h3];exact cu _ (by omega)
 obtain⟨tA,kA,hsa,hkA⟩:=hsh;obtain⟨C,eC,frC,g1,g2,g3⟩:=id hr;have hsb:w.shape? b=ae (eC,C.size):=by simp[avb,g1]
 have hlt9:o+(i+1)*z<C.size:=by rw[h3];clear h5 hdl;omega
 have hcs0:cH w.drew b o cs:=λj v hj=>hcs j v hj;have hr0:fA z w.drew b (o+c*z):=hr;have hT1:jd b w (w.drew.setCells b (o+(i+1)*z) (cs.drop (i*z))):=((jd.refl b w).drew).setCells (.inl rfl) _ _;have hr1:fA z (w.drew.setCells b (o+(i+1)*z) (cs.drop (i*z))) b (o+c*z):=gR _ _ _ hr0;have hx1:cH (w.drew.setCells b (o+(i+1)*z) (cs.drop (i*z))) va vo xs:=hc.of_block (hT1.block va hva hne);refine⟨λlb cb=> ?_,λty dc sc=> ?_,λty dc=> ?_,an0 hlt hroom hl hcs0 hr0 hx,gR _ _ _ hr1,hT1.setCells (.inl rfl) _ _⟩;·rw[T.ho,Go.Lib.W8 w tS tB tE T.hS z hzE ⟨va,vo,ai⟩ ⟨b,o+(i+1)*z,ai⟩ 1 vc lb cb hne tA eC kA C.size hsa hsb hkA (g3 _ (.inl hlt9)) (g3 _ (.inr ⟨rfl,by omega⟩))];rfl
 ·exact wH w.drew _ _ ty tE b (o+(i+1)*z) (n-i) dc ⟨b,o+i*z,ai⟩ (n+1-i) sc (cs.drop (i*z)) z (n-i) T.hS hszm (by simp only[ady];split<;>omega) hdl
   (λj v hj=>by
     rw[World.cell?_add]
     exact(hcs0.drop (i*z)) j v hj) (λj hj=>(hr0.cell (by omega)).1) (λj hj=>(hr0.cell (by omega)).2) h1d
 ·exact wH _ _ _ ty tE b (o+i*z) (n+1-i) dc ⟨va,vo,ai⟩ 1 vc xs z 1 T.hS hszm (by simp only[ady];split<;>omega) (by omega) (λj v hj=>by rw[World.cell?_add];exact hx1 j v hj) (λj hj=>(hr1.cell (by omega)).1) (λj hj=>(hr1.cell (by omega)).2) h1
def Rn.grow(T:Rn P z tS tE tI tB ov zv){b o n c i va vo vc:Nat}{cs xs:List Value}{w:World}(hlt:i<n)(hroom:¬n+1<=c)(hnc:n<=c)(hn:n+1<1099511627776)(hl:cs.length=n*z)(hcs:cH w b o cs)(hr:fA z w b (o+c*z)) (hx:xs.length=z) (hc:cH w va vo xs) (hne:va≠b) (h1c:∀v∈cs,v.oneCell'=ar) (h1:∀v∈xs,v.oneCell'=ar) (hva:va<w.heap.size): ∃(W1:World) (G:Nat),(∀ty,(fU #[tS,tI] ty #[.slice (ae ⟨b,o,ai⟩) i c,.int .i64 ((n:Int)+1-(i:Int))]).run P w=.ok (.slice (ae ⟨w.heap.size,0,ai⟩) (n+1) G) W1)/\n+1<=G/\ (∀ty dc,(lO #[tS,tS] ty #[.slice (ae ⟨w.heap.size,i*z,ai⟩) (n+1-i) dc,.slice (ae ⟨va,vo,ai⟩) 1 vc]).run P W1=.ok (goInt 1) (W1.setCells w.heap.size (i*z) xs))/\ (∀ty dc sc,(lO #[tS,tS] ty #[.slice (ae ⟨w.heap.size,(i+1)*z,ai⟩) (n+1-(i+1)) dc,.slice (ae ⟨b,o+i*z,ai⟩) (n-i) sc]).run P (W1.setCells w.heap.size (i*z) xs).drew=.ok (goInt ((n-i:Nat):Int)) ((W1.setCells w.heap.size (i*z) xs).drew.setCells w.heap.size ((i+1)*z) (cs.drop (i*z))))/\ w.heap.size<((W1.setCells w.heap.size (i*z) xs).drew.setCells w.heap.size ((i+1)*z) (cs.drop (i*z))).heap.size/\ cH ((W1.setCells w.heap.size (i*z) xs).drew.setCells w.heap.size ((i+1)*z) (cs.drop (i*z))) w.heap.size 0 (cs.take (i*z)++xs++cs.drop (i*z))/\ fA z ((W1.setCells w.heap.size (i*z) xs).drew.setCells w.heap.size ((i+1)*z) (cs.drop (i*z))) w.heap.size (0+G*z)/\ jd b w ((W1.setCells w.heap.size (i*z) xs).drew.setCells w.heap.size ((i+1)*z) (cs.drop (i*z))):=by
 obtain⟨iE,hi,hz0,hsz,hby⟩:=T.info;have h0:=T.h0;have hbw:b<w.heap.size:=hr.lt;have hszm:(P.info? tE).map (·.size)=ae z:=by rw[hi];simp[hsz]
 have hdl:(cs.drop (i*z)).length=(n-i)*z:=by rw[dm,hl,uY]
 have h1d:∀v∈cs.drop (i*z),v.oneCell'=ar:=λv hv=>h1c v (cA hv);have hzc:∀k,(bQ zv.cells k).size=k*z:=λk=>by rw[size_zeroCells,T.hc]
 have hil:i*z+z<=n*z:=by rw[<-dW];exact cu _ (by omega)
 have hold:(pC iE.size i (.slice (ae ⟨b,o,ai⟩) i c)).run P w.drew=.ok (cs.take (i*z)).toArray w.drew:=by
  rw[hsz]
  exact run_firstCells_some w.drew z i ⟨b,o,ai⟩ i c (cs.take (i*z)) (by rw[cQ];omega) (λj v hj=>by
   rw[World.cell?_add]
   exact(hcs.take (i*z)) j v hj)
 have hik:i+(n+1-i)=n+1:=by omega
 have hkk:(n:Int)+1-(i:Int)=((n+1-i:Nat):Int):=by omega
 have hk1:(n+1-i)*iE.bytes<=281474976710656:=by have:=VG (show n+1-i<=1099511627776 by omega) hby;omega
 have hrz:=λty=>Go.Lib.run_append_grow_zeros w tS tI ty tE iE _ .i64 .i64 T.hS T.hI hi hz0 (ae ⟨b,o,ai⟩) i c (cs.take (i*z)) hold (n+1-i) (by omega) (by omega) (by omega) (by omega) hk1 (by rw[hik];exact growslice_fits (by omega) (by have:=VG (show n+1<=1099511627776 by omega) hby;omega));rw[hik,<-hkk]at hrz;obtain⟨G,hG⟩:∃G,G=grownCap w (n+1) c tE:=⟨_,rfl⟩;have hGn:n+1<=G:=by rw[hG];exact grownCap_ge w _ _ _
 have hGz:(n+1)*z<=G*z:=cu _ hGn;have h4:(n+1)*z=n*z+z:=dW _ _;have h3:(i+1)*z=i*z+z:=dW _ _;have h5:(n-i)*z=n*z-i*z:=uY _ _ _;rw[<-hG]at hrz;obtain⟨ROW,hROW⟩:∃ROW:Array Value,ROW=(cs.take (i*z)).toArray++bQ zv.cells (n+1-i)++bQ zv.cells (G-(n+1)):=⟨_,rfl⟩;rw[<-hROW]at hrz;have hz1:(n+1-i)*z=n*z+z-i*z:=by rw[uY,h4]
 have hz2:(G-(n+1))*z=G*z-(n*z+z):=by rw[uY,h4]
 have hRs:ROW.size=G*z:=by rw[hROW,Mo,Mo,hzc,hzc,Nu,cQ];omega
 have hh:(w.drew.alloc (.cells ROW tE)).heap=w.heap.push (.cells ROW tE):=rfl;have hcell0:cH (w.drew.alloc (.cells ROW tE)) w.heap.size 0 (cs.take (i*z)++(bQ zv.cells (n+1-i)).toList):=by have:=pG hh;(have e:ROW.toList=(cs.take (i*z)++(bQ zv.cells (n+1-i)).toList)++(bQ zv.cells (G-(n+1))).toList:=by rw[hROW];simp);rw[e]at this;exact this.left
 have hroomN:fA z (w.drew.alloc (.cells ROW tE)) w.heap.size (G*z):=by rw[<-hRs];exact Ax hh
 have hT:jd b w (w.drew.alloc (.cells ROW tE)):=((jd.refl b w).drew).alloc _;obtain⟨W1,hW1⟩:∃W1,W1=w.drew.alloc (.cells ROW tE):=⟨_,rfl⟩;have hW1s:W1.heap.size=w.heap.size+1:=by rw[hW1,hh];simp
 rw[<-hW1]at hrz hcell0 hroomN hT;have hxW:cH W1 va vo xs:=hc.of_block (hT.block va hva hne);have hcW:cH W1 b o cs:=λj v hj=>by(have:W1.heap[b]? =w.heap[b]? :=by rw[hW1,hh,zo hbw,vA hbw]);have h:=hcs j v hj;simp only[df,this]at h⊢;exact h
 have hT2:jd b w (W1.setCells w.heap.size (i*z) xs).drew:=(hT.setCells (.inr (bm _)) _ _).drew;have hroom2:fA z (W1.setCells w.heap.size (i*z) xs).drew w.heap.size (G*z):=gR (b:=w.heap.size) xs (i*z) W1 hroomN;have hcW2:cH (W1.setCells w.heap.size (i*z) xs).drew b o cs:=hcW.of_block (Fj _ _ _ _ _ (by omega));refine⟨W1,G,hrz,hGn,λty dc=> ?_,λty dc sc=> ?_,?_,?_,?_,hT2.setCells (.inr (bm _)) _ _⟩;·exact wH W1 _ _ ty tE w.heap.size (i*z) (n+1-i) dc ⟨va,vo,ai⟩ 1 vc xs z 1 T.hS hszm (by simp only[ady];split<;>omega) (by omega) (λj v hj=>by rw[World.cell?_add];exact hxW j v hj) (λj hj=>(hroomN.cell (by omega)).1) (λj hj=>(hroomN.cell (by omega)).2) h1
 ·exact wH _ _ _ ty tE w.heap.size ((i+1)*z) (n+1-(i+1)) dc ⟨b,o+i*z,ai⟩ (n-i) sc (cs.drop (i*z)) z (n-i) T.hS hszm (by simp only[ady];split<;>omega) hdl
   (λj v hj=>by
     rw[World.cell?_add]
     exact(hcW2.drop (i*z)) j v hj) (λj hj=>(hroom2.cell (by omega)).1) (λj hj=>(hroom2.cell (by omega)).2) h1d
 ·rw[A3];show w.heap.size<(W1.setCells w.heap.size (i*z) xs).heap.size;rw[A3,hW1s];omega
 ·have:=an6 (w:=W1) hlt hl hx (by rw[Ys,hzc]) hcell0 hroomN (by omega);rw[<-Go.Proofs.drew_setCells];intro j v hj;exact this j v hj
 ·rw[c8];exact gR _ _ _ hroom2
def Rn.walk(T:Rn P z tS tE tI tB ov zv){fn:Nat}(en:jR P fn) (H1:∀(ad:Option Addr) (va vo vc cp:Nat) (w w1:World),(fU #[tS,tS] tS #[.slice ad 0 0,.slice (ae ⟨va,vo,ai⟩) 1 vc]).run P w=.ok (.slice (ae ⟨w.heap.size,0,ai⟩) 1 cp) w1-> Calls P fn #[.slice ad 0 0,.int .i64 0,.slice (ae ⟨va,vo,ai⟩) 1 vc] w λe w'=>e=.returned (.slice (ae ⟨w.heap.size,0,ai⟩) 1 cp)/\w'=w1) (H2:∀(b o n c i va vo vc:Nat) (cs xs:List Value) (w:World),i<n->n+1<=c->n+1<1099511627776->va<w.heap.size->b<w.heap.size-> (∀lb cb,(callFunc ov #[.slice (ae ⟨va,vo,ai⟩) 1 vc,.slice (ae ⟨b,o+(i+1)*z,ai⟩) lb cb]).run P w=.ok (.value (.bool aw)) w)-> (∀ty dc sc,(lO #[tS,tS] ty #[.slice (ae ⟨b,o+(i+1)*z,ai⟩) (n-i) dc,.slice (ae ⟨b,o+i*z,ai⟩) (n+1-i) sc]).run P w.drew=.ok (goInt ((n-i:Nat):Int)) (w.drew.setCells b (o+(i+1)*z) (cs.drop (i*z))))-> (∀ty dc,(lO #[tS,tS] ty #[.slice (ae ⟨b,o+i*z,ai⟩) (n+1-i) dc,.slice (ae ⟨va,vo,ai⟩) 1 vc]).run P (w.drew.setCells b (o+(i+1)*z) (cs.drop (i*z)))=.ok (goInt 1) ((w.drew.setCells b (o+(i+1)*z) (cs.drop (i*z))).setCells b (o+i*z) xs))-> Calls P fn #[.slice (ae ⟨b,o,ai⟩) n c,.int .i64 i,.slice (ae ⟨va,vo,ai⟩) 1 vc] w λe w'=>e=.returned (.slice (ae ⟨b,o,ai⟩) (n+1) c)/\w'=(w.drew.setCells b (o+(i+1)*z) (cs.drop (i*z))).setCells b (o+i*z) xs) (H3:∀(b o n c i va vo vc G:Nat) (cs xs:List Value) (w W1:World),i<n->n<=c->¬n+1<=c->n+1<1099511627776->va<w.heap.size->b<w.heap.size->n+1<=G-> (fU #[tS,tI] tS #[.slice (ae ⟨b,o,ai⟩) i c,.int .i64 ((n:Int)+1-(i:Int))]).run P w=.ok (.slice (ae ⟨w.heap.size,0,ai⟩) (n+1) G) W1-> (∀ty dc,(lO #[tS,tS] ty #[.slice (ae ⟨w.heap.size,i*z,ai⟩) (n+1-i) dc,.slice (ae ⟨va,vo,ai⟩) 1 vc]).run P W1=.ok (goInt 1) (W1.setCells w.heap.size (i*z) xs))-> (∀ty dc sc,(lO #[tS,tS] ty #[.slice (ae ⟨w.heap.size,(i+1)*z,ai⟩) (n+1-(i+1)) dc,.slice (ae ⟨b,o+i*z,ai⟩) (n-i) sc]).run P (W1.setCells w.heap.size (i*z) xs).drew=.ok (goInt ((n-i:Nat):Int)) ((W1.setCells w.heap.size (i*z) xs).drew.setCells w.heap.size ((i+1)*z) (cs.drop (i*z))))-> Calls P fn #[.slice (ae ⟨b,o,ai⟩) n c,.int .i64 i,.slice (ae ⟨va,vo,ai⟩) 1 vc] w λe w'=>e=.returned (.slice (ae ⟨w.heap.size,0,ai⟩) (n+1) G)/\w'=(W1.setCells w.heap.size (i*z) xs).drew.setCells w.heap.size ((i+1)*z) (cs.drop (i*z))) (H4:∀(b o n c va vo vc b' o' cp:Nat) (w w1:World),c≠0->n<=c->n+1<1099511627776->(fU #[tS,tS] tS #[.slice (ae ⟨b,o,ai⟩) n c,.slice (ae ⟨va,vo,ai⟩) 1 vc]).run P w=.ok (.slice (ae ⟨b',o',ai⟩) (n+1) cp) w1-> Calls P fn #[.slice (ae ⟨b,o,ai⟩) n c,.int .i64 n,.slice (ae ⟨va,vo,ai⟩) 1 vc] w λe w'=>e=.returned (.slice (ae ⟨b',o',ai⟩) (n+1) cp)/\w'=w1):pD P fn z:=by
 obtain⟨iE,hi,hz0,hsz,hby⟩:=T.info;refine⟨en,?_,?_⟩;·intro ad va vo vc xs w hx hc h1 hva;obtain⟨cp,w1,hrun,q1,q2,q3,q4,q5⟩:=asZ (vc:=vc) (ad:=ad) T.hS hi hsz hz0 T.hc hby hx hc h1 tS;refine(H1 ad va vo vc cp w w1 hrun).mono λe w' hh=> ?_;obtain⟨rfl,rfl⟩:=hh;exact⟨_,cp,rfl,q1,bm _,q2,q3,q4,q5⟩
 ·intro b o n c i va vo vc cs xs w hc0 hnc hin hn hl hcs hr hx hc hne h1c h1 hva hsh;rcases bH i n with hlt|hge
  ·by_cases hroom:n+1<=c;(·obtain⟨a1,a2,a3,a4,a5,a6⟩:=T.room hlt hroom hn hl hcs hr hx hc hne h1c h1 hva hsh;refine(H2 b o n c i va vo vc cs xs w hlt hroom hn hva hr.lt a1 a2 a3).mono λe w' hh=> ?_;obtain⟨rfl,rfl⟩:=hh;exact⟨b,o,c,rfl,hroom,.inl rfl,a4,a5,a6⟩);·obtain⟨W1,G,a1,a2,a3,a4,a5,a6,a7,a8⟩:=T.grow hlt hroom hnc hn hl hcs hr hx hc hne h1c h1 hva;refine(H3 b o n c i va vo vc G cs xs w W1 hlt hnc hroom hn hva hr.lt a2 (a1 tS) a3 a4).mono λe w' hh=> ?_;obtain⟨rfl,rfl⟩:=hh;exact⟨w.heap.size,0,G,rfl,a2,.inr ⟨bm _,a5⟩,a6,a7,a8⟩
  ·(obtain rfl:i=n:=by omega);obtain⟨b',o',cp,w1,hrun,q1,q2,q3,q4,q5⟩:=asY (vc:=vc) T.hS hi hsz hz0 T.hc hby hnc hn hl hcs hr hx hc h1 tS;refine(H4 b o i c va vo vc b' o' cp w w1 hc0 hnc hn hrun).mono λe w' hh=> ?_;obtain⟨rfl,rfl⟩:=hh;refine⟨b',o',cp,rfl,q1,q2,?_,q4,q5⟩;rw[dO (by omega),bb (by omega),bS];exact q3
end
noncomputable def insertC(E:ET):Callee:=
 {io:=[ar,aw,aw],ps:=[.lB E,.d Ed,.d (.one (.sl E))],rs:=[.tok E],os:=[.gone],
  f:=λx=>if ah (cP (α:=E.ty) x.2.2.1=1)&&(ah (0<=x.2.1)&&(ah (x.2.1<=(cP (α:=E.ty) x.1:Int))&&ah (cP (α:=E.ty) x.1+1<1099511627776)))then
   ae (mM (α:=E.ty) x.2.1.toNat x.1++(show List E.ty from x.2.2.1)++mL (α:=E.ty) x.2.1.toNat x.1,())else ai}
structure aas(P:Program)(fn z:Nat):Prop where
 en:jR P fn
 run:∀(b o n c i j:Nat) (cs:List Value) (w:World),c≠0->n<=c->i<j->j<=n->n<1099511627776->cs.length=n*z->cH w b o cs->fA z w b (o+c*z)->(∀v∈cs,v.oneCell'=ar)->
  Calls P fn #[.slice (ae ⟨b,o,ai⟩) n c,.int .i64 i,.int .i64 j] w λe w'=>e=.returned (.slice (ae ⟨b,o,ai⟩) (n-(j-i)) c)/\
   cH w' b o (cs.take (i*z)++cs.drop (j*z))/\fA z w' b (o+c*z)/\jd b w w'
def anQ{w:World}{b o n c i j z:Nat}{cs zs:List Value}(hij:i<j)(hj:j<=n)(hnc:n<=c)(hl:cs.length=n*z)(hcs:cH w b o cs)(hr:fA z w b (o+c*z))(hz:zs.length=(j-i)*z): cH ((w.setCells b (o+i*z) (cs.drop (j*z))).setCells b (o+(i+(n-j))*z) zs) b o (cs.take (i*z)++cs.drop (j*z)):=by
 have h1:i*z<=j*z:=cu _ (by omega);have h2:j*z<=n*z:=cu _ hj;have h3:n*z<=c*z:=cu _ hnc;have h4:(i+(n-j))*z=i*z+(n*z-j*z):=by rw[Ga,uY]
 have h5:(j-i)*z=j*z-i*z:=uY _ _ _;have hdl:(cs.drop (j*z)).length=n*z-j*z:=by rw[dm,hl]
 have w1:=cH.write (news:=cs.drop (j*z)) (c:=i*z) hcs (hr.le (by rw[hl];omega)) (by rw[hl,hdl];omega)
 have w2:=cH.write (news:=zs) (c:=(i+(n-j))*z) w1 ((gR _ _ _ hr).le (by
  simp only[aQ,cQ,dm,hl];omega)) (by
  simp only[aQ,cQ,dm,hl,hz,h4,h5];omega)
 have e1:(cs.take (i*z)++cs.drop (j*z)++cs.drop (i*z+(cs.drop (j*z)).length)).take ((i+(n-j))*z)=cs.take (i*z)++cs.drop (j*z):=by rw[kt (by simp only[aQ,cQ,dm,hl,h4];omega),dO (by simp only[aQ,cQ,dm,hl,h4];omega)]
 rw[e1]at w2;exact w2.left.left
noncomputable def agq(E:ET):Callee:=
 {io:=[ar,aw,aw],ps:=[.lB E,.d Ed,.d Ed],rs:=[.tok E],os:=[.gone],
  f:=λx=>if ah (0<=x.2.1)&&(ah (x.2.1<x.2.2.1)&&(ah (x.2.2.1<=(cP (α:=E.ty) x.1:Int))&&ah (cP (α:=E.ty) x.1<1099511627776)))then
   ae (mM (α:=E.ty) x.2.1.toNat x.1++mL (α:=E.ty) x.2.2.1.toNat x.1,())else ai}
section
variable {P:Program} {φ:Nat->Nat}
def agV{w:World}{K:Nat->Prop}{vs:List Value}{ys:List A}(h:cW φ w K vs (ys.flatMap A.cells))(hf:ys.all Mv=ar):∀u∈vs,u.oneCell'=ar:=λu hu=>by obtain⟨j,hj⟩:=ff.1 hu;obtain⟨x,hx,hr⟩:=h.aqs hj;obtain⟨y,hy,hxy⟩:=jq.1 (bw hx);have:=aG.1 hf y hy;exact Value.one_cell (hr.LG (abF (aG.1 this x hxy)))
def NC(E:ET)(xs:List E.ty):(xs.map E.enc).all Mv=ar:=by rw[uW];exact aG.2 λx _=>ET.aif E x
def D8{E:ET}{xs:List E.ty}:∀x∈xs.map E.enc,x.cells.length=E.z:=λx hx=>by obtain⟨y,_,rfl⟩:=dK.1 hx;exact ET.D8 E y
def r6.amO{g:Nat}{c:Callee}{E:ET}{ms:List MT}(he:jR P (φ g))(hps:c.ps=.lB E::ms)(hd:aia ms=ar) (h:∀x y,c.f x=ae y->dB P φ g (Gd c.ps x) (M9 c y).1 (M9 c y).2):r6 P φ g c:=by
 refine⟨he,λal res outs hc=> ?_⟩;unfold Callee.cf at hc;split at hc
 ·rename_i hx;obtain⟨y,hy,hr⟩:=au.1 hc;have h1:=h _ _ hy;rw[hr]at h1;have hn:yJ c.ps al=al:=by rw[hps];cases al with|nil=>rfl|cons a l=>(have:(MT.lB E).norm a=a:=by cases a<;>rfl);rw[yJ,this,KJ hd]
  have e:al=Gd c.ps hx.choose:=hn.symm.trans hx.choose_spec.2;generalize hx.choose=x at e h1;subst e;exact h1
 ·cases hc
def Ap{E:ET}(hp:E.plain=ar){fn g z:Nat}(hz:E.z=z)(h0z:z≠0)(W:pD P fn z)(hφ:φ g=fn):r6 P φ g (insertC E):=by
 subst hφ;refine r6.amO W.en rfl rfl λx y hy0=> ?_;obtain⟨xs,i,v,⟨⟩⟩:=x;have hy:(if ah (cP (α:=E.ty) v=1)&&(ah (0<=i)&&(ah (i<=(cP (α:=E.ty) xs:Int))&&ah (cP (α:=E.ty) xs+1<1099511627776)))then ae (mM (α:=E.ty) i.toNat xs++(show List E.ty from v)++mL (α:=E.ty) i.toNat xs,())else ai)=ae y:=hy0;split at hy;rotate_left;·cases hy
 rename_i hc;simp only[aj,ax]at hc;obtain⟨hv1,hi0,hil,hlim⟩:=hc;obtain rfl:=cq hy;have e1:Gd (insertC E).ps (xs,i,v,())=[.lB E.z ((show List E.ty from xs).map E.enc),.int .i64 i,.sl E.z ((show List E.ty from v).map E.enc)]:=by have q:((ET.one (.sl E)).v (show List E.ty from v)).a=(ET.one (.sl E)).enc (show List E.ty from v):=ET.VE _ _;exact congrArg (λz=>[A.lB E.z ((show List E.ty from xs).map E.enc),.int .i64 i,z]) q
 rw[e1];generalize hxs:(show List E.ty from xs)=xl at*;have hxs':xs=xl:=hxs;subst hxs'
 obtain⟨x1,rfl⟩:∃x1:E.ty,v=[x1]:=by
  cases v with
  |nil=>simp at hv1
  |cons a l=>cases l with
   |nil=>exact⟨a,rfl⟩
   |cons b l=>simp at hv1
 show dB P φ g [A.lB E.z (iN E.enc xs),.int .i64 i,.sl E.z (iN E.enc [x1])] [A.tok 0 E.z (iN E.enc (mM i.toNat xs++ [x1]++mL i.toNat xs))] [A.any];intro w K vs bs ha hnd hKb hK hG;cases ha with|cons v0 _ b0 vs0 _ bs0 hv0 t0=>
 cases t0 with|cons v1 _ b1 vs1 _ bs1 hv1' t1=>
 cases t1 with|cons v2 _ b2 vs2 _ bs2 hv2 t2=>
 cases t2;cases hv1' with|data _ r1=>
 cases r1;cases hv2 with|data _ r2=>
 generalize hx1e:iN E.enc [x1]=ex at r2;cases r2 with|No=>simp at hx1e|sl vb vo vc z' _ us hvb hzz hcap hur huc=>
 subst hx1e;have hul:us.length=E.z:=by have:=hur.length;rw[js hzz]at this;simpa using this
 have hu1:=agV hur (NC E [x1]);have hvw:=hK _ hvb;have hlen:(iN E.enc [x1]).length=1:=rfl;rw[hlen];obtain⟨k,hk⟩:∃k:Nat,(show Int from i)=(k:Int):=⟨asv i,(Yv hi0).symm⟩;have hk':i=(k:Int):=hk;subst hk';rw[aE];have hkl:k<=xs.length:=Int.ofNat_le.1 hil;have hpl:(iN E.enc (mM k xs++ [x1]++mL k xs)).all A.plain=ar:=VJ hp _;have hrl:(iN E.enc (mM k xs++ [x1]++mL k xs)).length=xs.length+1:=by simp;omega
 have hflat:(iN E.enc (mM k xs++ [x1]++mL k xs)).flatMap A.cells=((iN E.enc xs).flatMap A.cells).take (k*E.z)++(iN E.enc [x1]).flatMap A.cells++((iN E.enc xs).flatMap A.cells).drop (k*E.z):=by rw[eu,eu,Jd,Jd,kV,jy,tP D8,nh D8]
 cases hv0 with|data _ hr=>cases hr|lB _ _ ob hO=>
 generalize hys:iN E.enc xs=ys at hO
 cases hO with
 |empty ad z2=>
  have hxn:xs=[]:=by cases xs with|nil=>rfl|cons=>simp at hys
  subst hxn;have hk0:k=0:=by simpa using hkl
  subst hk0;have:=W.nil ad vb vo vc us w (by rw[hul,hz]) huc hu1 hvw;refine this.mono λe w' hh=> ?_;obtain⟨b',cp,rfl,q1,q2,q3,q4,q5,q6⟩:=hh;refine⟨_,rfl,q6.size,λq hq _=>q6.block q hq (by omega),⟨q6.os,q6.output⟩,λq off hq=>q6.fr q off hq,λq n hr=>q6.room q n hr,[_],K,[b'],[],rfl,λ_ h=>h,λ_ h=>.inl h,?_,.gone _ _ _ _ _ _ _ (.data _ _ _ _ _ _ ⟨λ_ _ h=>(by cases h),λ_ _ h=>(by cases h)⟩ (.data _ _ _ _ _ _ ⟨λ_ _ h=>(by cases h),λ_ _ h=>(by cases h)⟩ .nil)),by simp,λq hq=> ?_⟩
  ·have hO':=gD.mk (φ:=φ) (w:=w') (K:=K) b' 0 cp E.z (iN E.enc (mM 0 []++ [x1]++mL 0 [])) us (by simpa using q1) (by omega) D8 (by
    rw[hflat]
    simpa using hur.mono (λq hq=>q6.block q (hK q hq) (by have:=hK q hq;omega)) λ_ h=>h) q4 (by rw[c8,hz];exact q5)
   rw[hrl]at hO';exact .cons _ _ [b'] _ _ [] (.tok _ 0 E.z _ (ae b') hO') .nil
  ·(have:q=b':=by simpa using hq);subst this;exact⟨λhk=>by have:=hK _ hk;omega,q3,.inr q2⟩
 |mk b o cap z2 _ cs hcap hc0 hcz hcr hcc hroom=>
  subst hys;have hcl:cs.length=xs.length*E.z:=by have:=hcr.length;rw[js hcz]at this;simpa using this
  have hbK:¬K b:=hKb b (by simp);have hne:vb≠b:=λe=>hbK (e▸hvb);have hsh:∃e k,w.shape? vb=ae (e,k)/\k≠0:=by have h00:us[0]? =ae us[0]:=ay (by omega);have:=huc 0 _ h00;simp only[df]at this;split at this;(·rename_i C eC frC hC;refine⟨eC,C.size,by simp[avb,hC],λe=> ?_⟩;(have hlt:vo+0<C.size:=by(rcases bH (vo+0) C.size with h|h);(·exact h);·rw[nu h]at this;cases this);omega);·cases this
  have hrun:=W.run b o xs.length cap k vb vo vc cs us w hc0 (by simpa using hcap) hkl hlim (by rw[hcl,hz]) hcc (by rw[<-hz];exact hroom) (by rw[hul,hz]) huc hne (agV hcr (NC E xs)) hu1 hvw hsh;rw[aT];refine hrun.mono λe w' hh=> ?_;obtain⟨b',o',cp,rfl,q1,q2,q3,q4,q5⟩:=hh;have hKs:∀q,K q->w'.heap[q]? =w.heap[q]? :=λq hq=>q5.block q (hK q hq) λe=>hbK (e▸hq);refine⟨_,rfl,q5.size,λq hq hn=>q5.block q hq λe=>hn (by simp[e]),⟨q5.os,q5.output⟩,λq off hq=>q5.fr q off hq,λq n hr=>q5.room q n hr,[_],K,[b'],[],rfl,λ_ h=>h,λ_ h=>.inl h,?_,.gone _ _ _ _ _ _ _ (.data _ _ _ _ _ _ ⟨λ_ _ h=>(by cases h),λ_ _ h=>(by cases h)⟩ (.data _ _ _ _ _ _ ⟨λ_ _ h=>(by cases h),λ_ _ h=>(by cases h)⟩ .nil)),by simp,λq hq=> ?_⟩
  ·have hO':=gD.mk (φ:=φ) (w:=w') (K:=K) b' o' cp E.z (iN E.enc (mM k xs++ [x1]++mL k xs)) (cs.take (k*E.z)++us++cs.drop (k*E.z)) (by rw[hrl];exact q1) (by omega) D8 (by
    rw[hflat]
    exact(((hcr.take (k*E.z)).append hur).append (hcr.drop (k*E.z))).mono hKs λ_ h=>h) (by rw[hz];exact q3) (by rw[hz];exact q4)
   rw[hrl]at hO';exact .cons _ _ [b'] _ _ [] (.tok _ 0 E.z _ (ae b') hO') .nil
  ·(have:q=b':=by simpa using hq);subst this;(rcases q2 with rfl|⟨q2,q2'⟩);(·exact⟨hbK,bU hroom.lt q5.size,.inl (by simp)⟩);·exact⟨λhk=>by have:=hK _ hk;omega,q2',.inr q2⟩
def anR{E:ET}(hp:E.plain=ar){fn g z:Nat}(hz:E.z=z)(W:aas P fn z)(hφ:φ g=fn):r6 P φ g (agq E):=by
 subst hφ;refine r6.amO W.en rfl rfl λx y hy0=> ?_;obtain⟨xs,i,j,⟨⟩⟩:=x;have hy:(if ah (0<=i)&&(ah (i<j)&&(ah (j<=(cP (α:=E.ty) xs:Int))&&ah (cP (α:=E.ty) xs<1099511627776)))then ae (mM (α:=E.ty) i.toNat xs++mL (α:=E.ty) j.toNat xs,())else ai)=ae y:=hy0;split at hy;rotate_left;·cases hy
 rename_i hc;simp only[aj,ax]at hc;obtain⟨hi0,hij,hjl,hlim⟩:=hc;obtain rfl:=cq hy;have e1:Gd (agq E).ps (xs,i,j,())=[.lB E.z ((show List E.ty from xs).map E.enc),.int .i64 i,.int .i64 j]:=rfl;rw[e1];generalize hxs:(show List E.ty from xs)=xl at*;have hxs':xs=xl:=hxs;subst hxs';show dB P φ g [A.lB E.z (iN E.enc xs),.int .i64 i,.int .i64 j] [A.tok 0 E.z (iN E.enc (mM i.toNat xs++mL j.toNat xs))] [A.any];intro w K vs bs ha hnd hKb hK hG;cases ha with|cons v0 _ b0 vs0 _ bs0 hv0 t0=>
 cases t0 with|cons v1 _ b1 vs1 _ bs1 hv1' t1=>
 cases t1 with|cons v2 _ b2 vs2 _ bs2 hv2 t2=>
 cases t2;cases hv1' with|data _ r1=>
 cases r1;cases hv2 with|data _ r2=>
 cases r2;obtain⟨k,hk⟩:∃k:Nat,(show Int from i)=(k:Int):=⟨asv i,(Yv hi0).symm⟩;have hk':i=(k:Int):=hk;subst hk';obtain⟨m,hm⟩:∃m:Nat,(show Int from j)=(m:Int):=⟨asv j,(Yv (pc hi0 (Int.le_of_lt hij))).symm⟩;have hm':j=(m:Int):=hm;subst hm';rw[aE,aE];have hml:m<=xs.length:=Int.ofNat_le.1 hjl;have hkm:k<m:=Int.ofNat_lt.1 hij;have hpl:(iN E.enc (mM k xs++mL m xs)).all A.plain=ar:=VJ hp _;have hrl:(iN E.enc (mM k xs++mL m xs)).length=xs.length-(m-k):=by simp;omega
 have hflat:(iN E.enc (mM k xs++mL m xs)).flatMap A.cells=((iN E.enc xs).flatMap A.cells).take (k*E.z)++((iN E.enc xs).flatMap A.cells).drop (m*E.z):=by rw[eu,Jd,kV,jy,tP D8,nh D8]
 cases hv0 with|data _ hr=>cases hr|lB _ _ ob hO=>
 generalize hys:iN E.enc xs=ys at hO
 cases hO with
 |empty ad z2=>
  have hxn:xs=[]:=by cases xs with|nil=>rfl|cons=>simp at hys
  subst hxn;simp at hml;omega
 |mk b o cap z2 _ cs hcap hc0 hcz hcr hcc hroom=>
  subst hys;have hcl:cs.length=xs.length*E.z:=by have:=hcr.length;rw[js hcz]at this;simpa using this
  have hbK:¬K b:=hKb b (by simp);have hrun:=W.run b o xs.length cap k m cs w hc0 (by simpa using hcap) hkm hml hlim (by rw[hcl,hz]) hcc (by rw[<-hz];exact hroom) (agV hcr (NC E xs));rw[aT];refine hrun.mono λe w' hh=> ?_;obtain⟨rfl,q3,q4,q5⟩:=hh;have hKs:∀q,K q->w'.heap[q]? =w.heap[q]? :=λq hq=>q5.block q (hK q hq) λe=>hbK (e▸hq);refine⟨_,rfl,q5.size,λq hq hn=>q5.block q hq λe=>hn (by simp[e]),⟨q5.os,q5.output⟩,λq off hq=>q5.fr q off hq,λq n hr=>q5.room q n hr,[_],K,[b],[],rfl,λ_ h=>h,λ_ h=>.inl h,?_,.gone _ _ _ _ _ _ _ (.data _ _ _ _ _ _ ⟨λ_ _ h=>(by cases h),λ_ _ h=>(by cases h)⟩ (.data _ _ _ _ _ _ ⟨λ_ _ h=>(by cases h),λ_ _ h=>(by cases h)⟩ .nil)),by simp,λq hq=> ?_⟩
  ·have hO':=gD.mk (φ:=φ) (w:=w') (K:=K) b o cap E.z (iN E.enc (mM k xs++mL m xs)) (cs.take (k*E.z)++cs.drop (m*E.z)) (hrl▸dZ (Nat.sub_le _ _) (show xs.length<=cap from by simpa using hcap)) hc0 D8 (by
    rw[hflat]
    exact((hcr.take (k*E.z)).append (hcr.drop (m*E.z))).mono hKs λ_ h=>h) (by rw[hz];exact q3) (by rw[hz];exact q4)
   rw[hrl]at hO';exact .cons _ _ [b] _ _ [] (.tok _ 0 E.z _ (ae b) hO') .nil
  ·(have:q=b:=by simpa using hq);subst this;exact⟨hbK,bU hroom.lt q5.size,.inl (by simp)⟩
end
end Go.Ab
namespace Go.Ab
open Go.RowKit
section
variable {P:Program} {φ:Nat->Nat} {S:Nat} {e eI:TypeId} {K K0:Nat->Prop} {x:axw.ty} {v3:Value} {xs:List (List Int)} {vout:Value} {acc:List Int} {vrow:Value} {w:World}
end
section
variable {P:Program} {φ:Nat->Nat}
end
section
variable {P:Program} {φ:Nat->Nat}
def afb{w:World}{K:Nat->Prop}:∀ys:List Int,cW φ w K (ys.map (jC .i64)) ((ys.map Ed.enc).flatMap A.cells)
 | []=>.nil
 |y::ys=>.cons _ _ _ _ (.int _ _) (afb ys)
def aon{xs:List (List Int)}{i j:Nat}{r:List Int}(hi:i<xs.length):rowAt (xs.set i r) j=if i=j then r else rowAt xs j:=by
 simp only[rowAt,apA];split;·rename_i h;subst h;rfl
 ·rfl
end
def Kv(by_ le n:Int):Int:=if n<=le then n else if n-by_<le then le else n-by_
section
variable {P:Program} {φ:Nat->Nat}
end
end Go.Ab
namespace Go.Ab
@[reducible] def km:ET:=.agg (.cons .str (.cons (.int .i64) (.cons (.int .i64) (.cons (.int .i64) .nil))))
def ae9(row:List Int)(a n:Int):Bool:=ah (a+n<=40/\∀m,m<n.toNat->row[a.toNat+m]? =ae 0)
def xQ(row:List Int)(a n:Nat)(v:Int):List Int:=row.take a++aZ n v++row.drop (a+n)
abbrev PwR:=Bool×Bool×List (List Int)×Int
def agp(rec:List (List Int)->Int->PwR)(i:Nat)(n last k:Int):Nat->Int->List (List Int)->Int->PwR ⊕ (List (List Int)×Int)
 |0,_,rows,left=>.inr (rows,left)
 |f+1,d,rows,left=>
  if d+n-1<=last then
   if ae9 (rowAt rows i) d n=ar then
    if left=0 then .inl (aw,aw,rows,left)
    else if(rec (rows.set i (xQ (rowAt rows i) d.toNat n.toNat (k+1))) (left-1)).1=ar\/(rec (rows.set i (xQ (rowAt rows i) d.toNat n.toNat (k+1))) (left-1)).2.1=aw then
     .inl (rec (rows.set i (xQ (rowAt rows i) d.toNat n.toNat (k+1))) (left-1))
    else agp rec i n last k f (d+1) ((rec (rows.set i (xQ (rowAt rows i) d.toNat n.toNat (k+1))) (left-1)).2.2.1.set i (xQ (rowAt (rec (rows.set i (xQ (rowAt rows i) d.toNat n.toNat (k+1))) (left-1)).2.2.1 i) d.toNat n.toNat 0)) (rec (rows.set i (xQ (rowAt rows i) d.toNat n.toNat (k+1))) (left-1)).2.2.2
   else agp rec i n last k f (d+1) rows left
  else .inr (rows,left)
def ajm(rec:List (List Int)->Int->PwR)(fst n last k:Int):Nat->Nat->List (List Int)->Int->PwR ⊕ (List (List Int)×Int)
 |0,_,rows,left=>.inr (rows,left)
 |m+1,i,rows,left=>
  match agp rec i n last k (last+1-fst).toNat fst rows left with
  |.inl r=>.inl r
  |.inr p=>ajm rec fst n last k m (i+1) p.1 p.2
def wkD(x:km.ty):Int:=x.2.1
def wkF(x:km.ty):Int:=x.2.2.1
def wkL(x:km.ty):Int:=x.2.2.2.1
def O5:List km.ty->Int->List (List Int)->Int->PwR
 | [],_,rows,left=>(ar,ar,rows,left)
 |x::xs,k,rows,left=>
  match ajm (O5 xs (k+1)) (wkF x) (wkD x) (wkL x) k rows.length 0 rows left with
  |.inl r=>r
  |.inr p=>(aw,ar,p.1,p.2)
def Xa(x:km.ty):Bool:=ah (1<=wkD x)&&ah (wkD x<=40)&&ah (0<=wkF x)&&ah (wkF x<=39)&&ah (0<=wkL x)&&ah (wkL x<=39)
def acf(vw:List km.ty->Option Bool)(benches:Int)(list:List km.ty)(budget:Int):Option (List (List Int)×Int):=
 (vw list).bind λv=>
   if v=aw then ae ([],1)
   else if¬(1<=benches/\benches<=6/\1<=budget/\budget<=20000)then ae ([],2)
   else if list.length<=1000/\list.all Xa=ar then
    if(O5 list 0 (aZ benches.toNat (aZ 40 0)) budget).2.1=aw then ae ([],5)
    else if(O5 list 0 (aZ benches.toNat (aZ 40 0)) budget).1=aw then ae ([],3)
    else ae ((O5 list 0 (aZ benches.toNat (aZ 40 0)) budget).2.2.1,0)
   else ai
def Pz{row:List Int}{a n:Nat}{v:Int}(h:a+n<=row.length):(xQ row a n v).length=row.length:=by simp only[xQ,aQ,cQ,DZ,dm];omega
def akG(row:List Int)(a:Nat)(v:Int):xQ row a 0 v=row:=by simp[xQ]
def ae7{row:List Int}{a n:Nat}{v:Int}(h:a+n<=row.length)(j:Nat):(xQ row a n v)[j]? =if a<=j/\j<a+n then ae v else row[j]? :=by
 unfold xQ;rcases bH j a with h1|h1
 ·rw[aO (by omega),dJ,eA (by simp;omega),oB,aJ h1]
 ·rcases bH j (a+n)with h2|h2
  ·rw[aJ ⟨h1,h2⟩,eA (by simp;omega),dC (by simp;omega),ama,aJ (by simp;omega)]
  ·rw[aO (by omega),dC (by simp;omega),Je];congr 1;simp;omega
def akF{row:List Int}{a t:Nat}{v:Int}(h:a+t<row.length):(xQ row a t v).set (a+t) v=xQ row a (t+1) v:=by
 apply List.ext_getElem?;intro j;rw[apA,ae7 (by omega),ae7 (by omega),Pz (by omega)];by_cases h1:a+t=j;·subst h1;rw[aJ rfl,aJ h,aJ (by omega)]
 ·rw[aO h1];by_cases h2:a<=j/\j<a+t;·rw[aJ h2,aJ (by omega)]
  ·rw[aO h2,aO (by omega)]
def PX(e:TypeId)(b:Nat)(row:List Int)(w:World):Prop:=w.heap[b]? =ae (.cells (row.map (jC .i64)).toArray e)
def PX.cell{e:TypeId}{b:Nat}{row:List Int}{w:World}(h:PX e b row w){k:Nat}{y:Int}(hk:row[k]? =ae y):w.cell? ⟨b,k,ai⟩=ae (.int .i64 y):=by have h':w.heap[b]? =ae (.cells (row.map (jC .i64)).toArray e):=h;simp[df,h',hk]
def PX.frozen{e:TypeId}{b:Nat}{row:List Int}{w:World}(h:PX e b row w)(k:Nat):w.frozen? ⟨b,k,ai⟩=aw:=by have h':w.heap[b]? =ae (.cells (row.map (jC .i64)).toArray e):=h;simp[xF,h']
def PX.set{e:TypeId}{b:Nat}{row:List Int}{w:World}(h:PX e b row w)(k:Nat)(y:Int):PX e b (row.set k y) (w.setCell ⟨b,k,ai⟩ (.int .i64 y)):=by have:=LR h k (.int .i64 y);show(w.setCell ⟨b,k,ai⟩ (.int .i64 y)).heap[b]? =_;rw[this];congr 2;apply Ri;simp[aav]
def PX.lt{e:TypeId}{b:Nat}{row:List Int}{w:World}(h:PX e b row w):b<w.heap.size:=by
 rcases bH b w.heap.size with h1|h1
 ·exact h1
 ·have h':w.heap[b]? =ae (.cells (row.map (jC .i64)).toArray e):=h;rw[nu h1]at h';cases h'
def auu(rec:List (List Int)->Int->PwR)(fst n last k:Int)(m i:Nat):PwR ⊕ (List (List Int)×Int)->PwR ⊕ (List (List Int)×Int)
 |.inl r=>.inl r
 |.inr p=>ajm rec fst n last k m (i+1) p.1 p.2
def aqp:PwR ⊕ (List (List Int)×Int)->PwR
 |.inl r=>r
 |.inr p=>(aw,ar,p.1,p.2)
def aoo(rec:List (List Int)->Int->PwR)(fst n last k:Int)(m i:Nat)(rows:List (List Int))(left:Int): ajm rec fst n last k (m+1) i rows left=auu rec fst n last k m i (agp rec i n last k (last+1-fst).toNat fst rows left):=by rw[ajm];cases agp rec i n last k (last+1-fst).toNat fst rows left<;>rfl
def aoB(x:km.ty)(xs:List km.ty)(k:Int)(rows:List (List Int))(left:Int): O5 (x::xs) k rows left=aqp (ajm (O5 xs (k+1)) (wkF x) (wkD x) (wkL x) k rows.length 0 rows left):=by rw[O5];cases ajm (O5 xs (k+1)) (wkF x) (wkD x) (wkL x) k rows.length 0 rows left<;>rfl
structure PwD(n Bp pb:Nat)(rb:Nat->Nat):Prop where
 a:∀j,j<n->rb j≠Bp/\rb j≠pb
 b:pb≠Bp
 c:∀i j,i<n->j<n->rb i=rb j->i=j
structure PW(T e tI:TypeId)(Bp pb:Nat)(rb:Nat->Nat)(n cv:Nat)(lv:Value)(rows:List (List Int))(left:Int)(w:World):Prop where
 box:w.heap[Bp]? =ae (.cells #[lv,.slice (ae ⟨pb,0,ai⟩) n cv,.int .i64 left] T)
 len:rows.length=n
 pl:∃C,w.heap[pb]? =ae (.cells C e)/\∀j,j<n->C[j]? =ae (.slice (ae ⟨rb j,0,ai⟩) 40 40)
 row:∀j,j<n->PX tI (rb j) (rowAt rows j) w/\(rowAt rows j).length=40
section
variable {T e tI:TypeId} {Bp pb n cv:Nat} {rb:Nat->Nat} {lv:Value} {rows:List (List Int)} {left:Int} {w:World}
def PW.fk(h:PW T e tI Bp pb rb n cv lv rows left w){w':World}(h1:w'.heap[Bp]? =w.heap[Bp]?)(h2:w'.heap[pb]? =w.heap[pb]?)(h3:∀j,j<n->w'.heap[rb j]? =w.heap[rb j]?):PW T e tI Bp pb rb n cv lv rows left w':=by obtain⟨a,b,⟨C,c1,c2⟩,d⟩:=h;exact⟨h1.trans a,b,⟨C,h2.trans c1,c2⟩,λj hj=>⟨(h3 j hj).trans (d j hj).1,(d j hj).2⟩⟩
def PW.cell(h:PW T e tI Bp pb rb n cv lv rows left w){j:Nat}(hj:j<n):w.cell? ⟨pb,j,ai⟩=ae (.slice (ae ⟨rb j,0,ai⟩) 40 40):=by obtain⟨C,c1,c2⟩:=h.pl;simp[df,c1,c2 j hj]
def PW.c0(h:PW T e tI Bp pb rb n cv lv rows left w):w.cell? ⟨Bp,0,ai⟩=ae lv:=by simp[df,h.box]
def PW.c1(h:PW T e tI Bp pb rb n cv lv rows left w):w.cell? ⟨Bp,1,ai⟩=ae (.slice (ae ⟨pb,0,ai⟩) n cv):=by simp[df,h.box]
def PW.c2(h:PW T e tI Bp pb rb n cv lv rows left w):w.cell? ⟨Bp,2,ai⟩=ae (.int .i64 left):=by simp[df,h.box]
def PW.fz(h:PW T e tI Bp pb rb n cv lv rows left w)(k:Nat):w.frozen? ⟨Bp,k,ai⟩=aw:=by simp[xF,h.box]
def DR{w:World}{b:Nat}{o:Obj}(h:w.heap[b]? =ae o):b<w.heap.size:=by
 rcases bH b w.heap.size with h1|h1
 ·exact h1
 ·rw[nu h1]at h;cases h
def PW.lts(h:PW T e tI Bp pb rb n cv lv rows left w):Bp<w.heap.size/\pb<w.heap.size/\∀j,j<n->rb j<w.heap.size:=by obtain⟨C,c1,_⟩:=h.pl;exact⟨DR h.box,DR c1,λj hj=>(h.row j hj).1.lt⟩
def PW.alloc(h:PW T e tI Bp pb rb n cv lv rows left w)(o:Obj):PW T e tI Bp pb rb n cv lv rows left (w.alloc o):=by obtain⟨h1,h2,h3⟩:=h.lts;exact h.fk (wi _ _ h1) (wi _ _ h2) λj hj=>wi _ _ (h3 j hj)
def PW.mW(h:PW T e tI Bp pb rb n cv lv rows left w)(D:PwD n Bp pb rb)(l:Int):PW T e tI Bp pb rb n cv lv rows l (w.setCell ⟨Bp,2,ai⟩ (.int .i64 l)):=by obtain⟨a,b,⟨C,c1,c2⟩,d⟩:=h;refine⟨?_,b,⟨C,(nY _ _ _ _ _ D.b).trans c1,c2⟩,λj hj=>⟨(nY _ _ _ _ _ (D.a j hj).1).trans (d j hj).1,(d j hj).2⟩⟩;have:=LR a 2 (.int .i64 l);exact this
def PW.axC(h:PW T e tI Bp pb rb n cv lv rows left w)(D:PwD n Bp pb rb){i:Nat}(hi:i<n){row:List Int}{w':World}(hr:PX tI (rb i) row w')(hl:row.length=40)(hw:Rg (λc=>c=rb i) w w'): PW T e tI Bp pb rb n cv lv (rows.set i row) left w':=by
 obtain⟨a,b,⟨C,c1,c2⟩,d⟩:=h
 have up:∀c o,w.heap[c]? =ae o->c≠rb i->w'.heap[c]? =ae o:=λc o hc hn=>(hw.block c (by
  rcases bH c w.heap.size with h|h
  ·exact h
  ·rw[nu h]at hc;cases hc) hn).trans hc
 refine⟨up _ _ a λe=>(D.a i hi).1 e.symm,by rw[List.length_set];exact b,⟨C,up _ _ c1 λe=>(D.a i hi).2 e.symm,c2⟩,λj hj=> ?_⟩;rw[aon (by rw[b];exact hi)];split;·rename_i e;subst e;exact⟨hr,hl⟩
 ·rename_i hne;exact⟨up _ _ (d j hj).1 λe=>hne (D.c i j hi hj e.symm),(d j hj).2⟩
end
def at6{φ:Nat->Nat}{w:World}{K:Nat->Prop}{v:Value}{xs:List km.ty}(h:iD φ w K v (.sl 4 (xs.map km.enc))): (∃ad cp,v=.slice ad xs.length cp)/\∀(i:Nat) (x:km.ty),xs[i]? =ae x->∃b o cap,v=.slice (ae ⟨b,o,ai⟩) xs.length cap/\K b/\ w.cell? ⟨b,o+i*4,ai⟩=ae (.string ⟨x.1.toArray⟩)/\w.cell? ⟨b,o+i*4+1,ai⟩=ae (.int .i64 (wkD x))/\w.cell? ⟨b,o+i*4+2,ai⟩=ae (.int .i64 (wkF x))/\w.cell? ⟨b,o+i*4+3,ai⟩=ae (.int .i64 (wkL x)):=by generalize hy:xs.map km.enc=ys at h;cases h with|No ad c z=>(obtain rfl:xs=[]:=by cases xs with|nil=>rfl|cons=>simp at hy);exact⟨⟨_,_,rfl⟩,λi x h=>by simp at h⟩|sl b o cap z _ vs hb hz hc hr hv=>subst hy;refine⟨⟨_,_,by rw[aT]⟩,λi x hi=> ?_⟩;refine⟨b,o,cap,by rw[aT],hb,?_⟩;have h1:=(hr.drop (i*4)).take (km.enc x).cells.length;rw[<-nh hz]at h1;(have hil:i<xs.length:=by(rcases bH i xs.length with h|h);(·exact h);·rw[bB h]at hi;cases hi);(have hx:xs[i]=x:=by rw[ay hil]at hi;exact cq hi);rw[<-jy,bf hil,aP,cg,hx,List.take_left]at h1;have e4:=(hv.drop (i*4)).take (km.enc x).cells.length;generalize (vs.drop (i*4)).take (km.enc x).cells.length=us at h1 e4;obtain⟨x1,x2,x3,x4,⟨⟩⟩:=x;have h1':cW φ w K us [.str x1,.int .i64 x2,.int .i64 x3,.int .i64 x4]:=h1;cases h1' with|cons v1 _ vs1 _ r1 t1=>cases t1 with|cons v2 _ vs2 _ r2 t2=>cases t2 with|cons v3 _ vs3 _ r3 t3=>cases t3 with|cons v4 _ vs4 _ r4 t4=>cases t4;cases r1;cases r2;cases r3;cases r4;exact⟨e4 0 _ rfl,e4 1 _ rfl,e4 2 _ rfl,e4 3 _ rfl⟩
section
variable {P:Program} {φ:Nat->Nat} {T e tI:TypeId} {Bp pb n cv:Nat} {rb:Nat->Nat} {lv:Value} {rows:List (List Int)} {left:Int} {w:World}
def PW.data(h:PW T e tI Bp pb rb n cv lv rows left w)(hn:n<=cv){K:Nat->Prop}(hK:K pb/\∀j,j<n->K (rb j)):iD φ w K (.slice (ae ⟨pb,0,ai⟩) n cv) (.sl 1 (rows.map Yj.enc)):=by
 have hrow:∀(j:Nat),j<n->iD φ w K (.slice (ae ⟨rb j,0,ai⟩) 40 40) (.sl 1 ((rowAt rows j).map Ed.enc)):=λj hj=>by
  obtain⟨r1,r2⟩:=h.row j hj
  have:=iD.sl (φ:=φ) (w:=w) (ok:=K) (rb j) 0 40 1 ((rowAt rows j).map Ed.enc) ((rowAt rows j).map (jC .i64)) (hK.2 j hj) (λx hx=>by
   obtain⟨z,_,rfl⟩:=dK.1 hx;rfl) (by rw[aT,r2];exact bm _) (afb _) (λk u hk=>by
    rw[bX]at hk
    obtain⟨y,hy,rfl⟩:=au.1 hk
    rw[c8];exact r1.cell hy)
  rw[aT,r2]at this;exact this
 have key:∀(k i:Nat),i+k=n->cW φ w K ((List.range' i k).map λj=>Value.slice (ae ⟨rb j,0,ai⟩) 40 40) (((rows.drop i).map Yj.enc).flatMap A.cells):=by intro k;induction k with|zero=>intro i hi;rw[bb (by rw[h.len];omega)];exact .nil|succ k ih=>intro i hi;(have hil:i<rows.length:=by rw[h.len];omega);(have e1:rowAt rows i=rows[i]:=by simp[rowAt,ay hil]);have:=hrow i (by omega);rw[e1]at this;rw[List.range'_succ,aP,bf hil,aP,cg];exact .cons _ _ _ _ this (ih (i+1) (by omega))
 have r1:=key n 0 (by omega);rw[dV]at r1
 have:=iD.sl (φ:=φ) (w:=w) (ok:=K) pb 0 cv 1 (rows.map Yj.enc) _ hK.1 (λx hx=>by
  obtain⟨z,_,rfl⟩:=dK.1 hx;rfl) (by rw[aT,h.len];exact hn) r1 (λj u hj=>by
   rw[bX]at hj
   obtain⟨y,hy,rfl⟩:=au.1 hj
   have hjn:j<n:=by
    rcases bH j n with h|h
    ·exact h
    ·rw[bB (by simpa using h)]at hy;cases hy
   rw[List.getElem?_range' hjn]at hy
   cases hy
   have:=h.cell hjn
   simpa using this)
 rw[aT,h.len]at this;exact this
structure PwB(T e tI:TypeId)(S Bp:Nat)(lv:Value)(j:Nat)(pv:Value)(left:Int)(w:World):Prop where
 box:w.heap[Bp]? =ae (.cells #[lv,pv,.int .i64 left] T)
 ex:∃(vs:List Value) (ob:Option Nat) (rb:Nat->Nat),Tt w e pv vs ob/\vs.length=j/\
  (∀i,i<j->vs[i]? =ae (.slice (ae ⟨rb i,0,ai⟩) 40 40)/\PX tI (rb i) (aZ 40 0) w/\S<=rb i/\rb i≠Bp/\ob≠ae (rb i))/\
  (∀i k,i<j->k<j->rb i=rb k->i=k)/\∀b,ob=ae b->S<=b/\b≠Bp
def PwB.fk{S j:Nat}{pv:Value}(h:PwB T e tI S Bp lv j pv left w)(hS:S<=Bp){w':World}(hw:∀b,b<w.heap.size->w'.heap[b]? =w.heap[b]?):PwB T e tI S Bp lv j pv left w':=by obtain⟨h1,vs,ob,rb,h2,h3,h4,h5,h6⟩:=h;refine⟨(hw _ (DR h1)).trans h1,vs,ob,rb,h2.fk λb hb=>hw b (by subst hb;exact h2.lt),h3,λi hi=> ?_,h5,h6⟩;obtain⟨a1,a2,a3⟩:=h4 i hi;exact⟨a1,(hw _ a2.lt).trans a2,a3⟩
def PwB.step{S j:Nat}{pv:Value}(h:PwB T e tI S Bp lv j pv left w)(hS:S<=w.heap.size)(hj:j<=1000){t:TypeId}(ht:P.underlying t=ae (.slice e)){i:TypeInfo}(hi:P.info? e=ae i)(hz:i.size=1){zv:Value}(hzv:i.zero=ae zv)(hzs:zv.cells.size=1) (hb:i.bytes<=128) (c:Nat) (ty:TypeId): ∃ad n cp w',(fU #[t,t] ty #[pv,.slice (ae ⟨w.heap.size+1,0,ai⟩) 1 c]).run P ((w.alloc (.cells ((aZ 40 (0:Int)).map (jC .i64)).toArray tI)).alloc (.cells #[.slice (ae ⟨w.heap.size,0,ai⟩) 40 40] e))=.ok (.slice ad n cp) w'/\ w'.heap[Bp]? =w.heap[Bp]? /\PwB T e tI S Bp lv (j+1) (.slice ad n cp) left (w'.setCell ⟨Bp,1,ai⟩ (.slice ad n cp))/\Lo S w w':=by
 obtain⟨h1,vs,ob,rb,h2,h3,h4,h5,h6⟩:=h;have hzA:(w.alloc (.cells ((aZ 40 (0:Int)).map (jC .i64)).toArray tI)).heap.size=w.heap.size+1:=by simp
 have hzB:((w.alloc (.cells ((aZ 40 (0:Int)).map (jC .i64)).toArray tI)).alloc (.cells #[.slice (ae ⟨w.heap.size,0,ai⟩) 40 40] e)).heap.size=w.heap.size+2:=by simp
 have up:∀b,b<w.heap.size->((w.alloc (.cells ((aZ 40 (0:Int)).map (jC .i64)).toArray tI)).alloc (.cells #[.slice (ae ⟨w.heap.size,0,ai⟩) 40 40] e)).heap[b]? =w.heap[b]? :=λb hb=>(wi _ _ (by omega)).trans (wi _ _ hb);have hrow:((w.alloc (.cells ((aZ 40 (0:Int)).map (jC .i64)).toArray tI)).alloc (.cells #[.slice (ae ⟨w.heap.size,0,ai⟩) 40 40] e)).heap[w.heap.size]? =ae (.cells ((aZ 40 (0:Int)).map (jC .i64)).toArray tI):=(wi _ _ (by omega)).trans (TH _ _ rfl);have hbp:=DR h1;obtain⟨ad,n',cp,w',ob',e1,e2,e3,e4,e5,e6,e7⟩:=(h2.fk (w':=(w.alloc (.cells ((aZ 40 (0:Int)).map (jC .i64)).toArray tI)).alloc (.cells #[.slice (ae ⟨w.heap.size,0,ai⟩) 40 40] e)) λb hb=>up b (by subst hb;exact h2.lt)).app ht hi hz hzv hzs hb (by omega) (TH _ _ (by rw[hzA])) rfl rfl c ty;rw[hzB]at e3 e4 e5;have hobp:ob≠ae Bp:=λq=>(h6 _ q).2 rfl;have hBp:w'.heap[Bp]? =w.heap[Bp]? :=(e4 _ (by omega) hobp).trans (up _ hbp);have hobl:∀b,ob=ae b->b<w.heap.size:=λb hb=>by subst hb;exact h2.lt
 have hob':∀b,ob'=ae b->(S<=b/\b≠Bp)/\b≠w.heap.size/\∀q,q<w.heap.size->ob≠ae q->b≠q:=λb hb=>by(rcases e5 with rfl|⟨q,rfl,q1,q2⟩);(·have:=hobl b hb;exact⟨h6 b hb,by omega,λq _ hq e=>hq (by rw[<-e];exact hb)⟩);·cases hb;exact⟨⟨by omega,by omega⟩,by omega,λq hq _ e=>by omega⟩
 have stay:∀b,b≠Bp->(w'.setCell ⟨Bp,1,ai⟩ (.slice ad n' cp)).heap[b]? =w'.heap[b]? :=λb hb=>nY _ _ _ _ _ hb;refine⟨ad,n',cp,w',e1,hBp,⟨?_,vs++ [.slice (ae ⟨w.heap.size,0,ai⟩) 40 40],ob',λi=>if i=j then w.heap.size else rb i,e2.fk λb hb=>stay b (hob' b hb).1.2,by simp[h3],λi hi=> ?_,λi k hi hk hik=> ?_,λb hb=>(hob' b hb).1⟩,?_⟩;·have:=LR (hBp.trans h1) 1 (.slice ad n' cp);exact this
 ·by_cases hij:i=j;·subst hij;simp only[aC];refine⟨by rw[dC (by omega),h3];simp,?_,hS,by omega,λq=>(hob' _ q).2.1 rfl⟩;exact(stay _ (by omega)).trans ((e4 _ (by omega) (λq=>by have:=hobl _ q;omega)).trans hrow)
  ·(have hil:i<j:=by omega);simp only[hij,aH];obtain⟨a1,a2,a3,a4,a5⟩:=h4 i hil;refine⟨by rw[eA (by omega)];exact a1,(stay _ a4).trans ((e4 _ (by have:=a2.lt;omega) a5).trans ((up _ a2.lt).trans a2)),a3,a4,λq=>(hob' _ q).2.2 _ a2.lt a5 rfl⟩
 ·by_cases hij:i=j<;>by_cases hkj:k=j
  ·omega
  ·subst hij;simp only[aC,hkj,aH]at hik;have:=(h4 k (by omega)).2.1.lt;omega
  ·subst hkj;simp only[aC,hij,aH]at hik;have:=(h4 i (by omega)).2.1.lt;omega
  ·simp only[hij,hkj,aH]at hik;exact h5 i k (by omega) (by omega) hik
 ·refine⟨by omega,λb hb=>(e4 b (by omega) λq=> ?_).trans (up b (by omega)),e6,e7⟩;have:=(h6 b q).1;omega
def PwB.done{S j:Nat}{pv:Value}(h:PwB T e tI S Bp lv j pv left w)(hj:0<j): ∃pb cv rb,pv=.slice (ae ⟨pb,0,ai⟩) j cv/\j<=cv/\PwD j Bp pb rb/\PW T e tI Bp pb rb j cv lv (aZ j (aZ 40 0)) left w/\S<=pb/\∀i,i<j->S<=rb i:=by obtain⟨h1,vs,ob,rb,h2,h3,h4,h5,h6⟩:=h;cases h2 with|empty ad=>simp at h3;omega|mk b cap C vs hC hsz hle h0 hcs=>obtain⟨q1,q2⟩:=h6 b rfl;refine⟨b,cap,rb,by rw[h3],by omega,⟨λi hi=>⟨(h4 i hi).2.2.2.1,λq=>(h4 i hi).2.2.2.2 (by rw[q])⟩,q2,h5⟩,⟨by rw[h3]at h1;exact h1,by simp,⟨C,hC,λi hi=>by rw[hcs i (by omega)];exact(h4 i hi).1⟩,λi hi=> ?_⟩,q1,λi hi=>(h4 i hi).2.2.1⟩;(have e9:rowAt (aZ j (aZ 40 (0:Int))) i=aZ 40 0:=by simp[rowAt,hi]);rw[e9];exact⟨(h4 i hi).2.1,by simp⟩
end
noncomputable def W2(vw:List km.ty->Option Bool):Callee:=
 {io:=[],ps:=[.d Ed,.d (.one (.sl km)),.d Ed],rs:=[.d (.one (.sl Yj)),.d Ed],os:=[],f:=λx=>acf vw x.1 x.2.1 x.2.2.1}
structure aeP(P:Program)(fn nv:Nat):Prop where
 en:jR P fn
 run:∀(φ:Nat->Nat) (gv:Nat) (vw:List km.ty->Option Bool),φ gv=nv->(∀l b,vw l=ae b->dB P φ gv [.sl 4 (l.map km.enc)] [.bool b] [])->
  ∀(n:Int) (xs:List km.ty) (c:Int) (y:List (List Int)×Int),acf vw n xs c=ae y->
  ∀(w:World) (K:Nat->Prop) (v:Value),iD φ w K v (.sl 4 (xs.map km.enc))->(∀b,K b->b<w.heap.size)->I6 P K w->
  Calls P fn #[.int .i64 n,v,.int .i64 c] w λr w'=>∃u,r=.returned (.tuple #[u,.int .i64 y.2])/\Lo w.heap.size w w'/\iD φ w' (λb=>w.heap.size<=b/\b<w'.heap.size) u (.sl 1 (y.1.map Yj.enc))
section
variable {P:Program} {φ:Nat->Nat}
def UW{vw:List km.ty->Option Bool}{fn nv g gv:Nat}(L:aeP P fn nv)(hφ: [g,gv].map φ=[fn,nv]) (ov:∀l b,vw l=ae b->dB P φ gv [.sl 4 (l.map km.enc)] [.bool b] []):r6 P φ g (W2 vw):=by
 simp only[aP,lT,ej,pe]at hφ;obtain⟨h1,h2⟩:=hφ;refine r6.pA (by rw[h1];exact L.en) rfl rfl λx y hy=> ?_;obtain⟨n,xs,c,⟨⟩⟩:=x;have e1:Gd (W2 vw).ps (n,xs,c,())=[.int .i64 n,.sl 4 ((show List km.ty from xs).map km.enc),.int .i64 c]:=by have q:((ET.one (.sl km)).v (show List km.ty from xs)).a=(ET.one (.sl km)).enc (show List km.ty from xs):=ET.VE _ _;exact congrArg (λz=>([.int .i64 n,z,.int .i64 c]:List A)) q
 have e2:M9 (W2 vw) y=([.sl 1 ((show List (List Int)×Int from y).1.map Yj.enc),.int .i64 (show List (List Int)×Int from y).2],[]):=by have q:((ET.one (.sl Yj)).v (show List (List Int)×Int from y).1).a=(ET.one (.sl Yj)).enc (show List (List Int)×Int from y).1:=ET.VE _ _;exact congrArg (λz=>(([z,A.int .i64 (show List (List Int)×Int from y).2]:List A),([]:List A))) q
 have e3:=congrArg (λz=>dB P φ g z (M9 (W2 vw) y).1 (M9 (W2 vw) y).2) e1;refine e3.mpr ?_;rw[e2];have hn:([.int .i64 n,.sl 4 ((show List km.ty from xs).map km.enc),.int .i64 c]:List A).any E0=aw:=rfl;intro w K vs bs ha hnd hKb hKz hG;obtain⟨hr,rfl⟩:=ha.aqK hn;cases hr with|cons v1 _ vs1 _ hv1 t1=>
 cases t1 with|cons v2 _ vs2 _ hv2 t2=>
 cases t2 with|cons v3 _ vs3 _ hv3 t3=>
 cases t3;cases hv1;cases hv3;have:=L.run φ gv vw h2 ov n xs c y hy w K v2 hv2 hKz hG;rw[h1];refine this.mono λe w' hq=> ?_;obtain⟨u,rfl,hb,h3⟩:=hq;refine⟨_,rfl,hb.size,λb hb' _=>hb.block b hb',⟨hb.os,hb.output⟩,λb off hb'=>frozen?_block (hb.block b hb') off,λb n hr=>hr.of_block (hb.block b hr.lt),?_⟩
 exact⟨[u,.int .i64 (show List (List Int)×Int from y).2],λb=>K b\/(w.heap.size<=b/\b<w'.heap.size),[],[],rfl,λ_ h=>.inl h,λ_ h=>h.elim .inl λh=>.inr (.inr h),
  fZ.mT (.cons _ _ _ _ (h3.mono (λ_ _=>rfl) λ_ h=>.inr h) (.cons _ _ _ _ (.int _ _) .nil)),jc.aaW ha.len hn,by simp,λb hb'=>by simp at hb'⟩
end
section
variable {P:Program} {φ:Nat->Nat}
end
end Go.Ab
namespace Go.Ab
open Go.RowKit
@[reducible] def q4E:ET:=.agg (.cons .str (.cons (.int .i64) (.cons (.int .i64) (.cons (.int .i64) .nil))))
@[reducible] def q3E:ET:=.agg (.cons .str (.cons (.int .i64) (.cons (.int .i64) .nil)))
@[reducible] def q5E:ET:=.agg (.cons .str (.cons (.int .i64) (.cons (.int .i64) (.cons (.int .i64) (.cons (.int .i64) .nil)))))
@[reducible] def qpE:ET:=.agg (.cons .str (.cons .str (.cons (.int .i64) (.cons (.int .i64) (.cons (.int .i64) .nil)))))
@[reducible] def dS:ET:=.agg (.cons (.own q4E) (.cons (.own q3E) (.cons (.sl (.one (.sl (.one (.int .i64))))) (.cons (.int .i64) (.cons (.int .i64) (.cons (.int .i64) (.cons (.int .i64) (.cons (.own q4E) (.cons (.own q5E) (.cons (.own q3E) (.cons (.own q4E) (.cons (.sl qpE) .nil))))))))))))
@[reducible] def QV:ET:=.agg (.cons (.sl q4E) (.cons (.sl q3E) (.cons (.sl (.one (.sl (.one (.int .i64))))) (.cons (.int .i64) (.cons (.int .i64) (.cons (.int .i64) (.cons (.int .i64) (.cons (.sl q4E) (.cons (.sl q5E) (.cons (.sl q3E) (.cons (.sl q4E) (.cons (.sl qpE) .nil))))))))))))
@[reducible] def qW:ET:=.agg (.cons (.own Ed) (.cons (.own Ed) (.cons (.int .i64) (.cons .str .nil))))
@[reducible] def KF:ET:=.agg (.cons (.sl Ed) (.cons (.sl Ed) (.cons (.int .i64) (.cons .str .nil))))
structure Fm(w:World)(K:Nat->Prop)(bs:List Nat)(w':World)(K':Nat->Prop):Prop where
 grow:w.heap.size<=w'.heap.size
 frame:∀b,b<w.heap.size->b∉bs->w'.heap[b]? =w.heap[b]?
 env:w'.os=w.os/\w'.output=w.output
 fr:∀b off,b<w.heap.size->w'.frozen? ⟨b,off,ai⟩=w.frozen? ⟨b,off,ai⟩
 room:∀{z:Nat} b n,b<w.heap.size->fA z w b n->fA z w' b n
 up:∀b,K b->K' b
 dn:∀b,K' b->K b\/b∈bs\/w.heap.size<=b
def Fm.refl(w:World)(K:Nat->Prop)(bs:List Nat):Fm w K bs w K:=⟨bm _,λ_ _ _=>rfl,⟨rfl,rfl⟩,λ_ _ _=>rfl,λ_ _ _ h=>h,λ_ h=>h,λ_ h=>.inl h⟩
def Fm.trans{w w1 w2:World}{K K1 K2:Nat->Prop}{bs bs1:List Nat}(h:Fm w K bs w1 K1)(h':Fm w1 K1 bs1 w2 K2)(hb:∀b∈bs1,b∈bs\/w.heap.size<=b):Fm w K bs w2 K2 where
 grow:=dZ h.grow h'.grow
 frame b hz hn:=(h'.frame b (bU hz h.grow) λhm=>(hb b hm).elim hn λh=>by omega).trans (h.frame b hz hn)
 env:=⟨h'.env.1.trans h.env.1,h'.env.2.trans h.env.2⟩
 fr b off hz:=(h'.fr b off (bU hz h.grow)).trans (h.fr b off hz)
 room b n hz hr:=h'.room b n (bU hz h.grow) (h.room b n hz hr)
 up b hk:=h'.up b (h.up b hk)
 dn b hk:=by
  have g:=h.grow;rcases h'.dn b hk with h1|h1|h1
  ·exact h.dn b h1
  ·exact .inr (hb b h1)
  ·exact .inr (.inr (by omega))
def Fm.lo{w w1 w2:World}{K K1:Nat->Prop}{bs:List Nat}(h:Fm w K bs w1 K1)(hl:Lo w.heap.size w1 w2):Fm w K bs w2 K1 where
 grow:=dZ h.grow hl.size
 frame b hz hn:=(hl.block b hz).trans (h.frame b hz hn)
 env:=⟨hl.os.trans h.env.1,hl.output.trans h.env.2⟩
 fr b off hz:=(frozen?_block (hl.block b hz) off).trans (h.fr b off hz)
 room b n hz hr:=(h.room b n hz hr).of_block (hl.block b hz)
 up:=h.up
 dn:=h.dn
def Fm.ar6{w w1:World}{K K1 K2:Nat->Prop}{bs:List Nat}(h:Fm w K bs w1 K1)(hu:∀b,K1 b->K2 b)(hd:∀b,K2 b->K1 b\/w.heap.size<=b):Fm w K bs w1 K2 where
 grow:=h.grow
 frame:=h.frame
 env:=h.env
 fr:=h.fr
 room:=h.room
 up b hb:=hu b (h.up b hb)
 dn b hb:=(hd b hb).elim (h.dn b) λh=>.inr (.inr h)
def Fm.axB{w w1:World}{K K1:Nat->Prop}{bs:List Nat}{B:Nat}(h:Fm w K bs w1 K1)(hb:∀b∈bs,B<=b)(hB:B<=w.heap.size):Lo B w w1:=
 ⟨h.grow,λb hz=>h.frame b (by omega) λhm=>by have:=hb b hm;omega,h.env.1,h.env.2⟩
section
variable {P:Program} {φ:Nat->Nat}
structure Bx(P:Program)(φ:Nat->Nat)(t:ET)(x:t.ty)(v:Value)(bs:List Nat)(K:Nat->Prop)(w:World):Prop where
 box:jE φ w K v t.z (t.enc x) bs
 nd:bs.Nodup
 ge:∀b∈bs,¬K b/\b<w.heap.size
 kz:∀b,K b->b<w.heap.size
 gl:I6 P K w
def Bx.fk{t:ET}{x:t.ty}{v:Value}{bs:List Nat}{K:Nat->Prop}{w w':World}(h:Bx P φ t x v bs K w)(hz:w.heap.size<=w'.heap.size)(hK:∀b,K b->w'.heap[b]? =w.heap[b]?)(hb:∀b∈bs,w'.heap[b]? =w.heap[b]?):Bx P φ t x v bs K w':=
 ⟨h.box.amC hK hb,h.nd,λb hb=>⟨(h.ge b hb).1,bU (h.ge b hb).2 hz⟩,λb hb=>bU (h.kz b hb) hz,h.gl.on (λ_ h=>h) hK⟩
def Bx.lo{t:ET}{x:t.ty}{v:Value}{bs:List Nat}{K:Nat->Prop}{w w':World}(h:Bx P φ t x v bs K w)(hl:Lo w.heap.size w w'):Bx P φ t x v bs K w':=
 h.fk hl.size (λb hb=>hl.block b (h.kz b hb)) λb hb=>hl.block b (h.ge b hb).2
def jE.axk{K K':Nat->Prop}{w:World}{v:Value}{z:Nat}{x:A}{bs:List Nat}(h:jE φ w K v z x bs)(hk:∀b,K b->K' b):jE φ w K' v z x bs:=jE.mono hk h
def Bx.wide{t:ET}{x:t.ty}{v:Value}{bs:List Nat}{K K':Nat->Prop}{w:World}(h:Bx P φ t x v bs K w)(hk:∀b,K b->K' b)(hn:∀b,K' b->b<w.heap.size/\b∉bs):Bx P φ t x v bs K' w:=
 ⟨h.box.axk hk,h.nd,λb hb=>⟨λhk'=>(hn b hk').2 hb,(h.ge b hb).2⟩,λb hb=>(hn b hb).1,h.gl.on hk λ_ _=>rfl⟩
def Bx.call{t:ET}{x y:t.ty}{v:Value}{bs:List Nat}{K:Nat->Prop}{w:World}{g:Nat}{ab rs:List A}{us:List Value}(h:Bx P φ t x v bs K w)(hu:cW φ w K us ab)(hc:dB P φ g (.iB t.z [t.enc x]::ab) rs [.iB t.z [t.enc y]]): Calls P (φ g) (v::us).toArray w λe w'=>∃rvs K' rb bs',e=.returned (C7 rvs)/\Fm w K bs w' K'/\fZ φ w' K' rvs rs rb/\Bx P φ t y v bs' K' w'/\(∀b∈bs',b∈bs\/w.heap.size<=b)/\∀b∈rb,¬K' b/\b<w'.heap.size/\(b∈bs\/w.heap.size<=b)/\b∉bs':=by have hargs:fL φ w K (v::us) (.iB t.z [t.enc x]::ab) (bs++ []):=.cons _ _ _ _ _ _ (.iB _ _ _ _ h.box) (fL.mT hu);rw[bS]at hargs;refine(hc w K _ bs hargs h.nd (λb hb=>(h.ge b hb).1) h.kz h.gl).mono λe w' ⟨r,he,hb⟩=> ?_;subst he;obtain⟨rvs,K',rb,ob,hv,k1,k2,hrr,ho,hnd,hbl⟩:=hb.rest;cases ho with|data _ _ _ _ _ _ hne _=>exact absurd rfl (hne.1 _ _)|iB _ _ _ _ bq _ _ _ bs1 hq ht=>obtain⟨-,rfl⟩:=acd hu ht;rw[bS]at hnd hbl;obtain⟨n1,n2,n3⟩:=cZ.1 hnd;refine⟨rvs,K',rb,bq,by rw[hv],⟨hb.grow,hb.frame,hb.env,hb.fr,λb n _ hr=>hb.room b n hr,k1,λb hk=>(k2 b hk).imp id λh=>h.imp id λh=>h.1⟩,hrr,⟨hq,n2,λb hb'=> ?_,λb hk=> ?_,?_⟩,λb hb'=>(hbl b (aS _ hb')).2.2,λb hb'=> ?_⟩;(·have:=hbl b (aS _ hb');exact⟨this.1,this.2.1⟩);(·(rcases k2 b hk with h1|h1|h1);(·exact bU (h.kz b h1) hb.grow);(·exact bU (h.ge b h1).2 hb.grow);·exact h1.2);(·exact h.gl.on k1 λb hk=>hb.frame b (h.kz b hk) λhm=>(h.ge b hm).1 hk);·have:=hbl b (bW _ hb');exact⟨this.1,this.2.1,this.2.2,λhm=>n3 b hb' b hm rfl⟩
def ats{w:World}{K:Nat->Prop}{rvs:List Value}{rb:List Nat}{b:Bool}{n:Int}(h:fZ φ w K rvs [.bool b,.int .i64 n] rb):rvs=[.bool b,.int .i64 n]:=by cases h with|cons v1 _ b1 vs1 _ bs1 r1 t1=>cases t1 with|cons v2 _ b2 vs2 _ bs2 r2 t2=>cases t2;cases r1 with|data _ h1=>cases r2 with|data _ h2=>cases h1;cases h2;rfl
def aq6{w:World}{K:Nat->Prop}{rvs:List Value}{rb:List Nat}{b:Bool}(h:fZ φ w K rvs [.bool b] rb):rvs=[.bool b]:=by cases h with|cons v1 _ b1 vs1 _ bs1 r1 t1=>cases t1;cases r1 with|data _ h1=>cases h1;rfl
def gD.ary{w:World}{K K':Nat->Prop}{v:Value}{z:Nat}{xs:List A}{b:Option Nat}(h:gD φ w K v z xs b)(hk:∀c,K c->K' c)(hb:∀c,b=ae c->K' c):iD φ w K' v (.sl z xs):=by cases h with|empty ad z=>exact .No _ _ _|mk b o cap z xs vs hc h0 hz hr hv hrm=>exact .sl b o cap z xs vs (hb b rfl) hz hc (hr.mono (λ_ _=>rfl) hk) hv
def afA{w:World}{K:Nat->Prop}{rvs:List Value}{rb:List Nat}{j:Nat}{xs:List A}{n:Int}(h:fZ φ w K rvs [.tok j 1 xs,.int .i64 n] rb): ∃v,rvs=[v,.int .i64 n]/\iD φ w (λb=>K b\/b∈rb) v (.sl 1 xs):=by cases h with|cons v1 _ b1 vs1 _ bs1 r1 t1=>cases t1 with|cons v2 _ b2 vs2 _ bs2 r2 t2=>cases t2;cases r2 with|data _ h2=>cases h2;cases r1 with|data _ h1=>cases h1|tok _ _ _ ob h1=>exact⟨v1,rfl,h1.ary (λc hc=>.inl hc) λc e=>.inr (by subst e;simp)⟩
def adf:A->A
 |.own z xs=>.sl z xs
 |a=>a
def dj.adf{w:World}{K:Nat->Prop}{X:List Nat}:∀{vs:List Value} {cs:List A} {bs:List Nat},dj φ w K vs cs bs->(∀b∈bs,b∈X)->cW φ w (λb=>K b\/b∈X) vs (cs.map Ab.adf)
 |_,_,_,.nil,_=>.nil
 |_,_,_,.cons v x ob vs xs bs h t,hX=>by
  refine .cons _ _ _ _ ?_ (dj.adf t λb hb=>hX b (aS _ hb))
  cases h with
  |data _ h ha=>
   have e:Ab.adf x=x:=by cases h<;>rfl
   rw[e]
   exact h.mono (λ_ _=>rfl) λ_ h=>.inl h
  |own z xs _ ho=>exact ho.ary (λc hc=>.inl hc) λc e=>.inr (hX c (bW _ (by subst e;simp)))
def VK{w:World}{K:Nat->Prop}{v:Value}{z:Nat}{x:A}{bs:List Nat}(h:jE φ w K v z x bs):∃b o vs,v=.pointer (ae ⟨b,o,ai⟩)/\b∈bs/\cH w b o vs/\vs.length=z/\cW φ w (λc=>K c\/c∈bs) vs (x.cells.map adf)/\fA z w b (o+z):=by cases h with|mk b o z x vs bs h hv hr hz=>have hu:=dj.adf (X:=b::bs) h λc hc=>aL _ hc;refine⟨b,o,vs,rfl,by simp,hv,?_,hu,hr⟩;rw[hu.length,aT,hz]
structure ExF where
 cut:List UInt8->List UInt8->Option (List UInt8×List UInt8×Bool)
 split:List UInt8->List UInt8->Option (List (List UInt8))
 rd:qW.ty->Int->List UInt8->Option (Bool×qW.ty)
 tt:List (List UInt8×(dS.ty->List UInt8->Option (Bool×Int×dS.ty)))
 ta:List (List UInt8×List UInt8×(dS.ty->KF.ty->Option (List (List UInt8)×Int×dS.ty)))
def lk{α:Type}:List (List UInt8×α)->List UInt8->Option α
 | [],_=>ai
 |p::l,s=>if p.1=s then ae p.2 else lk l s
def rdL(rd:qW.ty->Int->List UInt8->Option (Bool×qW.ty)):List UInt8->List (List UInt8)->qW.ty->Option (Option qW.ty)
 | [],_,a=>ae (ae a)
 |k::ks,w::ws,a=>(rd a (k.toNat:Int) w).bind λr=>if r.1 then rdL rd ks ws r.2 else ae ai
 |_::_,[],_=>ai
def exF(F:ExF)(d:dS.ty)(line:List UInt8):Option (List (List UInt8)×Int×Bool×dS.ty):=
 (F.cut line [32]).bind λc=>
   if 65536<c.1.length then ai else
   match lk F.tt c.1 with
   |some f=>if c.2.2 then(f d c.2.1).bind λr=>ae ([[111,107]],r.2.1,r.1,r.2.2)else ae ([],0,aw,d)
   |none=>(F.split line [32]).bind λws=>
    match lk F.ta c.1 with
    |none=>ae ([],0,aw,d)
    |some (ks,f)=>if ws.length=ks.length+1 then(rdL F.rd ks ws.tail ([],[],0,[],())).bind λr=>
      match r with
      |none=>ae ([],0,aw,d)
      |some a=>(f d a).bind λq=>ae (q.1,q.2.1,ar,q.2.2)
     else ae ([],0,aw,d)
noncomputable def exC(F:ExF):Callee:=
 {io:=[ar,aw],ps:=[.box dS,.d (.one .str)],rs:=[.d (.one (.sl (.one .str))),.d (.one (.int .i64)),.d (.one .bool)],os:=[.box dS],f:=λx=>exF F x.1 x.2.1}
def vJ(f:QV.ty->KF.ty->Option (List (List UInt8)×Int))(d:dS.ty)(a:KF.ty):Option (List (List UInt8)×Int×dS.ty):=(f d a).map λr=>(r.1,r.2,d)
def asA(P:Program)(φ:Nat->Nat)(f:dS.ty->List UInt8->Option (Bool×Int×dS.ty))(n:Nat):Prop:=
 ∃g,φ g=n/\jR P n/\∀d s r,f d s=ae r->dB P φ g [.iB 12 [dS.enc d],.str s] [.bool r.1,.int .i64 r.2.1] [.iB 12 [dS.enc r.2.2]]
def apj(P:Program)(φ:Nat->Nat)(f:dS.ty->KF.ty->Option (List (List UInt8)×Int×dS.ty))(n:Nat):Prop:=
 ∃g,φ g=n/\jR P n/\((∀d a r,f d a=ae r->r.2.2=d/\dB P φ g [.ptr (QV.enc d).cells 0,KF.enc a] [.tok 0 1 (r.1.map zf.enc),.int .i64 r.2.1] [])\/
  ∀d a r,f d a=ae r->dB P φ g [.iB 12 [dS.enc d],KF.enc a] [.tok 0 1 (r.1.map zf.enc),.int .i64 r.2.1] [.iB 12 [dS.enc r.2.2]])
def ac8(xs:List (List UInt8)):(xs.map zf.enc).all A.plain=ar:=by rw[uW,aG];intro x _;rfl
def akD(d:dS.ty):(dS.enc d).cells.map adf=(QV.enc d).cells:=rfl
def Bx.act{d:dS.ty}{v va:Value}{bs:List Nat}{K:Nat->Prop}{w:World}{f:dS.ty->KF.ty->Option (List (List UInt8)×Int×dS.ty)}{n:Nat}{a:KF.ty}{r:List (List UInt8)×Int×dS.ty} (h:Bx P φ dS d v bs K w) (ha:iD φ w K va (KF.enc a)) (hf:apj P φ f n) (hr:f d a=ae r): Calls P n #[v,va] w λe w'=>∃vl K' bs',e=.returned (.tuple #[vl,.int .i64 r.2.1])/\Fm w K bs w' K'/\Bx P φ dS r.2.2 v bs' K' w'/\(∀b∈bs',b∈bs\/w.heap.size<=b)/\iD φ w' K' vl (.sl 1 (r.1.map zf.enc)):=by
 obtain⟨g,rfl,-,hf⟩:=hf;rcases hf with hf|hf
 ·obtain⟨hd,hc⟩:=hf d a r hr;obtain⟨b,o,vs,hv,hb,hcl,-,hu,-⟩:=VK h.box;have hp:iD φ w (λc=>K c\/c∈bs) v (.ptr (QV.enc d).cells 0):=by rw[hv,<-akD];exact .ptr b o 0 _ vs (.inr hb) hu hcl
  refine(hc w (λc=>K c\/c∈bs) [v,va] [] (fL.mT (.cons _ _ _ _ hp (.cons _ _ _ _ (ha.mono (λ_ _=>rfl) λ_ h=>.inl h) .nil))) iy (λ_ h=>by cases h) (λc hc=>hc.elim (h.kz c) λhm=>(h.ge c hm).2) (h.gl.on (λ_ h=>.inl h) λ_ _=>rfl)).mono λe w' ⟨x,he,hb'⟩=> ?_;subst he;obtain⟨rvs,K',rb,ob,hx,k1,k2,hrr,ho,hnd,hbl⟩:=hb'.rest;obtain⟨vl,rfl,-⟩:=afA hrr;have hlo:Lo w.heap.size w w':=⟨hb'.grow,λc hc=>hb'.frame c hc (by simp),hb'.env.1,hb'.env.2⟩;have hrep:iD φ w' (λc=>K c\/c∈rb) vl (.sl 1 (r.1.map zf.enc)):=by cases hrr with|cons v1 _ b1 vs1 _ bs1 r1 t1=>cases t1 with|cons v2 _ b2 vs2 _ bs2 r2 t2=>cases t2;cases r1 with|data _ h1=>cases h1|tok _ _ _ ob h1=>exact(h1.any (K2:=K) (ac8 _)).ary (λc hc=>.inl hc) λc e=>.inr (by subst e;simp)
  have hnew:∀c∈rb,w.heap.size<=c/\c<w'.heap.size:=λc hc=>by have:=hbl c (bW _ hc);exact⟨this.2.2.resolve_left (by simp),this.2.1⟩
  refine⟨vl,λc=>K c\/c∈rb,bs,by rw[hx];rfl,((Fm.refl w K bs).lo hlo).ar6 (λc hc=>.inl hc) (λc hc=>hc.imp id λhm=>(hnew c hm).1),?_,λc hc=>.inl hc,hrep⟩;rw[hd];refine(h.lo hlo).wide (λc hc=>.inl hc) λc hc=> ?_;rcases hc with hc|hc
  ·exact⟨bU (h.kz c hc) hb'.grow,λhm=>(h.ge c hm).1 hc⟩
  ·exact⟨(hnew c hc).2,λhm=>by have:=(h.ge c hm).2;have:=(hnew c hc).1;omega⟩
 ·have hc:=hf d a r hr;refine(h.call (.cons _ _ _ _ ha .nil) hc).mono λe w' ⟨rvs,K',rb,bs',he,hfm,hrr,hbx,hbs,hrb⟩=> ?_;obtain⟨vl,rfl,hrep⟩:=afA hrr;refine⟨vl,λc=>K' c\/(c∈rb/\w.heap.size<=c)\/(c∈rb/\c∈bs),bs',by rw[he];rfl,⟨hfm.grow,hfm.frame,hfm.env,hfm.fr,hfm.room,λc hc=>.inl (hfm.up c hc),λc hc=> ?_⟩,hbx.wide (λc hc=>.inl hc) λc hc=> ?_,hbs,hrep.mono (λ_ _=>rfl) λc hc=>hc.imp id λhm=> ?_⟩;·(rcases hc with hc|hc|hc);(·exact hfm.dn c hc);(·exact .inr (.inr hc.2));·exact .inr (.inl hc.2)
  ·(rcases hc with hc|hc|hc);(·exact⟨hbx.kz c hc,λhm=>(hbx.ge c hm).1 hc⟩);(·exact⟨(hrb c hc.1).2.1,(hrb c hc.1).2.2.2⟩);·exact⟨(hrb c hc.1).2.1,(hrb c hc.1).2.2.2⟩
  ·(rcases(hrb c hm).2.2.1 with h1|h1);(·exact .inr ⟨hm,h1⟩);·exact .inl ⟨hm,h1⟩
open Go.Maps in
def Fg(l:List (List UInt8×Value))(D:DataW Value):DataW Value:=l.foldl (λD p=>D.put (.string p.1) (.held p.2)) D
open Go.Maps in
def aiG(s:List UInt8):∀(l:List (List UInt8×Value)) (D:DataW Value),IsMap D->(l.map amd).Nodup->
 (∀z,(Fg l D).atKey (.string s) z=match lk l s with|some v=>.held v|none=>D.atKey (.string s) z)/\Maps.has (Fg l D) (.string s)=((lk l s).isSome||Maps.has D (.string s))
 | [],D,_,_=>⟨λz=>rfl,rfl⟩
 |p::l,D,hD,hn=>by
  obtain⟨n1,n2⟩:=pd.1 (by simpa using hn:(p.1::l.map amd).Nodup)
  obtain⟨h1,h2⟩:=aiG s l (D.put (.string p.1) (.held p.2)) (hD.put _ _) n2
  by_cases hs:p.1=s
  ·subst hs
   have hno:∀{l:List (List UInt8×Value)},p.1∉l.map amd->lk l p.1=ai:=by intro l hl;induction l with|nil=>rfl|cons q l ih=>simp only[aP,bl,not_or]at hl;rw[lk,aO (λe=>hl.1 e.symm),ih hl.2]
   rw[hno n1]at h1 h2
   have e:lk (p::l) p.1=ae p.2:=by rw[lk,aJ rfl]
   rw[e]
   refine⟨λz=>(h1 z).trans (atKey_put_same hD (by trivial) _ _),h2.trans ?_⟩
   rw[has_put_same hD (by trivial)]
   rfl
  ·have e:lk (p::l) s=lk l s:=by rw[lk,aO hs]
   rw[e]
   have hne:(Lit.string s)≠ .string p.1:=by intro e;injection e with e;exact hs e.symm
   refine⟨λz=>(h1 z).trans ?_,h2.trans ?_⟩
   ·rw[atKey_put_other hne]
   ·rw[has_put_other hne]
open Go.Maps in
def NF:Value->Option (DataW Value×List MemPlace):=λv=>ae (.held v,[])
open Go.Maps in
def aiH{w:World}{k e t:TypeId}{b n:Nat}{l:List (List UInt8×Value)}(h:w.ownsMap P k NF b n (Fg l (.map [])))(Kk:Keyed P k)(ht:P.underlying t=ae (.map k e)){z:Value}(hz:(zeroValue e).run P w=.ok z w)(hn:(l.map amd).Nodup){s:List UInt8}(hkey:keyOf P k (.string ⟨s.toArray⟩)=ae (.string s)): (Gb t (.map (ae b)) (.string ⟨s.toArray⟩) ar).run P w=.ok (.tuple #[(lk l s).getD z,.bool (lk l s).isSome]) w:=by obtain⟨h1,h2⟩:=aiG s l (.map []) isMap_empty hn;obtain⟨v,ps,hrun,hv⟩:=World.ownsMap.look_ok h Kk ht hz (zd:=.held z) (zp:=[]) rfl hkey;rw[h1]at hv;rw[hrun,h2];cases hl:lk l s with|none=>rw[hl]at hv;injection hv with hv;injection hv with hv;injection hv with hv;rw[hv];rfl|some u=>rw[hl]at hv;injection hv with hv;injection hv with hv;injection hv with hv;rw[hv];rfl
inductive Tab{α β:Type}(R:α->β->Prop):List (List UInt8×α)->List (List UInt8×β)->Prop
 |nil:Tab R [] []
 |cons (s:List UInt8) (a:α) (b:β) (l:List (List UInt8×α)) (m:List (List UInt8×β)) (h:R a b) (t:Tab R l m):Tab R ((s,a)::l) ((s,b)::m)
def Tab.look{α β:Type}{R:α->β->Prop}(V:β->Value){l:List (List UInt8×α)}{m:List (List UInt8×β)}(h:Tab R l m)(s:List UInt8): (lk l s=ai/\lk (m.map λp=>(p.1,V p.2)) s=ai)\/∃a b,lk l s=ae a/\R a b/\lk (m.map λp=>(p.1,V p.2)) s=ae (V b):=by induction h with|nil=>exact .inl ⟨rfl,rfl⟩|cons q a b l m h t ih=>simp only[aP,lk];by_cases e:q=s;(·rw[aJ e,aJ e];exact .inr ⟨a,b,rfl,h,rfl⟩);·rw[aO e,aO e];exact ih
def Bx.text{d:dS.ty}{v:Value}{bs:List Nat}{K:Nat->Prop}{w:World}{f:dS.ty->List UInt8->Option (Bool×Int×dS.ty)}{n:Nat}{s:List UInt8}{r:Bool×Int×dS.ty} (h:Bx P φ dS d v bs K w) (hf:asA P φ f n) (hr:f d s=ae r): Calls P n #[v,.string ⟨s.toArray⟩] w λe w'=>∃K' bs',e=.returned (.tuple #[.bool r.1,.int .i64 r.2.1])/\Fm w K bs w' K'/\Bx P φ dS r.2.2 v bs' K' w'/\∀b∈bs',b∈bs\/w.heap.size<=b:=by obtain⟨g,rfl,-,hf⟩:=hf;refine(h.call (.cons _ _ _ _ (.str s) .nil) (hf d s r hr)).mono λe w' ⟨rvs,K',rb,bs',he,hfm,hrr,hbx,hbs,hrb⟩=> ?_;rw[ats hrr]at he;exact⟨K',bs',he,hfm,hbx,hbs⟩
def Bx.read{a:qW.ty}{v:Value}{bs:List Nat}{K:Nat->Prop}{w:World}{g:Nat}{k:Int}{s:List UInt8}{r:Bool×qW.ty} (h:Bx P φ qW a v bs K w) (hc:dB P φ g [.iB 4 [qW.enc a],.int .u8 k,.str s] [.bool r.1] [.iB 4 [qW.enc r.2]]): Calls P (φ g) #[v,.int .u8 k,.string ⟨s.toArray⟩] w λe w'=>∃K' bs',e=.returned (.bool r.1)/\Fm w K bs w' K'/\Bx P φ qW r.2 v bs' K' w'/\∀b∈bs',b∈bs\/w.heap.size<=b:=by refine(h.call (.cons _ _ _ _ (.int _ _) (.cons _ _ _ _ (.str s) .nil)) hc).mono λe w' ⟨rvs,K',rb,bs',he,hfm,hrr,hbx,hbs,hrb⟩=> ?_;rw[aq6 hrr]at he;exact⟨K',bs',he,hfm,hbx,hbs⟩
def Bx.axZ{a:qW.ty}{b o:Nat}{bs:List Nat}{K:Nat->Prop}{w:World}(h:Bx P φ qW a (.pointer (ae ⟨b,o,ai⟩)) bs K w): ∃u0 u1 u2 u3,w.cell? ⟨b,o,ai⟩=ae u0/\w.cell? ⟨b,o+1,ai⟩=ae u1/\w.cell? ⟨b,o+2,ai⟩=ae u2/\w.cell? ⟨b,o+3,ai⟩=ae u3/\iD φ w (λc=>K c\/c∈bs) (.agg #[u0,u1,u2,u3]) (KF.enc a):=by obtain⟨b',o',vs,hv,-,hc,hl,hu,-⟩:=VK h.box;cases hv;match vs,hl with| [u0,u1,u2,u3],_=>exact⟨u0,u1,u2,u3,hc 0 _ rfl,hc 1 _ rfl,hc 2 _ rfl,hc 3 _ rfl,.agg [u0,u1,u2,u3] _ hu⟩
def Fm.line{w w1 w2:World}{K K1:Nat->Prop}{bs bs':List Nat}{d:dS.ty}{v:Value}(h:Fm w K bs w1 K1)(hb:Bx P φ dS d v bs' K1 w1){s:List UInt8}{t:TypeId}(he:w2=w1.alloc (.cells #[.string ⟨s.toArray⟩] t)): ∃K2,Fm w K bs w2 K2/\Bx P φ dS d v bs' K2 w2/\iD φ w2 K2 (.slice (ae ⟨w1.heap.size,0,ai⟩) 1 1) (.sl 1 ([s].map zf.enc)):=by
 have hl:Lo w.heap.size w1 w2:=by rw[he];exact(Lo.refl _ _).alloc h.grow _
 have hl2:Lo w1.heap.size w1 w2:=by rw[he];exact(Lo.refl _ _).alloc (bm _) _
 have hz:w2.heap.size=w1.heap.size+1:=by rw[he];simp
 refine⟨λb=>K1 b\/b=w1.heap.size,(h.lo hl).ar6 (λb hb=>.inl hb) (λb hb=>hb.imp id λe=>by rw[e];exact h.grow),(hb.lo hl2).wide (λb hb=>.inl hb) λb hk=> ?_,?_⟩
 ·rcases hk with hk|hk
  ·exact⟨by have:=hb.kz b hk;omega,λhm=>(hb.ge b hm).1 hk⟩
  ·exact⟨by omega,λhm=>by have:=(hb.ge b hm).2;omega⟩
 ·refine .sl w1.heap.size 0 1 1 [.str s] [.string ⟨s.toArray⟩] (.inr rfl) (λx hx=>by rw[aX.1 hx];rfl) (bm _) (.cons _ _ _ _ (.str s) .nil) λj u hj=> ?_;cases j with|zero=>cases hj;(have e2:w2.heap[w1.heap.size]? =ae (.cells #[.string ⟨s.toArray⟩] t):=by rw[he];simp only[Rm,xy]);simp only[df,e2];rfl|succ j=>cases hj
def Bx.D4{w w2:World}{K:Nat->Prop}{t:TypeId}(hK:∀b,K b->b<w.heap.size)(hG:I6 P K w)(he:w2=w.alloc (.cells #[.slice ai 0 0,.slice ai 0 0,.int .i64 0,.string ⟨#[]⟩] t)): Bx P φ qW ([],[],0,[],()) (.pointer (ae ⟨w.heap.size,0,ai⟩)) [w.heap.size] K w2:=by
 have hz:w2.heap.size=w.heap.size+1:=by rw[he];simp
 have e2:w2.heap[w.heap.size]? =ae (.cells #[.slice ai 0 0,.slice ai 0 0,.int .i64 0,.string ⟨#[]⟩] t):=by rw[he];simp only[Rm,xy]
 have hh:w2.heap=w.heap.push (.cells #[.slice ai 0 0,.slice ai 0 0,.int .i64 0,.string ⟨#[]⟩] t):=by rw[he];rfl
 refine⟨.mk w.heap.size 0 4 (qW.enc ([],[],0,[],())) [.slice ai 0 0,.slice ai 0 0,.int .i64 0,.string ⟨#[]⟩] [] ?_ ?_ (Ax hh) rfl,by simp,λb hb=> ?_,λb hb=>by have:=hK b hb;omega,?_⟩;·exact .cons _ _ ai _ _ [] (.own _ _ _ _ (.empty ai 1)) (.cons _ _ ai _ _ [] (.own _ _ _ _ (.empty ai 1)) (.cons _ _ ai _ _ [] (.data _ _ (.int _ _) (λ_ h=>by cases h)) (.cons _ _ ai _ _ [] (.data _ _ (.str []) (λ_ h=>by cases h)) .nil)))
 ·intro j u hj;have h5:j<4:=by have:=(iL.1 hj).1;simpa using this
  match j,h5 with|0,_=>cases hj;simp only[df,e2];rfl|1,_=>cases hj;simp only[df,e2];rfl|2,_=>cases hj;simp only[df,e2];rfl|3,_=>cases hj;simp only[df,e2];rfl
 ·rw[aX.1 hb];exact⟨λh=>by have:=hK _ h;omega,by omega⟩
 ·exact hG.on (λb hb=>hb) λb hb=>by have:=hK b hb;rw[hh,zo this,vA this]
def dB.three{g:Nat}{ab:List A}{s t:List UInt8}{b:Bool}(hc:dB P φ g ab [.str s,.str t,.bool b] []){w:World}{K:Nat->Prop}{vs:List Value}(hr:cW φ w K vs ab)(hK:∀b,K b->b<w.heap.size)(hG:I6 P K w): Calls P (φ g) vs.toArray w λe w'=>e=.returned (.tuple #[.string ⟨s.toArray⟩,.string ⟨t.toArray⟩,.bool b])/\Lo w.heap.size w w':=by refine(hc w K vs [] (fL.mT hr) iy (λ_ h=>by cases h) hK hG).mono λe w' ⟨v,he,hb⟩=> ?_;subst he;obtain⟨rvs,K',rb,ob,hv,_,_,hrr,ho,_,hbl⟩:=hb.rest;refine⟨?_,hb.grow,λb hb'=>hb.frame b hb' (by simp),hb.env.1,hb.env.2⟩;cases hrr with|cons v1 _ b1 vs1 _ bs1 r1 t1=>cases t1 with|cons v2 _ b2 vs2 _ bs2 r2 t2=>cases t2 with|cons v3 _ b3 vs3 _ bs3 r3 t3=>cases t3;cases r1 with|data _ h1=>cases r2 with|data _ h2=>cases r3 with|data _ h3=>cases h1;cases h2;cases h3;rw[hv];rfl
def akE(s:List UInt8):Value:=.string ⟨s.toArray⟩
def ada{w:World}{K:Nat->Prop}:∀{r:List (List UInt8)} {vs:List Value},cW φ w K vs ((r.map zf.enc).flatMap A.cells)->vs=r.map akE
 | [],_,h=>by cases h;rfl
 |s::r,_,h=>by
  cases h with
  |cons v _ vs _ h1 h2=>
  cases h1
  rw[ada h2]
  rfl
def alD{w:World}{K:Nat->Prop}{ad:Option Addr}{n cp:Nat}{r:List (List UInt8)}(h:iD φ w K (.slice ad n cp) (.sl 1 (r.map zf.enc))): (r=[]/\n=0)\/∃b o,ad=ae ⟨b,o,ai⟩/\K b/\n=r.length/\r.length<=cp/\cH w b o (r.map akE):=by
 generalize hx:r.map zf.enc=xs at h
 cases h with
 |No ad cap z=>cases r with
  |nil=>exact .inl ⟨rfl,rfl⟩
  |cons=>cases hx
 |sl b o cap z xs vs hb hz hc h hv=>
  subst hx;rw[aT]at hc⊢;rw[ada h]at hv;exact .inr ⟨b,o,rfl,hb,rfl,hc,hv⟩
def auV(P:Program)(φ:Nat->Nat)(w:World)(K:Nat->Prop)(bs:List Nat)(v:Value)(r:List (List UInt8)×Int×Bool×dS.ty)(e:Ending)(w':World):Prop:=
 ∃vl K' bs',e=.returned (.tuple #[vl,.int .i64 r.2.1,.bool r.2.2.1])/\Fm w K bs w' K'/\Bx P φ dS r.2.2.2 v bs' K' w'/\(∀b∈bs',b∈bs\/w.heap.size<=b)/\iD φ w' K' vl (.sl 1 (r.1.map zf.enc))
structure apl(P:Program)(ex cut spl rd:Nat)(tn:List (List UInt8×Nat))(an:List (List UInt8×List UInt8×Nat)):Prop where
 en:jR P ex
 run:∀(φ:Nat->Nat) (gc gs gr:Nat) (F:ExF),φ gc=cut->φ gs=spl->φ gr=rd->
  (∀a b r,F.cut a b=ae r->dB P φ gc [.str a,.str b] [.str r.1,.str r.2.1,.bool r.2.2] [])->
  (∀a b r,F.split a b=ae r->r.length<4611686018427387904/\dB P φ gs [.str a,.str b] [.tok 0 1 (r.map zf.enc)] [])->
  (∀a k s r,F.rd a k s=ae r->dB P φ gr [.iB 4 [qW.enc a],.int .u8 k,.str s] [.bool r.1] [.iB 4 [qW.enc r.2]])->
  Tab (asA P φ) F.tt tn->Tab (λp q=>p.1=q.1/\apj P φ p.2 q.2) F.ta an->
  ∀(d:dS.ty) (line:List UInt8) r,exF F d line=ae r->∀(w:World) (K:Nat->Prop) (bs:List Nat) (v:Value),Bx P φ dS d v bs K w->
  Calls P ex #[v,.string ⟨line.toArray⟩] w λe w'=>auV P φ w K bs v r e w'
def uP.self:∀(l:List A),uP l l
 | []=>.nil
 |a::l=>.cons _ _ _ _ (.refl a) (uP.self l)
def r6.agS{g:Nat}{c:Callee}(he:jR P (φ g))(h:∀x y,c.f x=ae y->dB P φ g (Gd c.ps x) (M9 c y).1 (M9 c y).2):r6 P φ g c:=by
 refine⟨he,λab res outs hc=> ?_⟩;unfold Callee.cf at hc;split at hc;·rename_i hx;obtain⟨y,hy,hr⟩:=au.1 hc;have h1:=h _ _ hy;rw[hr]at h1;exact h1.k9 (Sb hx.choose_spec.2) (uP.self _) (uP.self _)
 ·cases hc
def jE.lt{w:World}{K:Nat->Prop}{v:Value}{z:Nat}{x:A}{bs:List Nat}(h:jE φ w K v z x bs):∀b∈bs,b<w.heap.size:=by cases h with|mk b o z x vs bs h hv hr hz=>intro c hc;(rcases bl.1 hc with rfl|hc);(·exact hr.lt);·exact h.lt c hc
def axe{F:ExF}{g gc gs gr ex cut spl rd:Nat}{tn:List (List UInt8×Nat)}{an:List (List UInt8×List UInt8×Nat)}(L:apl P ex cut spl rd tn an)(hφ: [g,gc,gs,gr].map φ=[ex,cut,spl,rd]) (h1:∀a b r,F.cut a b=ae r->dB P φ gc [.str a,.str b] [.str r.1,.str r.2.1,.bool r.2.2] []) (h2:∀a b r,F.split a b=ae r->r.length<4611686018427387904/\dB P φ gs [.str a,.str b] [.tok 0 1 (r.map zf.enc)] []) (h3:∀a k s r,F.rd a k s=ae r->dB P φ gr [.iB 4 [qW.enc a],.int .u8 k,.str s] [.bool r.1] [.iB 4 [qW.enc r.2]]) (h4:Tab (asA P φ) F.tt tn) (h5:Tab (λp q=>p.1=q.1/\apj P φ p.2 q.2) F.ta an):r6 P φ g (exC F):=by
 simp only[aP,lT,ej,pe]at hφ;obtain⟨f1,f2,f3,f4⟩:=hφ;refine r6.agS (by rw[f1];exact L.en) λx y hy=> ?_;obtain⟨d,line,⟨⟩⟩:=x;have hy:exF F d line=ae y:=hy;have e1:Gd (exC F).ps (d,line,())=[.iB 12 [dS.enc d],.str line]:=by show [A.iB 12 [(dS.v d).a],.str line]=_;rw[ET.VE]
 have e2:M9 (exC F) y=([.sl 1 (y.1.map zf.enc),.int .i64 y.2.1,.bool y.2.2.1],[.iB 12 [dS.enc y.2.2.2]]):=by have q:((ET.one (.sl zf)).v y.1).a=(ET.one (.sl zf)).enc y.1:=ET.VE _ _;have q2:(dS.v y.2.2.2).a=dS.enc y.2.2.2:=ET.VE _ _;show([((ET.one (.sl zf)).v y.1).a,_,_],[A.iB 12 [(dS.v y.2.2.2).a]])=_;rw[q,q2];rfl
 rw[e1,e2];intro w K vs bs ha hnd hb hK hG;cases ha with|cons v _ b0 vs _ bs1 hv t=>
 cases t with|cons u _ b2 us _ bs2 hu t=>
 cases t;cases hu with|data _ hu=>
 cases hu;cases hv with|data _ h=>cases h|iB _ _ _ hbox=>
 simp only[bS]at hnd hb⊢;rw[f1];have hbz:∀c∈b0,c<w.heap.size:=λc hc=>hbox.lt c hc;refine(L.run φ gc gs gr F f2 f3 f4 h1 h2 h3 h4 h5 d line y hy w K b0 v ⟨hbox,hnd,λb hb'=>⟨hb b hb',hbz b hb'⟩,hK,hG⟩).mono λe w' ⟨vl,K',bs',he,hfm,hbx,hbs,hrep⟩=>⟨_,he,?_⟩;refine⟨hfm.grow,hfm.frame,hfm.env,hfm.fr,λb n hr=>hfm.room b n hr.lt hr,[vl,.int .i64 y.2.1,.bool y.2.2.1],K',[],bs',rfl,hfm.up,λb hk=> ?_,?_,?_,by simpa using hbx.nd,λb hb'=> ?_⟩
 ·rcases hfm.dn b hk with h|h|h
  ·exact .inl h
  ·exact .inr (.inl h)
  ·exact .inr (.inr ⟨h,hbx.kz b hk⟩)
 ·exact .cons _ _ [] _ _ [] (.data _ _ hrep) (.cons _ _ [] _ _ [] (.data _ _ (.int _ _)) (.cons _ _ [] _ _ [] (.data _ _ (.bool _)) .nil))
 ·have:=jc.iB (φ:=φ) (w:=w') (K:=K') v 12 (dS.enc d) (dS.enc y.2.2.2) bs' [.string ⟨line.toArray⟩] [.str line] [] [] hbx.box (.data _ _ _ _ _ _ ⟨λ_ _ h=>(by cases h),λ_ _ h=>(by cases h)⟩ .nil);rwa[bS]at this
 ·have hb2:b∈bs':=by simpa using hb'
  exact⟨(hbx.ge b hb2).1,(hbx.ge b hb2).2,(hbs b hb2)⟩
end
section
variable {P:Program} {φ:Nat->Nat}
def r6.Xw{g:Nat}{c:Callee}(h:r6 P φ g c){x:FP c.ps}{y:QM (c.rs++c.os)}{ab rs os:List A}(ht:zP c.ps=ar)(hn:yJ c.ps ab=Gd c.ps x)(hf:c.f x=ae y)(hr:M9 c y=(rs,os)):dB P φ g ab rs os:=
 h.2 _ _ _ (by rw[Callee.ami ht hn,hf,az,hr])
abbrev bE:ET:=.one .bool
def ahs{D:List (Nat×Callee)}{H:List (Nat×ET)}{fn:Fn}{g n:Nat}(h:r6 P φ g (iC D H fn [.box dS,.d zf] [.d bE,.d Ed] [.box dS]))(hn:φ g=n):
 asA P φ (λd s=>(iC D H fn [.box dS,.d zf] [.d bE,.d Ed] [.box dS]).f (d,s,())) n:=
 ⟨g,hn,hn▸h.1,λd s r hr=>h.Xw (c:=iC D H fn [.box dS,.d zf] [.d bE,.d Ed] [.box dS]) (x:=(d,s,())) (y:=r) rfl (by
   show [MT.norm (.box dS) (A.iB 12 [dS.enc d]),_]=[A.iB 12 [(dS.v d).a],_]
   rw[ET.VE];rfl) hr (by
   show([_,_],[A.iB 12 [(dS.v r.2.2).a]])=_
   rw[ET.VE];rfl)⟩
def xI{D:List (Nat×Callee)}{H:List (Nat×ET)}{fn:Fn}{g n:Nat}(h:r6 P φ g (iC D H fn [.p QV,.d KF] [.tok zf,.d Ed] []))(hn:φ g=n):
 apj P φ (vJ λd s=>(iC D H fn [.p QV,.d KF] [.tok zf,.d Ed] []).f (d,s,())) n:=
 ⟨g,hn,hn▸h.1,.inl λd a r hr=>by
   obtain⟨q,hq,rfl⟩:=au.1 hr
   refine⟨rfl,h.Xw (c:=iC D H fn [.p QV,.d KF] [.tok zf,.d Ed] []) (x:=(d,a,())) (y:=q) rfl ?_ hq ?_⟩
   ·show [MT.norm (.p QV) (A.ptr (QV.enc d).cells 0),_]=[A.ptr ((QV.vs d).map V.a) 0,(KF.v a).a]
    rw[ET.VE,<-ET.Vx];rfl
   ·rfl⟩
def aut{D:List (Nat×Callee)}{H:List (Nat×ET)}{fn:Fn}{g n:Nat}(h:r6 P φ g (iC D H fn [.box dS,.d KF] [.tok zf,.d Ed] [.box dS]))(hn:φ g=n):
 apj P φ (λd s=>(iC D H fn [.box dS,.d KF] [.tok zf,.d Ed] [.box dS]).f (d,s,())) n:=
 ⟨g,hn,hn▸h.1,.inr λd a r hr=>h.Xw (c:=iC D H fn [.box dS,.d KF] [.tok zf,.d Ed] [.box dS]) (x:=(d,a,())) (y:=r) rfl (by
   show [MT.norm (.box dS) (A.iB 12 [dS.enc d]),KF.enc a]=[A.iB 12 [(dS.v d).a],(KF.v a).a]
   rw[ET.VE,ET.VE];rfl) hr (by
   show([_,_],[A.iB 12 [(dS.v r.2.2).a]])=_
   rw[ET.VE];rfl)⟩
def asK{g:Nat}(h:r6 P φ g aqg)(a b:List UInt8)(r:List UInt8×List UInt8×Bool)(hr:aqg.f (a,b,())=ae r):dB P φ g [.str a,.str b] [.str r.1,.str r.2.1,.bool r.2.2] []:=
 h.Xw (c:=aqg) (x:=(a,b,())) (y:=r) rfl rfl hr rfl
def afI(p:List UInt8)(n:Nat):∀(k:Nat) (s:List UInt8),(uV p n k s).length<=k+1
 |0,s=>by simp[uV]
 |k+1,s=>by
  unfold uV
  split
  ·simp
  ·have:=afI p n k (s.drop ((af0 s p).toNat+p.length))
   simp only[bh];omega
def aoA{g:Nat}(h:r6 P φ g ac3)(a b:List UInt8)(r:List (List UInt8))(hr:ac3.f (a,b,())=ae r):r.length<4611686018427387904/\dB P φ g [.str a,.str b] [.tok 0 1 (r.map zf.enc)] []:=
 ⟨by
   have hq:(if ah (cP (α:=UInt8) a<4294967281)&&ah (1<=cP (α:=UInt8) b)then ae (uV b 0 (Nq a b) a)else ai)=ae r:=hr
   split at hq
   ·rename_i h1
    cases hq
    simp only[aj,ax]at h1
    have:=afI b 0 (Nq a b) a
    have:=Lib.count_le a b
    omega
   ·(cases hq),h.Xw (c:=ac3) (x:=(a,b,())) (y:=r) rfl rfl hr rfl⟩
def aq4{D:List (Nat×Callee)}{H:List (Nat×ET)}{fn:Fn}{g:Nat}(h:r6 P φ g (iC D H fn [.box qW,.d (.one (.int .u8)),.d zf] [.d bE] [.box qW]))(a:qW.ty)(k:Int)(s:List UInt8)(r:Bool×qW.ty)
 (hr:(iC D H fn [.box qW,.d (.one (.int .u8)),.d zf] [.d bE] [.box qW]).f (a,k,s,())=ae r):dB P φ g [.iB 4 [qW.enc a],.int .u8 k,.str s] [.bool r.1] [.iB 4 [qW.enc r.2]]:=
 h.Xw (c:=iC D H fn [.box qW,.d (.one (.int .u8)),.d zf] [.d bE] [.box qW]) (x:=(a,k,s,())) (y:=r) rfl (by
  show [MT.norm (.box qW) (A.iB 4 [qW.enc a]),_,_]=[A.iB 4 [(qW.v a).a],_,_]
  rw[ET.VE];rfl) hr (by
  show([_],[A.iB 4 [(qW.v r.2).a]])=_
  rw[ET.VE];rfl)
end
end Go.Ab
