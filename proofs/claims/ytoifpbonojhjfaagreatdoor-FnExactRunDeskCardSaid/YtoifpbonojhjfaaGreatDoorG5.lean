/- Functions of the program: abstract forms, and what their runs give. Conditions: none. -/
import Derived.Test.YtoifpbonojhjfaaGreatDoorG4
import Derived.Test.YtoifpbonojhjfaaGreatDoorG3
set_option linter.unusedVariables false
set_option maxRecDepth 100000
set_option linter.defProp false
open Bool renaming false->aA,true->aB
open Decidable renaming decide->ao
open Eq renaming trans->Tv
open Go.IntKind renaming i64->ak,u64->aIJ,u8->Gq,wrap->aj
open Go.Lib renaming count->WI,cut->TA,itoa->bT,join->jT,repeatL->arR,splitK->Aw
open Go.Op renaming bytesLess->dB
open List renaming length->ae,replicate->bK
open Option renaming bind->af,none->au,some->ai
open _root_ renaming Bool->aW,Int->aw,List->ah,Nat->ax,Option->aq,UInt8->ay,Unit->mW
namespace Go.Ab.P
open Go.Ab
noncomputable section
@[reducible] def cx:ET:=.agg (.cons .str (.cons (.int .i64) (.cons (.int .i64) (.cons (.int .i64) (.cons (.int .i64) .nil)))))
@[reducible] def iZ:ET:=.agg (.cons (.int .i64) (.cons (.int .i64) (.cons (.int .i64) (.cons (.int .i64) .nil))))
@[reducible] def aZ:ET:=.agg (.cons .str (.cons (.int .i64) (.cons (.int .i64) (.cons (.int .i64) .nil))))
@[reducible] def be:ET:=.agg (.cons .str (.cons (.int .i64) (.cons (.int .i64) .nil)))
@[reducible] def aR:ET:=.agg (.cons .str (.cons .str (.cons (.int .i64) (.cons (.int .i64) (.cons (.int .i64) .nil)))))
@[reducible] def cM:ET:=.agg (.cons (.sl aZ) (.cons (.sl be) (.cons (.sl (.one (.sl (.one (.int .i64))))) (.cons (.int .i64) (.cons (.int .i64) (.cons (.int .i64) (.cons (.int .i64) (.cons (.sl aZ) (.cons (.sl cx) (.cons (.sl be) (.cons (.sl aZ) (.cons (.sl aR) .nil))))))))))))
@[reducible] def nb:ET:=.agg (.cons (.int .i64) (.cons (.int .i64) .nil))
@[reducible] def aqm:ET:=.agg (.cons (.sl be) (.cons (.int .i64) (.cons (.int .i64) (.cons (.sl (.one (.int .i64))) (.cons (.sl (.one (.int .i64))) (.cons (.int .i64) (.cons (.int .i64) .nil)))))))
@[reducible] def da:ET:=.agg (.cons (.sl (.one (.int .i64))) (.cons (.sl (.one (.int .i64))) (.cons (.int .i64) (.cons .str .nil))))
@[reducible] def bn:ET:=.agg (.cons (.own aZ) (.cons (.own be) (.cons (.sl (.one (.sl (.one (.int .i64))))) (.cons (.int .i64) (.cons (.int .i64) (.cons (.int .i64) (.cons (.int .i64) (.cons (.own aZ) (.cons (.own cx) (.cons (.own be) (.cons (.own aZ) (.cons (.sl aR) .nil))))))))))))
@[reducible] def et:ET:=.agg (.cons (.sl cx) (.cons (.sl (.one (.int .i64))) (.cons (.own (.one (.int .i64))) (.cons (.own (.one (.int .i64))) (.cons (.own (.one (.int .i64))) (.cons (.int .i64) (.cons (.int .i64) (.cons (.int .i64) (.cons .bool .nil)))))))))
@[reducible] def dD:ET:=.agg (.cons (.sl be) (.cons (.int .i64) (.cons (.int .i64) (.cons (.int .i64) (.cons (.own (.one (.int .i64))) (.cons (.own (.one (.int .i64))) (.cons (.int .i64) (.cons (.int .i64) (.cons .bool .nil)))))))))
@[reducible] def dd:ET:=.agg (.cons (.sl aR) (.cons (.own (.one (.int .i64))) (.cons (.own (.one (.int .i64))) (.cons (.int .i64) (.cons (.int .i64) (.cons (.int .i64) (.cons .bool .nil)))))))
@[reducible] def dH:ET:=.agg (.cons (.sl be) (.cons (.int .i64) (.cons (.int .i64) (.cons (.own (.one (.int .i64))) (.cons (.own (.one (.int .i64))) (.cons (.int .i64) (.cons (.int .i64) .nil)))))))
@[reducible] def gD:ET:=.agg (.cons (.sl cx) (.cons (.sl (.one (.int .i64))) (.cons (.own (.one (.int .i64))) (.cons (.int .i64) (.cons (.own (.one (.int .i64))) (.cons (.int .i64) (.cons (.own (.one (.int .i64))) (.cons (.int .i64) (.cons .bool .nil)))))))))
@[reducible] def ep:ET:=.agg (.cons (.sl aR) (.cons (.int .i64) (.cons (.own (.one (.int .i64))) (.cons (.int .i64) (.cons (.own (.one (.int .i64))) (.cons (.int .i64) .nil))))))
@[reducible] def yW:ET:=.agg (.cons (.own (.one (.int .i64))) (.cons (.own (.one (.int .i64))) (.cons (.int .i64) (.cons .str .nil))))
@[reducible] def T_x:ET:=.agg (.cons (.int .i64) (.cons (.int .i64) (.cons (.int .i64) .nil)))
abbrev K(i:ax)(p r:ah MT)(s:String)(D:ah (ax×Callee):=[])(o:ah MT:=[]){l:ah Char}(h:s=String.ofList l:=by rfl):Rec:=⟨[(.one (.int .i64)),(.one .str),aZ,be,(.one (.sl (.one (.int .i64)))),aR,cx,(.one (.int .u8)),(.one (.sl (.one .str))),nb],i,D,p,r,o,sd l 0⟩
def bI(a:bn.ty):bn.ty:=(tk a.1,tk a.2.1,a.2.2.1,a.2.2.2.1,a.2.2.2.2.1,a.2.2.2.2.2.1,a.2.2.2.2.2.2.1,tk a.2.2.2.2.2.2.2.1,tk a.2.2.2.2.2.2.2.2.1,tk a.2.2.2.2.2.2.2.2.2.1,tk a.2.2.2.2.2.2.2.2.2.2.1,a.2.2.2.2.2.2.2.2.2.2.2.1,())
def bF(a:_):bI a=a:=by simp only[bI,bM]
def Cr(a:dD.ty):dD.ty:=(a.1,a.2.1,a.2.2.1,a.2.2.2.1,tk a.2.2.2.2.1,tk a.2.2.2.2.2.1,a.2.2.2.2.2.2.1,a.2.2.2.2.2.2.2.1,a.2.2.2.2.2.2.2.2.1,())
def Oc(a:_):Cr a=a:=by simp only[Cr,bM]
def rH(a:dH.ty):dH.ty:=(a.1,a.2.1,a.2.2.1,tk a.2.2.2.1,tk a.2.2.2.2.1,a.2.2.2.2.2.1,a.2.2.2.2.2.2.1,())
def oP(a:_):rH a=a:=by simp only[rH,bM]
def UX(a:gD.ty):gD.ty:=(a.1,a.2.1,tk a.2.2.1,a.2.2.2.1,tk a.2.2.2.2.1,a.2.2.2.2.2.1,tk a.2.2.2.2.2.2.1,a.2.2.2.2.2.2.2.1,a.2.2.2.2.2.2.2.2.1,())
def JT(a:_):UX a=a:=by simp only[UX,bM]
def JU(a:et.ty):et.ty:=(a.1,a.2.1,tk a.2.2.1,tk a.2.2.2.1,tk a.2.2.2.2.1,a.2.2.2.2.2.1,a.2.2.2.2.2.2.1,a.2.2.2.2.2.2.2.1,a.2.2.2.2.2.2.2.2.1,())
def acz(a:_):JU a=a:=by simp only[JU,bM]
def mV(a:ep.ty):ep.ty:=(a.1,a.2.1,tk a.2.2.1,a.2.2.2.1,tk a.2.2.2.2.1,a.2.2.2.2.2.1,())
def fj(a:_):mV a=a:=by simp only[mV,bM]
def jY(a:dd.ty):dd.ty:=(a.1,tk a.2.1,tk a.2.2.1,a.2.2.2.1,a.2.2.2.2.1,a.2.2.2.2.2.1,a.2.2.2.2.2.2.1,())
def gW(a:_):jY a=a:=by simp only[jY,bM]
def jj:=K 841 [mS,.d (.one (.int .u8))] [kS] "1UtJHl2CZFDVgG0EQJmPjzU3Lm7obe8xztkXJqz0gnMWWPzVqHEJhMWhS9HMQ5r65IhjUgitCBXVtnmsxUAibZfXabBp5GNAdDm"
def mq(a:ah ay)(b:aw):aq (ah (ah ay)):=jj.c.f (a,b,())
def tq(a:ah ay)(b c d:aw)(e:ah (ah ay)):aq (ah (ah ay)):=jj.g 0x11406c15caa [vS a,.int .u8 b,vI c,vI d] [.sl eS e]
def ahy(a b:_):mq a b=tq a b 0 0 []:=bh
def Kq(a e c b d:_):tq a e c b d=ite (ao (b<(ae a:aw))) (ite (ao (0<=b)) (af (a[b.toNat]?) λf=>ite ((f.toNat:aw)==e) (ite (ao (0<=c)&&ao (c<=b)&&ao (b<=(ae a:aw))) (ite (ao (ae d+1<lim)) (tq a e (aj ak (b+1)) (aj ak (b+1)) ((tk d)++ [((a.take b.toNat).drop c.toNat)])) au) au)<|tq a e c (aj ak (b+1)) d) au) (ite (ao (0<=c)&&ao (c<=(ae a:aw))) (ite (ao (ae d+1<lim)) (ai (((tk d)++ [(a.drop c.toNat)]).take (ae ((tk d)++ [(a.drop c.toNat)])))) au) au):=bB
def Rl:Callee:=am4
def aiX:aq (bn.ty):=Rl.f (())
def aon:aiX=ai aec:=rfl
def JJ:=K 11 [.d (.one (.int .u8))] [mB] "9GdFsJV4krPv6cHX7oVF8tlO"
def HU(a:aw):aq aW:=JJ.c.f (a,())
def ahx(a:_):HU a=ite (ao (a>=97)) (ai (ao (a<=122))) (ai aA):=bh
def vV:=K 12 [.d (.one (.int .u8))] [mB] "17WI5r1ogkJ1dmJT4wvFZsaZ"
def Bg(a:aw):aq aW:=vV.c.f (a,())
def ahw(a:_):Bg a=ite (ao (a>=48)) (ai (ao (a<=57))) (ai aA):=bh
def jg:=K 13 [mS] [mB] "iP98SkfxgktY8r02Vkv7ygqcXJZRXRl0mzMrt3Dnjf9wWNBTz3EBDscecfa1drWfwgfhlaOva4IvBygTwm7QaRFzt" [JJ.p,vV.p]
def mo(a:ah ay):aq aW:=jg.c.f (a,())
def VO(a:ah ay):aq aW:=jg.g 0x81 [vS a]
def vW(a:ah ay)(b:aw):aq aW:=jg.g 0xaca8548 [vS a,vI b]
def akK(a:_):mo a=ite (a==[]) (ai aA) (ite (ao ((ae a:aw)>10)) (ai aA)<|af (a[0]?) λb=>af (HU (b.toNat:aw)) λc=>ite (!c) (ai aA)<|VO a):=bh
def acg(a:_):VO a=vW a 0:=bB
def Nr(b a:_):vW b a=ite (ao (a<(ae b:aw))) (ite (ao (0<=a)) (af (b[a.toNat]?) λc=>af (HU (c.toNat:aw)) λd=>ite (!d) (ite (ao (0<=a)) (af (b[a.toNat]?) λe=>af (Bg (e.toNat:aw)) λf=>ite (!f) (ai aA)<|vW b (aj ak (a+1))) au)<|vW b (aj ak (a+1))) au) (ai aB):=bB
def cN:=K 1 [mI,mI,mI] [mB] "Csc40ejnfuC07ysiojNAVKyBd"
def cV(a b d:aw):aq aW:=cN.c.f (a,b,d,())
def apS(a b c:_):cV a b c=ite (ao (a>=b)) (ai (ao (a<=c))) (ai aA):=bh
def NZ:=K 645 [mI] [mB] "9phD5YLO8DoVvDqyz" [cN.p]
def UP(a:aw):aq aW:=NZ.c.f (a,())
def ala(a:_):UP a=af (cV a 1500 2100) λb=>ai b:=bh
def Bw:=K 912 [.p aR] [mB] "1oYCYCD5E3ygdCYVz3uKZcopNyDsEUvZdlbkNqJKOlkGgRXbJWuNnDFvEunqAhRPGTe" [cN.p,jg.p,NZ.p]
def yO(a:aR.ty):aq aW:=Bw.c.f (a,())
def aom(a:_):yO a=af (mo a.1) λb=>ite b (af (mo a.2.1) λc=>ite c (af (UP a.2.2.1) λd=>ite d (af (UP a.2.2.2.1) λe=>ite e (ite (ao (a.2.2.1<=a.2.2.2.1)) (af (cV a.2.2.2.2.1 1 1000) λf=>ai f)<|ai aA)<|ai aA)<|ai aA)<|ai aA)<|ai aA:=bh
def qM:=K 640 [.d (.one (.sl aR))] [mB] "343YNnRIAUvqY1UTr6s0Ch4TFtDZQlYdMKdSKVqo6fRteIws7Wu3sHwMXkRp9PchqSA2tDlOP6i5dT7DJafjYo1B" [Bw.p]
def vf(a:ah aR.ty):aq aW:=qM.c.f (a,())
def Bv(a:ah aR.ty)(b:aw):aq aW:=qM.g 0xe0f81a [.sl aR a,vI b]
def ap3(a:_):vf a= Bv a 0:=bh
def ahO(b a:_):Bv b a=ite (ao (a<(ae b:aw))) (ite (ao (0<=a)) (af (b[a.toNat]?) λc=>af (yO c) λd=>ite (!d) (ai aA)<|ite (ao (a>0)) (ite (ao (0<=aj ak (a-1))) (af (b[(aj ak (a-1)).toNat]?) λe=>ite (ao (0<=a)) (af (b[a.toNat]?) λf=>ite (!dB e.1 f.1) (ai aA)<|Bv b (aj ak (a+1))) au) au)<|Bv b (aj ak (a+1))) au) (ai (ao ((ae b:aw)<=12))):=bB
def Cl:=K 639 [.p aR,.p aR] [mB] "XfG12EYYGndfO7YAhfMqmlgB6C8nrtTdt6Z8ukfGwT6nmIRNP"
def H9(a b:aR.ty):aq aW:=Cl.c.f (a,b,())
def ahN(a b:_):H9 a b=ite (!(a.2.1==b.2.1)) (ai aB) (ite (ao (a.2.2.2.1<b.2.2.1)) (ai aB)<|ai (ao (b.2.2.2.1<a.2.2.1))):=bh
def vY:=K 1154 [.d (.one (.sl aR))] [mI] "EdsoS2mGNEQD1vjqgFifl4Hft4wFwutolsij4mROugi2IwNPRU1L1EpJ2EIECsH8FcO5Zj3Fa9bJfHemCU1DhkWeF8N9fOkVzEPNHsqh5oIGIGWZxQ7VP1PrN1BIAO1p1pK" [Cl.p]
def Ia(a:ah aR.ty):aq aw:=vY.c.f (a,())
def oM(a:ah aR.ty)(b c d:aw):aq aw:=vY.g 0xd0a70a2 [.sl aR a,vI b,vI c,vI d]
def oN(a:ah aR.ty)(b c d e f:aw):aq aw:=vY.g 0x748ced5caa9bcd266 [.sl aR a,vI b,vI c,vI d,vI e,vI f]
def ahQ(a:_):Ia a=oM a (-1) 0 0:=bh
def Ku(a b d c:_):oM a b d c=ite (ao (c<(ae a:aw))) (oN a b d c 0 0) (ai b):=bB
def Kv(a f d b e c:_):oN a f d b e c=ite (ao (c<(ae a:aw))) (ite (c !=b) (ite (ao (0<=b)) (af (a[b.toNat]?) λg=>ite (ao (0<=c)) (af (a[c.toNat]?) λh=>af (H9 g h) λi=>ite i (ite (ao (0<=c)) (af (a[c.toNat]?) λj=>oN a f d b (aj ak (e+j.2.2.2.2.1)) (aj ak (c+1))) au)<|oN a f d b e (aj ak (c+1))) au) au)<|oN a f d b e (aj ak (c+1))) (ite (ao (e>d)) (oM a b e (aj ak (b+1)))<|oM a f d (aj ak (b+1))):=bB
def uV:=K 1102 [.d (.one (.sl aR))] [.tok aR,mI] "1sOLMWYsGdI5JDToyNSNzKQkSemVvTFb4o5EWWumjGxMV7NgYI4L94Sr4jJKAXiTS9i0UWlethsnnQLmwVTYTDGtfaUKJOn5Jig" [qM.p,vY.p]
def Hg(a:ah aR.ty):aq (ah aR.ty×aw):=uV.c.f (a,())
def sf(a:aw)(b:ah aR.ty):aq (ah aR.ty×aw):=uV.g 0x9b710b5d2f [vI a] [.sl aR b]
def Z6(a:_):Hg a=af (vf a) λb=>ite (!b) (ai ([],1))<|ite (ao (0+ae a<lim)) (af (Ia (([]++a).take (ae ([]++a)))) λc=>sf c ([]++a)) au:=bh
def uU(a b:_):sf a b=ite (ao (a>=0)) (ite (ao (0<=a)&&ao (a<=(ae b:aw))) (ite (ao (0<=aj ak (a+1))&&ao (aj ak (a+1)<=(ae b:aw))) (ite (ao (a.toNat+ae ((nu ((aj ak (a+1)).toNat) b).take (ae b-(aj ak (a+1)).toNat))<lim)) (af (Ia (((b.take a.toNat)++((nu ((aj ak (a+1)).toNat) b).take (ae b-(aj ak (a+1)).toNat))).take (ae ((b.take a.toNat)++((nu ((aj ak (a+1)).toNat) b).take (ae b-(aj ak (a+1)).toNat)))))) λc=>sf c ((b.take a.toNat)++((nu ((aj ak (a+1)).toNat) b).take (ae b-(aj ak (a+1)).toNat)))) au) au) au) (ai ((tk b),0)):=bB
def JE:=K 1155 [mI] [mS] "KLi9zHrvRVy58pGBDkkaDWjIJbNXJqdUT0hxekLt20ZHSROBQdW6uCeOeTxAgTCXF8JWoHxSJZl68NLQqBqJk9dpsybJnQT7VkeZVb83j1G1TO45b9mfbqcM" [cN.p]
def Q5(a:aw):aq (ah ay):=JE.c.f (a,())
def aht(a:_):Q5 a=af (cV a 0 11) λb=>ite (!b) (ai [])<|ite (ao (0<=a)&&ao (a<12)) (af ([[111,107],[105,110,118,97,108,105,100],[114,97,110,103,101],[110,111,116,45,102,111,117,110,100],[101,120,105,115,116,115],[102,117,108,108],[115,116,97,116,101],[111,114,100,101,114],[115,121,110,116,97,120],[102,111,114,109,97,116],[99,104,101,99,107,115,117,109],[116,114,117,110,99,97,116,101,100]][a.toNat]?) λc=>ai c) au:=bh
def rG:=K 1101 [mI] [kS] "10x4v4ottDN7Lp6Tlp54ebgZ4Vs9TM1uhVu9Rgt" [JE.p]
def lx(a:aw):aq (ah (ah ay)):=rG.c.f (a,())
def aos(a:_):lx a=ite (a==0) (ai [[111,107]]) (af (Q5 a) λb=>ite (ao ([101,114,114,111,114,32].length+ae b<=cQ)) (ai [[101,114,114,111,114,32]++b]) au):=bh
def jR:=K 726 [mI] [mS] "wMewBukdYFwD7Czyt0L4Q3yzSyp1uBNRz6mKL1PFq4qtLgSZYppqV6tiq65ru5wpzRHWTIpODelaxm1UMcbCHklpbJgGACVf94ee1ib0Q5IbTUXaBfQkcUCWFupK8A3IrU8B0mAjYoD5twcwoDxAMquAieY2ME8nzPlpweJJhmkL6FldKlm9Qp6"
def lq(a:aw):aq (ah ay):=jR.c.f (a,())
def tm(a b:aw)(c:ah aw):aq (ah ay):=jR.g 0xe898a021b0 [vI a,vI b] [.sl e8 c]
def Nl(a b c:aw)(d:ah aw):aq (ah ay):=jR.g 0x668ae913c92d380 [vI a,vI b,vI c] [.sl e8 d]
def yJ(a:ah aw):aq (ah ay):=jR.g 0x57bb05 [] [.sl e8 a]
def ER(a:aw)(b c:ah aw):aq (ah ay):=jR.g 0x649222392406df [vI a] [.sl e8 b,.sl e8 c]
def an7(a:_):lq a=ite (a==0) (ai [48]) (tm a a []):=bh
def Qb(c a b:_):tm c a b=ite (a !=0) (ite (ao (a.tmod 10<0)) (Nl c a (aj ak (0-(a.tmod 10))) b)<|Nl c a (a.tmod 10) b) (ite (ao (c<0)) (ite (ao (ae b+1<lim)) (yJ ((tk b)++ [45])) au)<|yJ b):=bB
def EP(b c d a:_):Nl b c d a=ite (ao (ae a+1<lim)) (tm b (aj ak (c.tdiv 10)) ((tk a)++ [aj Gq (aj ak (48+d))])) au:=bB
def ae5(a:_):yJ a= ER (aj ak ((ae a:aw)-1)) a []:=bB
def Qc(a b c:_):ER a b c=ite (ao (a>=0)) (ite (ao (0<=a)&&ao (a<(ae b:aw))) (af (b[a.toNat]?) λd=>ite (ao (ae c+1<lim)) (ER (aj ak (a-1)) b ((tk c)++ [d])) au) au) (ai ((tk c).map vu8)):=bB
def jk:=K 627 [.d (.one (.sl (.one (.sl (.one .str)))))] [kS] "EfhYHrLu8m5CQNUhMrzRZoD1xa1rGfT4vBgL8pmczqoMKgki6g0P5Ri8T1JQWWdKhJL8qqCkbYkmMKHz5oqhJzhHg0rwFj5qeAD5RKWrKR6YR2Wl4sg1pXJAQiSujlHCCfUPwkkrsURt1v9css3SpqlFnpMffXLq6diwYZKXPDc2W1jbOgrPuBIFNZngqV5eKcliveCzFZBUNawMwnNG4peXWYFSr3XUVcYYf6ndHGDLjbbnI0RvM5pQEuLecYTkgluxlJJ7dX2vOisr4tiziV3lar6Gs6uwwxfv7N8POYDWT4uLGD8AlB2K0B3nlFAeOz4jXd0xpJhycnTsMiUeQ"
def Ic(a:ah (ah (ah ay))):aq (ah (ah ay)):=jk.c.f (a,())
def tF(a:ah (ah (ah ay)))(b:ax)(c:aw)(d:ah aw):aq (ah (ah ay)):=jk.g 0x2a848e508 [.sl eSS a,.view 3 0 b,vI c] [.sl eI d]
def tH(a:ah (ah (ah ay)))(b:ax)(c d:aw)(e:ah aw):aq (ah (ah ay)):=jk.g 0xad986c3931ecf5aa [.sl eSS a,.view 3 0 b,vI c,vI d] [.sl eI e]
def lX(a:ah (ah (ah ay)))(b:ax)(c:aw)(d:ah aw)(e:ah (ah ay)):aq (ah (ah ay)):=jk.g 0x215035c3b822a3 [.sl eSS a,.view 3 0 b,vI c] [.sl eI d,.sl eS e]
def oO(a:ah (ah (ah ay)))(b:ax)(c:aw)(d:ah ay)(e:aw)(f:ah aw)(h:ah (ah ay)):aq (ah (ah ay)):=jk.g 0x756ba6597aeefd5f6f76208323 [.sl eSS a,.view 3 0 b,vI c,vS d,vI e] [.sl eI f,.sl eS h]
def zV(a:ah (ah (ah ay)))(b:ax)(c:aw)(d:ah ay)(e:aw)(f:ah aw)(h:ah (ah ay)):aq (ah (ah ay)):=jk.g 0x83f3bb12546abdd35ad0319d1ff2fe2 [.sl eSS a,.view 3 0 b,vI c,vS d,vI e] [.sl eI f,.sl eS h]
def tJ(a:ah (ah (ah ay)))(b:ax)(c:aw)(d:ah ay)(e:ah aw)(f:ah (ah ay)):aq (ah (ah ay)):=jk.g 0xd992c34b72d8f39a43c040561fb0 [.sl eSS a,.view 3 0 b,vI c,vS d] [.sl eI e,.sl eS f]
def zW(a:ah (ah (ah ay)))(b:ax)(c:aw)(d:ah ay)(e f:aw)(h:ah aw)(i:ah (ah ay)):aq (ah (ah ay)):=jk.g 0x19e7316521a295b2bbbbf6bb984caf31a37ad [.sl eSS a,.view 3 0 b,vI c,vS d,vI e,vI f] [.sl eI h,.sl eS i]
def ahS(a:_):Ic a=tF a 12 0 [0,0,0,0,0,0,0,0,0,0,0,0]:=bh
def Kw(b:ax)(a c d:_):tF a b c d=ite (ao (c<(ae a:aw))) (tH a b c 0 d) (lX a b 0 d []):=bB
def Kx(d:ax)(c b a e:_):tH c d b a e=ite (ao (0<=b)) (af (c[b.toNat]?) λf=>ite (ao (a<(ae f:aw))) (ite (ao (0<=b)) (af (c[b.toNat]?) λg=>ite (ao (0<=a)) (af (g[a.toNat]?) λh=>ite (ao (0<=a)&&ao (a<(d:aw))) (af (e[a.toNat]?) λi=>ite (ao ((h.length:aw)>i)) (ite (ao (0<=b)) (af (c[b.toNat]?) λj=>ite (ao (0<=a)) (af (j[a.toNat]?) λk=>ite (ao (0<=a)&&ao (a<(d:aw))) (af (e[a.toNat]?) λl=>tH c d b (aj ak (a+1)) (e.set a.toNat (ae k:aw))) au) au) au)<|tH c d b (aj ak (a+1)) e) au) au) au)<|tF c d (aj ak (b+1)) e) au:=bB
def Ky(d:ax)(a b e c:_):lX a d b e c=ite (ao (b<(ae a:aw))) (oO a d b [] 0 e c) (ai (tk c)):=bB
def Kz(e:ax)(b a c d f g:_):oO b e a c d f g=ite (ao (0<=a)) (af (b[a.toNat]?) λh=>ite (ao (d<(h.length:aw))) (ite (ao (d>0)) (ite (ao (ae c+ [32,32].length<=cQ)) (zV b e a (c++ [32,32]) d f g) au)<|zV b e a c d f g)<|tJ b e a c f g) au:=bB
def aae(e:ax)(c a d b f g:_):zV c e a d b f g=ite (ao (0<=a)) (af (c[a.toNat]?) λi=>ite (ao (0<=b)) (af (i[b.toNat]?) λh=>ite (ao (ae d+h.length<=cQ)) (ite (ao (0<=a)) (af (c[a.toNat]?) λj=>ite (ao (0<=b)) (af (j[b.toNat]?) λk=>zW c e a (d++h) b (ae k:aw) f g) au) au) au) au) au:=bB
def KA(c:ax)(d e a f b:_):tJ d c e a f b=ite (ao ((ae a:aw)>0)) (ite (ao (0<=aj ak ((ae a:aw)-1))) (af (a[(aj ak ((ae a:aw)-1)).toNat]?) λg=>ite ((g.toNat:aw)==32) (ite (ao (0<=aj ak ((ae a:aw)-1))&&ao (aj ak ((ae a:aw)-1)<=(ae a:aw))) (tJ d c e (a.take ((aj ak ((ae a:aw)-1)).toNat)) f b) au)<|ite (ao (ae b+1<lim)) (lX d c (aj ak (e+1)) f ((tk b)++ [a])) au) au) (ite (ao (ae b+1<lim)) (lX d c (aj ak (e+1)) f ((tk b)++ [a])) au):=bB
def KB(b:ax)(e f c a g d h:_):zW e b f c a g d h=ite (ao (0<=a)&&ao (a<(b:aw))) (af (d[a.toNat]?) λi=>ite (ao (g<i)) (ite (ao (ae c+ [32].length<=cQ)) (zW e b f (c++ [32]) a (aj ak (g+1)) d h) au)<|oO e b f c (aj ak (a+1)) d h) au:=bB
def Fl:=K 988 [mS] [mB] "37tqX4qHHmolWpfA5VtUkFLoicfg4W3JzwvEhWuTAX7EqbEWt86aGV2e6kbgHOm5twx"
def Lq(a:ah ay):aq aW:=Fl.c.f (a,())
def vZ(a:ah ay)(b:aw):aq aW:=Fl.g 0xe0f81a [vS a,vI b]
def ald(a:_):Lq a=vZ a 0:=bh
def acp(b a:_):vZ b a=ite (ao (a<(ae b:aw))) (ite (ao (0<=a)) (af (b[a.toNat]?) λc=>ite (ao ((c.toNat:aw)<32)) (ai aA)<|ite (ao (0<=a)) (af (b[a.toNat]?) λd=>ite (ao ((d.toNat:aw)>126)) (ai aA)<|vZ b (aj ak (a+1))) au) au) (ai (ao ((ae b:aw)<=100))):=bB
def Lr:=K 822 [mSS] [mB] "3VulYF3L0GWq9CfAA940k3bB8iXk5Nx75sDmc09S6XAVliaTJ" [Fl.p]
def acq(a:ah (ah ay)):aq aW:=Lr.c.f (a,())
def Ib(a:ah (ah ay))(b:aw):aq aW:=Lr.g 0xe0f81a [.sl eS a,vI b]
def ap4(a:_):acq a= Ib a 0:=bh
def ahR(a b:_):Ib a b=ite (ao (b<(ae a:aw))) (ite (ao (0<=b)) (af (a[b.toNat]?) λc=>af (Lq c) λd=>ite (!d) (ai aA)<|Ib a (aj ak (b+1))) au) (ai (ao ((ae a:aw)<=200))):=bB
def N8:=K 516 [mSS] [mSS,mI] "6OAjYPSy8DO9Sagl0oyobVfmpOEC" [Lr.p]
def Lp(a:ah (ah ay)):aq (ah (ah ay)×aw):=N8.c.f (a,())
def alb(a:_):Lp a=af (acq a) λb=>ite (!b) (ai ([],5))<|ai (a,0):=bh
def uX:=K 299 [.d (.one (.sl aR))] [mSS,mI] "2IYH0qCCnNHy0XSp9j9v5xzT2yqXiGyxVZIwnP9dfYbMeMlwOZkcVkt7lfs5BEZoQuhTptDZYN8l9mbIYkxacaQCJy0O54cOiGIxNqtfj2xghrbLQcSaMYOrgfVeOKsdmrxIqozFVykMH0RrCue5BFtC4sJSrrcxl4gWMv" [N8.p,jk.p,qM.p,jR.p]
def Hh(a:ah aR.ty):aq (ah (ah ay)×aw):=uX.c.f (a,())
def kV(a:ah aR.ty)(b:aw)(c:ah (ah (ah ay))):aq (ah (ah ay)×aw):=uX.g 0xc4544415ed [.sl aR a,vI b] [.sl eSS c]
def aaa(a:_):Hh a=af (vf a) λb=>ite (!b) (ai ([],1))<|kV a 0 [[[112,97,112,101,114],[109,97,107,101,114],[121,101,97,114,115],[116,114,117,115,116]]]:=bh
def EK(c a d:_):kV c a d=ite (ao (a<(ae c:aw))) (ite (ao (0<=a)) (af (c[a.toNat]?) λb=>af (lq b.2.2.1) λe=>ite (ao (ae e+ [45].length<=cQ)) (af (lq b.2.2.2.1) λf=>ite (ao (ae (e++ [45])+ae f<=cQ)) (af (lq b.2.2.2.2.1) λh=>ite (ao (ae d+1<lim)) (kV c (aj ak (a+1)) ((tk d)++ [[b.1,b.2.1,(e++ [45])++f,h]])) au) au) au) au) (af (Ic (tk d)) λi=>af (Lp i) λg=>ai (g.1,g.2)):=bB
def rF:=K 1103 [mSS,mI] [kS] "AQHjbY54qQkGHgZbI0ldju51GmkpcDBsBmVvhhyc6W5JnKQ6sJ8aGGLJcn4zWVxEp94J9uNOSKHSrkRSsJBhKxsRT38CxhHdTJ2qzdpdhBgN6thX6wXDsLI" [rG.p]
def lu(a:ah (ah ay))(b:aw):aq (ah (ah ay)):=rF.c.f (a,b,())
def yP(a:ah (ah ay))(b:aw)(c:ah (ah ay)):aq (ah (ah ay)):=rF.g 0x1e8dfcebdaf [.sl eS a,vI b] [.sl eS c]
def Yw(a b:_):lu a b=ite (b !=0) (af (lx b) λc=>ai (tk c)) (ite ((ae a:aw)==0) (ai [[110,111,110,101]])<|yP a 0 []):=bh
def Qg(b a c:_):yP b a c=ite (ao (a<(ae b:aw))) (ite (ao (0<=a)) (af (b[a.toNat]?) λd=>ite (d==[]) (ite (ao (ae c+1<lim)) (yP b (aj ak (a+1)) ((tk c)++ [[110,111,110,101]])) au)<|ite (ao (0<=a)) (af (b[a.toNat]?) λe=>ite (ao (ae c+1<lim)) (yP b (aj ak (a+1)) ((tk c)++ [e])) au) au) au) (ai (tk c)):=bB
def Cb:=K 490 [mI] [mB] "6eVRaI3XrQJ7CG" [cN.p]
def HY(a:aw):aq aW:=Cb.c.f (a,())
def Hp(a:_):HY a=af (cV a 0 1000) λb=>ai b:=bh
def JL:=K 850 [mI] [mB] "EM4IBWGpZlADrc9" [cN.p]
def aaU(a:aw):aq aW:=JL.c.f (a,())
def ahC(a:_):aaU a=af (cV a 10 1000) λb=>ai b:=bh
def HW:=K 851 [mI] [mB] "1f1CDLdKJtnXfMQX" [cN.p]
def Yh(a:aw):aq aW:=HW.c.f (a,())
def Yi(a:_):Yh a=af (cV a 0 36524) λb=>ai b:=bh
def HX:=K 492 [.p aZ] [mB] "2SRqmbdxQ4zqtFvh6s8rmy5sCCPdXGJMMxU0wVP" [jg.p,Cb.p,JL.p,HW.p]
def I0(a:aZ.ty):aq aW:=HX.c.f (a,())
def an9(a:_):I0 a=af (mo a.1) λb=>ite b (af (HY a.2.1) λc=>ite c (af (aaU a.2.2.1) λd=>ite d (af (Yh a.2.2.2.1) λe=>ai e)<|ai aA)<|ai aA)<|ai aA:=bh
def EY:=K 942 [.d (.one (.sl aZ))] [mB] "343YNnRIAUvqY1UTr6s0Ch4TFtDZQlYdMKdSKRH1t6HjhfkkT6nTN5PJWqNqym3Avfs2NBGPRGo0NLXlSLr70UYN" [HX.p]
def UA(a:ah aZ.ty):aq aW:=EY.c.f (a,())
def Bi(a:ah aZ.ty)(b:aw):aq aW:=EY.g 0xe0f81a [.sl aZ a,vI b]
def apT(a:_):UA a= Bi a 0:=bh
def ahB(b a:_):Bi b a=ite (ao (a<(ae b:aw))) (ite (ao (0<=a)) (af (b[a.toNat]?) λc=>af (I0 c) λd=>ite (!d) (ai aA)<|ite (ao (a>0)) (ite (ao (0<=aj ak (a-1))) (af (b[(aj ak (a-1)).toNat]?) λe=>ite (ao (0<=a)) (af (b[a.toNat]?) λf=>ite (!dB e.1 f.1) (ai aA)<|Bi b (aj ak (a+1))) au) au)<|Bi b (aj ak (a+1))) au) (ai (ao ((ae b:aw)<=12))):=bB
def Nz:=K 962 [mI] [mB] "GM05Uab5TtQ57q1" [cN.p]
def UC(a:aw):aq aW:=Nz.c.f (a,())
def akQ(a:_):UC a=af (cV a 1 10000) λb=>ai b:=bh
def HZ:=K 764 [.p be] [mB] "4LLkTDCIsIp7C0ia4yVCqJW8v9y1fq" [jg.p,Nz.p]
def I1(a:be.ty):aq aW:=HZ.c.f (a,())
def aob(a:_):I1 a=af (mo a.1) λb=>ite b (af (UC a.2.1) λc=>ite c (af (UC a.2.2.1) λd=>ai d)<|ai aA)<|ai aA:=bh
def E0:=K 943 [.d (.one (.sl be))] [mB] "6MW8dLMR9YYP3nc3YNkiWsRou3ojhLvbRBy9zacdDuRZaV65UYAjXxfZ5On40ayYC1TWRjIqvl3kjDMi39rGSDaW" [HZ.p]
def UB(a:ah be.ty):aq aW:=E0.c.f (a,())
def Bj(a:ah be.ty)(b:aw):aq aW:=E0.g 0xe0f81a [.sl be a,vI b]
def apU(a:_):UB a= Bj a 0:=bh
def ahD(b a:_):Bj b a=ite (ao (a<(ae b:aw))) (ite (ao (0<=a)) (af (b[a.toNat]?) λc=>af (I1 c) λd=>ite (!d) (ai aA)<|ite (ao (a>0)) (ite (ao (0<=aj ak (a-1))) (af (b[(aj ak (a-1)).toNat]?) λe=>ite (ao (0<=a)) (af (b[a.toNat]?) λf=>ite (!dB e.1 f.1) (ai aA)<|Bj b (aj ak (a+1))) au) au)<|Bj b (aj ak (a+1))) au) (ai (ao ((ae b:aw)<=8))):=bB
def Ch:=K 968 [mI] [mB] "DZz0CvUWL84oyv" [cN.p]
def H5(a:aw):aq aW:=Ch.c.f (a,())
def Tg(a:_):H5 a=af (cV a 1 200) λb=>ai b:=bh
def mu:=K 777 [.d (.one (.sl (.one (.sl (.one (.int .i64))))))] [mB] "3RWP84XjnJfVdH3YGPpp41mjGaMDfWU4QpCdWah9aYOpN1Hv3KtD7wSAEsICzBenh7yY7t4StJNTr6WbBqNyT5yalmLHeiK9u18O27ZBI1hPl08uUGyHsWUhHYNOCzfd7PeclcNlh4d" [Ch.p]
def CW(a:ah (ah aw)):aq aW:=mu.c.f (a,())
def ry(a:ah (ah aw))(b:aw):aq aW:=mu.g 0x662683e [.sl eII a,vI b]
def aaX(a:ah (ah aw))(b:aw):aq aW:=mu.g 0x18bcf4c4d644 [.sl eII a,vI b]
def Bm(a:ah (ah aw))(b c:aw):aq aW:=mu.g 0x253c86ac860ea6e [.sl eII a,vI b,vI c]
def apW(a:_):CW a=ry a 0:=bh
def Hq(a b:_):ry a b=ite (ao (b<(ae a:aw))) (ite (ao (0<=b)) (af (a[b.toNat]?) λc=>ite (ao ((ae c:aw)<1)) (ai aA)<|ite (ao (0<=b)) (af (a[b.toNat]?) λd=>ite (ao ((ae d:aw)>10)) (ai aA)<|ite (ao (0<=b)) (af (a[b.toNat]?) λe=>af (a[0]?) λf=>ite ((ae e:aw) !=(ae f:aw)) (ai aA)<|aaX a b) au) au) au) (ite (ao ((ae a:aw)>=1)) (ai (ao ((ae a:aw)<=10)))<|ai aA):=bB
def ahF(a b:_):aaX a b= Bm a b 0:=bB
def Te(b a c:_):Bm b a c=ite (ao (0<=a)) (af (b[a.toNat]?) λd=>ite (ao (c<(ae d:aw))) (ite (ao (0<=a)) (af (b[a.toNat]?) λe=>ite (ao (0<=c)) (af (e[c.toNat]?) λf=>af (H5 f) λg=>ite (!g) (ai aA)<|Bm b a (aj ak (c+1))) au) au)<|ry b (aj ak (a+1))) au:=bB
def NJ:=K 844 [mI] [mB] "2giGtzlCp2HE36dcF" [cN.p]
def UF(a:aw):aq aW:=NJ.c.f (a,())
def akW(a:_):UF a=af (cV a 100 10000) λb=>ai b:=bh
def E8:=K 451 [.p iZ] [mB] "VSO8pg1oQL3qpGLwVq8EKYhtA94OThlsEq1fdyKoOsaL8" [cN.p,NJ.p]
def NI(a:iZ.ty):aq aW:=E8.c.f (a,())
def apX(a:_):NI a=af (UF a.1) λb=>ite b (af (UF a.2.1) λc=>ite c (af (cV a.2.2.1 0 500) λd=>ite d (af (cV a.2.2.2.1 0 300) λe=>ai e)<|ai aA)<|ai aA)<|ai aA:=bh
def Fa:=K 495 [mI] [mB] "T8uAxjXgEXMDiXV" [cN.p]
def Lg(a:aw):aq aW:=Fa.c.f (a,())
def VV(a:_):Lg a=af (cV a 20 200) λb=>ai b:=bh
def H6:=K 800 [.p aZ] [mB] "69ic1dIEdYsR9YGMUfkoIRryRDugW8APIkTfR9iQRY5iM4Z5" [cN.p,jg.p,Fa.p]
def I4(a:aZ.ty):aq aW:=H6.c.f (a,())
def aog(a:_):I4 a=af (mo a.1) λb=>ite b (af (Lg a.2.1) λc=>ite c (af (cV a.2.2.1 100 1000) λd=>ite d (af (cV a.2.2.2.1 10 100) λe=>ai e)<|ai aA)<|ai aA)<|ai aA:=bh
def Fb:=K 497 [.d (.one (.sl aZ))] [mB] "343Td0bQYfpNBdutdWoUm8t1byyJznA8TT0FrmGOrhG4SlG213LGXMoq0UdgMyQBa5tqzuUZE71yp8EXaZVCWNvF" [H6.p]
def UH(a:ah aZ.ty):aq aW:=Fb.c.f (a,())
def Bo(a:ah aZ.ty)(b:aw):aq aW:=Fb.g 0xe0f81a [.sl aZ a,vI b]
def apZ(a:_):UH a= Bo a 0:=bh
def ahH(b a:_):Bo b a=ite (ao (a<(ae b:aw))) (ite (ao (0<=a)) (af (b[a.toNat]?) λc=>af (I4 c) λd=>ite (!d) (ai aA)<|ite (ao (a>0)) (ite (ao (0<=aj ak (a-1))) (af (b[(aj ak (a-1)).toNat]?) λe=>ite (ao (0<=a)) (af (b[a.toNat]?) λf=>ite (!dB e.1 f.1) (ai aA)<|Bo b (aj ak (a+1))) au) au)<|Bo b (aj ak (a+1))) au) (ai (ao ((ae b:aw)<=8))):=bB
def Cj:=K 14 [mI] [mB] "GM05Uab5TtQ57q1" [cN.p]
def Bq(a:aw):aq aW:=Cj.c.f (a,())
def Th(a:_):Bq a=af (cV a 1 10000) λb=>ai b:=bh
def NM:=K 15 [mI] [mB] "6NG9oPbNzUVi4Jb" [cN.p]
def afk(a:aw):aq aW:=NM.c.f (a,())
def akZ(a:_):afk a=af (cV a 20 95) λb=>ai b:=bh
def Bs:=K 20 [.p cx] [mB] "696c0EBsfh46IVk4oSqod4OJGG0WIdvaCjMNi7jUvxexQtIyWay7" [cN.p,jg.p,Cj.p,NM.p]
def Dr(a:cx.ty):aq aW:=Bs.c.f (a,())
def aoi(a:_):Dr a=af (mo a.1) λb=>ite b (af (Bq a.2.1) λc=>ite c (af (Bq a.2.2.1) λd=>ite d (af (afk a.2.2.2.1) λe=>ite e (af (cV a.2.2.2.2.1 0 1000) λf=>ai f)<|ai aA)<|ai aA)<|ai aA)<|ai aA:=bh
def Fe:=K 53 [.d (.one (.sl cx))] [mB] "343Td0bQYfpNBdutdWoUm8t1byyJznA8TT0FrmGOrhG4SlG2IICmHwi1lFLWTa2tNESZwtnDmmGsK8pspuRnyUSx" [Bs.p]
def UJ(a:ah cx.ty):aq aW:=Fe.c.f (a,())
def Br(a:ah cx.ty)(b:aw):aq aW:=Fe.g 0xe0f81a [.sl cx a,vI b]
def ap0(a:_):UJ a= Br a 0:=bh
def ahJ(b a:_):Br b a=ite (ao (a<(ae b:aw))) (ite (ao (0<=a)) (af (b[a.toNat]?) λc=>af (Dr c) λd=>ite (!d) (ai aA)<|ite (ao (a>0)) (ite (ao (0<=aj ak (a-1))) (af (b[(aj ak (a-1)).toNat]?) λe=>ite (ao (0<=a)) (af (b[a.toNat]?) λf=>ite (!dB e.1 f.1) (ai aA)<|Br b (aj ak (a+1))) au) au)<|Br b (aj ak (a+1))) au) (ai (ao ((ae b:aw)<=8))):=bB
def Fh:=K 1012 [mI] [mB] "8sh3utL24ABbLhR2vG" [cN.p]
def UM(a:aw):aq aW:=Fh.c.f (a,())
def VW(a:_):UM a=af (cV a 1000 100000) λb=>ai b:=bh
def H7:=K 848 [.p be] [mB] "2hxIyTLSnShISWcw4czYqOVD2r99a9o2l1" [cN.p,jg.p,Fh.p]
def I7(a:be.ty):aq aW:=H7.c.f (a,())
def aoj(a:_):I7 a=af (mo a.1) λb=>ite b (af (UM a.2.1) λc=>ite c (af (cV a.2.2.1 1 500) λd=>ai d)<|ai aA)<|ai aA:=bh
def Fg:=K 474 [.d (.one (.sl be))] [mB] "6MW8dLMRArxW4y5W51cbmdfjhFWzaRY6BecNxLayk2vKe5UA6hQ8CG29N0sJWscLLRcCGMxPJVHO9Z849VHtm0bm" [H7.p]
def UL(a:ah be.ty):aq aW:=Fg.c.f (a,())
def Bt(a:ah be.ty)(b:aw):aq aW:=Fg.g 0xe0f81a [.sl be a,vI b]
def ap1(a:_):UL a= Bt a 0:=bh
def ahK(b a:_):Bt b a=ite (ao (a<(ae b:aw))) (ite (ao (0<=a)) (af (b[a.toNat]?) λc=>af (I7 c) λd=>ite (!d) (ai aA)<|ite (ao (a>0)) (ite (ao (0<=aj ak (a-1))) (af (b[(aj ak (a-1)).toNat]?) λe=>ite (ao (0<=a)) (af (b[a.toNat]?) λf=>ite (!dB e.1 f.1) (ai aA)<|Bt b (aj ak (a+1))) au) au)<|Bt b (aj ak (a+1))) au) (ai (ao ((ae b:aw)<=10))):=bB
def NT:=K 1054 [mI] [mB] "123y0NYaxSozAa" [cN.p]
def afp(a:aw):aq aW:=NT.c.f (a,())
def ak6(a:_):afp a=af (cV a 1 40) λb=>ai b:=bh
def Rh:=K 1055 [mI] [mB] "GoTXy2LqBkR1C" [cN.p]
def Yu(a:aw):aq aW:=Rh.c.f (a,())
def aok(a:_):Yu a=af (cV a 0 39) λb=>ai b:=bh
def H8:=K 976 [.p aZ] [mB] "5dyiqdNq4g4kTnS72StgCfn1eXECzdKfea3QmCsqDFGybJWiU5yoTm7XfOEk296i" [jg.p,NT.p,Rh.p]
def I8(a:aZ.ty):aq aW:=H8.c.f (a,())
def aol(a:_):I8 a=af (mo a.1) λb=>ite b (af (afp a.2.1) λc=>ite c (af (Yu a.2.2.1) λd=>ite d (af (Yu a.2.2.2.1) λe=>ite e (ai (ao (aj ak ((aj ak (a.2.2.1+a.2.1))-1)<=a.2.2.2.1)))<|ai aA)<|ai aA)<|ai aA)<|ai aA:=bh
def Fj:=K 790 [.d (.one (.sl aZ))] [mB] "343Td0bQYfpNBdutdWoUm8t1byyJznA8TT0FrmGOrhG4SlG213LGXMoq0UdgMyQBa5tqzuUZE71yp8EXaZVCWNvF" [H8.p]
def UN(a:ah aZ.ty):aq aW:=Fj.c.f (a,())
def Bu(a:ah aZ.ty)(b:aw):aq aW:=Fj.g 0xe0f81a [.sl aZ a,vI b]
def ap2(a:_):UN a= Bu a 0:=bh
def ahL(b a:_):Bu b a=ite (ao (a<(ae b:aw))) (ite (ao (0<=a)) (af (b[a.toNat]?) λc=>af (I8 c) λd=>ite (!d) (ai aA)<|ite (ao (a>0)) (ite (ao (0<=aj ak (a-1))) (af (b[(aj ak (a-1)).toNat]?) λe=>ite (ao (0<=a)) (af (b[a.toNat]?) λf=>ite (!dB e.1 f.1) (ai aA)<|Bu b (aj ak (a+1))) au) au)<|Bu b (aj ak (a+1))) au) (ai (ao ((ae b:aw)<=8))):=bB
def US:=K 712 [.p cM] [mB] "1EmV7RP138jGgNsbUVq9KMYrK0n73cW8Pm1ZRnW7pnPBFPY9f1ciUDiPyOrvERxCo2gInUcGcse4jIL5N3EXvVcQ" [Fe.p,E8.p,Fg.p,Fb.p,qM.p,mu.p,Fj.p,EY.p,E0.p]
def acv(a:cM.ty):aq aW:=US.c.f (a,())
def ap6(a:_):acv a=af (UA a.1) λb=>ite b (af (UB a.2.1) λc=>ite c (af (CW a.2.2.1) λd=>ite d (af (NI (a.2.2.2.1,a.2.2.2.2.1,a.2.2.2.2.2.1,a.2.2.2.2.2.2.1,())) λe=>ite e (af (UH a.2.2.2.2.2.2.2.1) λf=>ite f (af (UJ a.2.2.2.2.2.2.2.2.1) λg=>ite g (af (UL a.2.2.2.2.2.2.2.2.2.1) λh=>ite h (af (UN a.2.2.2.2.2.2.2.2.2.2.1) λi=>ite i (af (vf a.2.2.2.2.2.2.2.2.2.2.2.1) λj=>ai j)<|ai aA)<|ai aA)<|ai aA)<|ai aA)<|ai aA)<|ai aA)<|ai aA)<|ai aA:=bh
def xf:=K 397 [.d cM] [kS,mI] "28xKYEm39hRTJUkQyhVw68nkqSXOW3Wj7rzPEnvM3sdeXj8e7DnadR5ttjeu1f2wburs9N67IjhcSPvJOzGcXzSJopjq0eIsT2hQvuUtbIAFI0k3BrMH2tJoZdwN5ndVk4zk5zeLQMSpaR5Zxy6KAEFgzSNRMiHX9HZRmRMYhzrrap2gBJKB0oSJYe5Op9LVwUMgOsjJFVlUCvO1RwBCWvQPvOucdLNYmgsTyzvOmnBJBUtGnueskSL9OkSUTfMz" [US.p,jR.p]
def BX(a:cM.ty):aq (ah (ah ay)×aw):=xf.c.f (a,())
def uT(a:aw)(b:ah (ah ay))(c:ah aw)(d:ah (ah ay)):aq (ah (ah ay)×aw):=xf.g 0xbf350c2b9c03e2b [vI a] [.sl eS b,.sl eI c,.sl eS d]
def ab7(a:_):BX a=af (acv a) λb=>ite (!b) (ai ([],1))<|uT 0 [[115,116,97,99,107,115],[114,105,98,115],[114,111,119,115],[115,116,111,112],[112,101,103,115],[112,111,116,115],[109,111,100,101,115],[119,111,114,107,115],[112,97,112,101,114,115]] [(ae a.1:aw),(ae a.2.1:aw),(ae a.2.2.1:aw),a.2.2.2.1,(ae a.2.2.2.2.2.2.2.1:aw),(ae a.2.2.2.2.2.2.2.2.1:aw),(ae a.2.2.2.2.2.2.2.2.2.1:aw),(ae a.2.2.2.2.2.2.2.2.2.2.1:aw),(ae a.2.2.2.2.2.2.2.2.2.2.2.1:aw)] []:=bh
def Gf(a b c d:_):uT a b c d=ite (ao (a<(ae b:aw))) (ite (ao (0<=a)&&ao (a<(ae b:aw))) (af (b[a.toNat]?) λe=>ite (ao (ae e+ [32].length<=cQ)) (ite (ao (0<=a)&&ao (a<(ae c:aw))) (af (c[a.toNat]?) λg=>af (lq g) λf=>ite (ao (ae (e++ [32])+ae f<=cQ)) (ite (ao (ae d+1<lim)) (uT (aj ak (a+1)) b c ((tk d)++ [(e++ [32])++f])) au) au) au) au) au) (ai ((tk d),0)):=bB
def AI:=K 433 [] [kS] "ZR8h6jZtbM12WnlGUrDDlGrSCWC5RWEZRoq10OSV0LY2iCVTebI65U2CcF8YgZv4f4CqNrNIBawNVMoIV0YbzlWHAmyac3MhiNbqu2VtUxdjTWFOq73BowhMhLU2YqLRZUtu6OYz7BY4diuuExEPu7M"
def P5:aq (ah (ah ay)):=AI.c.f (())
def Yc:P5=ai [[98,101,110,99,104,101,115],[99,108,101,97,110],[99,117,116],[100,114,121],[102,105,116],[103,108,117,101],[104,101,108,112],[109,97,115,115],[109,111,100,101],[110,101,99,107],[110,111,116,101],[111,112,101,110],[112,97,112,101,114],[112,101,103],[112,108,97,116,101],[112,111,116],[114,101,112,111,114,116],[114,105,98],[115,104,105,109],[115,104,111,119],[115,116,97,99,107],[116,104,105,110],[116,114,117,115,116],[119,111,108,102],[119,111,114,107]]:=bh
def Cn:=K 1011 [.box bn,mS] [kS,mB] "WWFq53lHSgq5f07HCK8yoWaM5XqSVPirttrVIcQVQH8bEHcfiEjPlUSu1Cbw4ANJDHDY9Xr3gK40i1MnmoUqnqzLLcGBLYDTrQvECJKW9N84NOW1b2KYRwvllQQQVwy8SOEksN2l3TqTVO0uIt5cOGnOqzRY6ZGccHeVPhZLb1N0XSeAFeNmhufIa6NOqIFyEFWWxxI" [uX.p,xf.p,AI.p,rG.p,uV.p,rF.p] [.box bn]
def mw(a:bn.ty)(b:ah ay):aq (ah (ah ay)×aW×bn.ty):=Cn.c.f (a,b,())
def Hs(a:aw)(b:bn.ty):aq (ah (ah ay)×aW×bn.ty):=Cn.g 0xa9a1de46b6f8a19640ef9a6 [vI a] [bn.v b]
def tK(a b:_):mw a b=ite (b==[99,108,101,97,110]) (af (Hg a.2.2.2.2.2.2.2.2.2.2.2.1) λc=>ite (c.2==0) (Hs c.2 (a.1,a.2.1,a.2.2.1,a.2.2.2.1,a.2.2.2.2.1,a.2.2.2.2.2.1,a.2.2.2.2.2.2.1,a.2.2.2.2.2.2.2.1,a.2.2.2.2.2.2.2.2.1,a.2.2.2.2.2.2.2.2.2.1,a.2.2.2.2.2.2.2.2.2.2.1,(tk c.1),()))<|Hs c.2 a) (ite (b==[114,101,112,111,114,116]) (af (Hh a.2.2.2.2.2.2.2.2.2.2.2.1) λd=>af (lu d.1 d.2) λf=>ai ((tk f),aB,(bI a)))<|ite (b==[115,104,111,119]) (af (BX ((tk a.1),(tk a.2.1),a.2.2.1,a.2.2.2.1,a.2.2.2.2.1,a.2.2.2.2.2.1,a.2.2.2.2.2.2.1,(tk a.2.2.2.2.2.2.2.1),(tk a.2.2.2.2.2.2.2.2.1),(tk a.2.2.2.2.2.2.2.2.2.1),(tk a.2.2.2.2.2.2.2.2.2.2.1),a.2.2.2.2.2.2.2.2.2.2.2.1,())) λe=>af (lu (tk e.1) e.2) λg=>ai ((tk g),aB,(bI a)))<|ite (b==[104,101,108,112]) (af (P5) λh=>ai ((tk h),aB,(bI a)))<|ai ([],aA,(bI a))):=bh
def aaf(a b:_):Hs a b=af (lx a) λc=>ai ((tk c),aB,(bI b)):=bB
def km:=K 1116 [mS] [mI,mB] "2WpX4DgPpcC3bNQnRwLMIKqP0BrdzSAYLU9K6H2dONjXkFHPQ6w6KKcPwcwxxpNJI67IbbDCm1wDRp5128R4gbr8Q8vFKkkbvGGndCuWCeGFnlnDQv4nfKXTvyemunGiDZiIImV9vayio2NkYwgSOjqnZReQxjspK7A0LTjAavlwF" [vV.p]
def mQ(a:ah ay):aq (aw×aW):=km.c.f (a,())
def qK(a:ah ay)(b:aw):aq (aw×aW):=km.g 0x81 [vS a,vI b]
def xh(a:ah ay)(b:aw):aq (aw×aW):=km.g 0x12a [vS a,vI b]
def xi(a:ah ay)(b c d:aw):aq (aw×aW):=km.g 0xbf4a5ab [vS a,vI b,vI c,vI d]
def ae7(a:_):mQ a=ite (ao ((ae a:aw)>0)) (af (a[0]?) λb=>ite ((b.toNat:aw)==45) (qK a 1)<|qK a 0) (qK a 0):=bh
def Yf(a b:_):qK a b=ite ((ae a:aw)==b) (ai (0,aA)) (ite (ao (aj ak ((ae a:aw)-b)>18)) (ai (0,aA))<|ite (ao (0<=b)) (af (a[b.toNat]?) λc=>ite ((c.toNat:aw)==48) (ite (ao ((ae a:aw)>1)) (ai (0,aA))<|xh a b)<|xh a b) au):=bB
def Yg(b a:_):xh b a=xi b a 0 a:=bB
def IW(b d c a:_):xi b d c a=ite (ao (a<(ae b:aw))) (ite (ao (0<=a)) (af (b[a.toNat]?) λe=>af (Bg (e.toNat:aw)) λf=>ite (!f) (ai (0,aA))<|ite (ao (0<=a)) (af (b[a.toNat]?) λg=>xi b d (aj ak ((aj ak (10*c))+(aj ak (aj Gq ((g.toNat:aw)-48))))) (aj ak (a+1))) au) au) (ite (d==1) (ai (aj ak (0-c),aB))<|ai (c,aB)):=bB
def jX:=K 1119 [mS] [kI,mB] "2OkB0fmUzx0vwJolYOBJaXytlaRcqOHipNV00Pmrb0qhdEG2xWOtVpepXaifzMhZxKgaJI6lfUmE8Me7VC2dCNlLOMPbSB2Xjasr5UhjU5d2MmPzodPGPukjHoQpEN1giAsOFXAr0VDRmhJHBJYYs6LCGSMMvRq4c" [cN.p,jj.p,km.p]
def om(a:ah ay):aq (ah aw×aW):=jX.c.f (a,())
def zP(a:aw)(b:ah (ah ay))(c:ah aw):aq (ah aw×aW):=jX.g 0x4404418158272 [vI a] [.sl eS b,.sl eI c]
def ahv(a:_):om a=ite (a==[45]) (ai ([],aB)) (af (mq a 44) λb=>ite (ao ((ae b:aw)>64)) (ai ([],aA))<|zP 0 b []):=bh
def Ko(a b c:_):zP a b c=ite (ao (a<(ae b:aw))) (ite (ao (0<=a)&&ao (a<(ae b:aw))) (af (b[a.toNat]?) λe=>af (mQ e) λd=>ite (!d.2) (ai ([],aA))<|af (cV d.1 (-1000000000000) 1000000000000) λf=>ite (!f) (ai ([],aA))<|ite (ao (ae c+1<lim)) (zP (aj ak (a+1)) b ((tk c)++ [d.1])) au) au) (ai ((tk c),aB)):=bB
def zQ:=K 1167 [mS] [mI,mB] "FJc92byPrpzhNMqPUrIQKXescbNX1DlnrA6VDLJRIQbf6Kydoy1s78z9R5D7C9qxRpgY79gCe7O" [vV.p]
def yK(a:ah ay):aq (aw×aW):=zQ.c.f (a,())
def xj(a:ah ay)(b c:aw):aq (aw×aW):=zQ.g 0x1d21880 [vS a,vI b,vI c]
def ae8(a:_):yK a=xj a 0 0:=bh
def IX(b c a:_):xj b c a=ite (ao (a<(ae b:aw))) (ite (ao (0<=a)) (af (b[a.toNat]?) λd=>af (Bg (d.toNat:aw)) λe=>ite (!e) (ai (0,aA))<|ite (ao (0<=a)) (af (b[a.toNat]?) λf=>xj b (aj ak ((aj ak (10*c))+(aj ak (aj Gq ((f.toNat:aw)-48))))) (aj ak (a+1))) au) au) (ai (c,aB)):=bB
def Hn:=K 1196 [mI,mI] [mI] "81rojlTM5Y1eweED3MD3jddoFI7RO36VgHn9WybPp1KvYAgvBkoOHshsSEizrbEpLuh7GQm57PpNiGtgNwzO"
def EV(a b:aw):aq aw:=Hn.c.f (a,b,())
def ae9(b a:_):EV b a=ite (a==2) (ite (b.tmod 4==0) (ai 29)<|ite (ao (0<=aj ak (a-1))&&ao (aj ak (a-1)<12)) (af ([31,28,31,30,31,30,31,31,30,31,30,31][(aj ak (a-1)).toNat]?) λc=>ai c) au) (ite (ao (0<=aj ak (a-1))&&ao (aj ak (a-1)<12)) (af ([31,28,31,30,31,30,31,31,30,31,30,31][(aj ak (a-1)).toNat]?) λd=>ai d) au):=bh
def oJ:=K 1166 [mI,mI,mI] [mI,mB] "9T1CwPxJ9fGtyEnDMRbVcojWWHEWlVpzhSSzzjfB5SPRzihd8Oiq8cXA0oUaGSW2Qw8920Jetszh3wpfCv7GS1SqCb4Xi3n1Z9ixR6GQDYwmZOOkQdadhcPQXK4i4c3WY13PYgh9k3d5Qh4KGSND7QnWiOl1BCOpP" [cN.p,Hn.p]
def Nv(a b d:aw):aq (aw×aW):=oJ.c.f (a,b,d,())
def Qd(a b c:aw):aq (aw×aW):=oJ.g 0x81 [vI a,vI b,vI c]
def qL(a b c d:aw):aq (aw×aW):=oJ.g 0xaca916d [vI a,vI b,vI c,vI d]
def xk(a b c d:aw):aq (aw×aW):=oJ.g 0x22214e6c4 [vI a,vI b,vI c,vI d]
def afa(a b c:_):Nv a b c=af (cV a 2000 2099) λd=>ite (!d) (ai (0,aA))<|af (cV b 1 12) λe=>ite (!e) (ai (0,aA))<|af (EV a b) λf=>af (cV c 1 f) λg=>ite (!g) (ai (0,aA))<|Qd a b c:=bh
def Yj(a b c:_):Qd a b c=qL a b (aj ak (c-1)) 2000:=bB
def IY(a c d b:_):qL a c d b=ite (ao (b<a)) (ite (b.tmod 4==0) (qL a c (aj ak ((aj ak (d+365))+1)) (aj ak (b+1)))<|qL a c (aj ak (d+365)) (aj ak (b+1))) (xk a c d 1):=bB
def IZ(b c d a:_):xk b c d a=ite (ao (a<c)) (af (EV b a) λe=>xk b c (aj ak (d+e)) (aj ak (a+1))) (ai (d,aB)):=bB
def tv:=K 1117 [mS] [mI,mB] "OrhtY7F8eyCeLTlyk8pkKHtbjaGePnUcWY6lrkUQbEYKmRZB6G7DEnScNC8lrLQAIiKV4n4cbwjUOMzzYR2zux6PG5ClAvKTdE17YPyVIcTnNroBGjAosLZx8UoPHPPpwNrwkJOnuG2L" [oJ.p,zQ.p]
def EW(a:ah ay):aq (aw×aW):=tv.c.f (a,())
def VQ(a:ah ay):aq (aw×aW):=tv.g 0x81 [vS a]
def VS(a b c:aw):aq (aw×aW):=tv.g 0x130 [vI a,vI b,vI c]
def VP(a:_):EW a=ite ((ae a:aw) !=10) (ai (0,aA)) (af (a[4]?) λb=>ite ((b.toNat:aw) !=45) (ai (0,aA))<|af (a[7]?) λc=>ite ((c.toNat:aw) !=45) (ai (0,aA))<|VQ a):=bh
def ach(a:_):VQ a=ite (ao (4<=(ae a:aw))) (af (yK (a.take 4)) λb=>ite (ao (7<=(ae a:aw))) (af (yK ((a.take 7).drop 5)) λc=>ite (ao (8<=(ae a:aw))) (af (yK (a.drop 8)) λd=>ite (!b.2) (ai (0,aA))<|ite (!c.2) (ai (0,aA))<|ite (!d.2) (ai (0,aA))<|VS b.1 c.1 d.1) au) au) au:=bB
def aci(a b c:_):VS a b c=af (Nv a b c) λd=>ai (d.1,d.2):=bB
def EZ:=K 1106 [mS] [.d aZ,mB] "2eMoD1jXL5iB6Vv3Gzn7dmU1CdcClKqSmvVAIIqdHD9T2wTyQXcX4m77Zk6pQvys7AqDxmYrCPieOGens2nVa0BICkZeaMaOoGSt5jMxfbyccrJoi1zTWVy31cvIVzlFnIILtxbf9dRY2kIdTuPt2u3zznYdAbkdG9mmn7DMQGbRqKEaJ1bW0LNaXFjft7A" [HX.p,jj.p,tv.p,jX.p]
def Lb(a:ah ay):aq (aZ.ty×aW):=EZ.c.f (a,())
def VT(a:aw)(b:aZ.ty)(c:ah (ah ay))(d:ah aw):aq (aZ.ty×aW):=EZ.g 0x165e71c7f5dc [vI a] [aZ.v b,.sl eS c,.sl eI d]
def akO(c:_):Lb c=af (mq c 32) λa=>ite ((ae a:aw) !=3) (ai (([],0,0,0,()),aA))<|ite (ao (1<(ae a:aw))) (af (a[1]?) λe=>af (om e) λb=>ite (ao (2<(ae a:aw))) (af (a[2]?) λf=>af (EW f) λd=>ite (!b.2) (ai (([],0,0,0,()),aA))<|ite (!d.2) (ai (([],0,0,0,()),aA))<|ite ((ae b.1:aw) !=2) (ai (([],0,0,0,()),aA))<|VT d.1 ([],0,0,0,()) a b.1) au) au:=bh
def acj(b g c a:_):VT b g c a=ite (ao (0<(ae c:aw))) (af (c[0]?) λd=>ite (ao (0<(ae a:aw))) (af (a[0]?) λe=>ite (ao (1<(ae a:aw))) (af (a[1]?) λf=>af (I0 (d,e,f,b,())) λh=>ite (!h) (ai (([],0,0,0,()),aA))<|ai ((d,e,f,b,()),aB)) au) au) au:=bB
def il:=K 1156 [mSS,mS,mI] [mI,mI] "sG25nGfntWo3TNEaMlusXiSSAjIAXhkR5h2cEcc2a8Rk876PIygXJshuJVddOEskm37UJ6PRTW0bQgy0KaDXt3u62RY"
def ow(a:ah (ah ay))(b:ah ay)(d:aw):aq (aw×aw):=il.c.f (a,b,d,())
def zY(a:ah (ah ay))(b:ah ay)(c d:aw):aq (aw×aw):=il.g 0xe0f00a [.sl eS a,vS b,vI c,vI d]
def zZ(a:ah (ah ay))(b:ah ay)(c d:aw):aq (aw×aw):=il.g 0x127 [.sl eS a,vS b,vI c,vI d]
def Aa(a:ah (ah ay))(b c:aw):aq (aw×aw):=il.g 0x130 [.sl eS a,vI b,vI c]
def ahU(a b c:_):ow a b c=zY a b c 0:=bh
def KC(b c d a:_):zY b c d a=ite (ao (a<(ae b:aw))) (ite (ao (0<=a)) (af (b[a.toNat]?) λe=>ite (dB e c) (zY b c d (aj ak (a+1)))<|zZ b c d a) au) (zZ b c d a):=bB
def aag(b d c a:_):zZ b d c a=ite (ao (a<(ae b:aw))) (ite (ao (0<=a)) (af (b[a.toNat]?) λe=>ite (e==d) (ai (0,4))<|Aa b c a) au) (Aa b c a):=bB
def aah(a b c:_):Aa a b c=ite ((ae a:aw)==b) (ai (0,5)) (ai (c,0)):=bB
def Cp:=K 1105 [.box bn,.d aZ] [mI] "48ZiMmSax2ZVavFTXmRahGXlY2ZlnZ1Xb34WsSux4dO2PC08opuPDXqUzRYH6RUPCfycrXrh1Hdhf381ilBwWCJaFG1p2Mobvd0oco30SgvLWyH9q5TsBc6Zji8TF2hKMrjmkKMqHUYphiwaRhBMBzCeFD7FdeZnAsd9tOg2FdUuA" [il.p] [.box bn]
def Rm(a:bn.ty)(b:aZ.ty):aq (aw×bn.ty):=Cp.c.f (a,b,())
def Ac(a:aw)(b:bn.ty)(c:aZ.ty)(d:ah (ah ay)):aq (aw×bn.ty):=Cp.g 0x2c8bfd1f3e9c0a7bd7749c65dd2d0a8 [vI a] [bn.v b,aZ.v c,.sl eS d]
def ahV(a b:_):Rm a b= Ac 0 a b []:=bh
def aai(d a c e:_):Ac d a c e=ite (ao (d<(ae a.1:aw))) (ite (ao (0<=d)&&ao (d<(ae a.1:aw))) (af (a.1[d.toNat]?) λf=>ite (ao (ae e+1<lim)) (Ac (aj ak (d+1)) a c ((tk e)++ [f.1])) au) au) (af (ow (tk e) c.1 12) λb=>ite (b.2==0) (ite (ao (0<=b.1)&&ao (b.1<=(ae a.1:aw))) (ite (ao (0+ae (a.1.take b.1.toNat)<lim)) (ite (ao (ae ([]++(a.1.take b.1.toNat))+1<lim)) (ite (ao (0<=b.1)&&ao (b.1<=(ae a.1:aw))) (ite (ao (ae ((([]++(a.1.take b.1.toNat)).take (ae ([]++(a.1.take b.1.toNat))))++ [c])+ae ((nu b.1.toNat a.1).take (ae a.1-b.1.toNat))<lim)) (ai (b.2,((((((([]++(a.1.take b.1.toNat)).take (ae ([]++(a.1.take b.1.toNat))))++ [c]).take (ae ((([]++(a.1.take b.1.toNat)).take (ae ([]++(a.1.take b.1.toNat))))++ [c])))++((nu b.1.toNat a.1).take (ae a.1-b.1.toNat))).take (ae ((((([]++(a.1.take b.1.toNat)).take (ae ([]++(a.1.take b.1.toNat))))++ [c]).take (ae ((([]++(a.1.take b.1.toNat)).take (ae ([]++(a.1.take b.1.toNat))))++ [c])))++((nu b.1.toNat a.1).take (ae a.1-b.1.toNat))))),(tk a.2.1),a.2.2.1,a.2.2.2.1,a.2.2.2.2.1,a.2.2.2.2.2.1,a.2.2.2.2.2.2.1,(tk a.2.2.2.2.2.2.2.1),(tk a.2.2.2.2.2.2.2.2.1),(tk a.2.2.2.2.2.2.2.2.2.1),(tk a.2.2.2.2.2.2.2.2.2.2.1),a.2.2.2.2.2.2.2.2.2.2.2.1,()))) au) au) au) au) au)<|ai (b.2,(bI a))):=bB
def ot:=K 1157 [mS,mI] [mS,kI,mB] "17gQjpL6K9SxFMseeaRDMxCmQWAUctwCC0M5n21fOx98ddjFY9H0mR0ZEcbGsArlrUriF2fhEvws66kS0w7XFPaF9FiyHqUl4" [jj.p,jX.p]
def uk(a:ah ay)(b:aw):aq (ah ay×ah aw×aW):=ot.c.f (a,b,())
def Yn(a:ah (ah ay))(b:ah aw):aq (ah ay×ah aw×aW):=ot.g 0x1176a9d84 [] [.sl eS a,.sl eI b]
def aoc(c d:_):uk c d=af (mq c 32) λa=>ite ((ae a:aw) !=2) (ai ([],[],aA))<|ite (ao (1<(ae a:aw))) (af (a[1]?) λe=>af (om e) λb=>ite (!b.2) (ai ([],[],aA))<|ite ((ae b.1:aw) !=d) (ai ([],[],aA))<|Yn a b.1) au:=bh
def afe(a b:_):Yn a b=ite (ao (0<(ae a:aw))) (af (a[0]?) λc=>ai (c,(tk b),aB)) au:=bB
def Ny:=K 1108 [mS] [.d be,mB] "9SrkmIcsl8VAmBLNIrsVBlRi9npM4u1t9jaVxYEWUFq8ys6ozcbQE0znVTCrS3i4EYvPLE8wVzJf9NVERV0UNyrsC9fHFt7PVCQips4inKckHB" [HZ.p,ot.p]
def Lc(a:ah ay):aq (be.ty×aW):=Ny.c.f (a,())
def akP(b:_):Lc b=af (uk b 2) λa=>ite (!a.2.2) (ai (([],0,0,()),aA))<|ite (ao (0<(ae a.2.1:aw))) (af (a.2.1[0]?) λc=>ite (ao (1<(ae a.2.1:aw))) (af (a.2.1[1]?) λd=>af (I1 (a.1,c,d,())) λe=>ite (!e) (ai (([],0,0,()),aA))<|ai ((a.1,c,d,()),aB)) au) au:=bh
def Ig:=K 1107 [.box bn,.d be] [mI] "GSAwb6UPzuizoRw4MTeLaN1VqNsekd7guI8YNpGppdFgNbb1X8TwZOFXlS1N69Hy8hmTJdkkLH6iuFlz1CHXXuyeM7wd79h5wtxfAfjXUD51GgEPzL6hRl7q0iRqa9VBV3OlyuQ2olMdcm2KumkGPZVOdzgd6u1jW570bPhEEUXP" [il.p] [.box bn]
def Yz(a:bn.ty)(b:be.ty):aq (aw×bn.ty):=Ig.c.f (a,b,())
def Fv(a:aw)(b:bn.ty)(c:be.ty)(d:ah (ah ay)):aq (aw×bn.ty):=Ig.g 0x2f8b909ee2d2d9f5686fb58ea405500 [vI a] [bn.v b,be.v c,.sl eS d]
def aor(a b:_):Yz a b= Fv 0 a b []:=bh
def afw(d a c e:_):Fv d a c e=ite (ao (d<(ae a.2.1:aw))) (ite (ao (0<=d)&&ao (d<(ae a.2.1:aw))) (af (a.2.1[d.toNat]?) λf=>ite (ao (ae e+1<lim)) (Fv (aj ak (d+1)) a c ((tk e)++ [f.1])) au) au) (af (ow (tk e) c.1 8) λb=>ite (b.2==0) (ite (ao (0<=b.1)&&ao (b.1<=(ae a.2.1:aw))) (ite (ao (0+ae (a.2.1.take b.1.toNat)<lim)) (ite (ao (ae ([]++(a.2.1.take b.1.toNat))+1<lim)) (ite (ao (0<=b.1)&&ao (b.1<=(ae a.2.1:aw))) (ite (ao (ae ((([]++(a.2.1.take b.1.toNat)).take (ae ([]++(a.2.1.take b.1.toNat))))++ [c])+ae ((nu b.1.toNat a.2.1).take (ae a.2.1-b.1.toNat))<lim)) (ai (b.2,((tk a.1),(((((([]++(a.2.1.take b.1.toNat)).take (ae ([]++(a.2.1.take b.1.toNat))))++ [c]).take (ae ((([]++(a.2.1.take b.1.toNat)).take (ae ([]++(a.2.1.take b.1.toNat))))++ [c])))++((nu b.1.toNat a.2.1).take (ae a.2.1-b.1.toNat))).take (ae ((((([]++(a.2.1.take b.1.toNat)).take (ae ([]++(a.2.1.take b.1.toNat))))++ [c]).take (ae ((([]++(a.2.1.take b.1.toNat)).take (ae ([]++(a.2.1.take b.1.toNat))))++ [c])))++((nu b.1.toNat a.2.1).take (ae a.2.1-b.1.toNat))))),a.2.2.1,a.2.2.2.1,a.2.2.2.2.1,a.2.2.2.2.2.1,a.2.2.2.2.2.2.1,(tk a.2.2.2.2.2.2.2.1),(tk a.2.2.2.2.2.2.2.2.1),(tk a.2.2.2.2.2.2.2.2.2.1),(tk a.2.2.2.2.2.2.2.2.2.2.1),a.2.2.2.2.2.2.2.2.2.2.2.1,()))) au) au) au) au) au)<|ai (b.2,(bI a))):=bB
def E7:=K 1109 [mS] [.d (.one (.sl (.one (.sl (.one (.int .i64)))))),mB] "IKsLFjUiQIC4DcTpvb0BmHl60vUvzIlGHogNN4KpDrsEEqObLEngrzkP1gE8sKNIJyJiAVeftbZofRw8JDyUp0HbUeaFGB36MwgzIkxX4ESODutlzdEPn5rC1I" [mu.p,jj.p,jX.p]
def Ld(a:ah ay):aq (ah (ah aw)×aW):=E7.c.f (a,())
def Cf(a:aw)(b:ah (ah ay))(c:ah (ah aw)):aq (ah (ah aw)×aW):=E7.g 0x4a399fba2b49a [vI a] [.sl eS b,.sl eII c]
def akS(a:_):Ld a=af (mq a 47) λb=>Cf 0 b []:=bh
def NF(a b c:_):Cf a b c=ite (ao (a<(ae b:aw))) (ite (ao (0<=a)&&ao (a<(ae b:aw))) (af (b[a.toNat]?) λe=>af (om e) λd=>ite (!d.2) (ai ([],aA))<|ite (ao (ae c+1<lim)) (Cf (aj ak (a+1)) b ((tk c)++ [(tk d.1)])) au) au) (af (CW (tk c)) λf=>ite (!f) (ai ([],aA))<|ai ((tk c),aB)):=bB
def E9:=K 1110 [mS] [.d iZ,mB] "381l6KmwYVGcTQVRoDsYhycpDreXjquEO0NopBPn2DkWRIyZwVneqypwGB5M7HVQMdNB1ynHzEApGoSAWxAiDBDDjjp6D12Kxu8xE6w0LVyWyaMFER4rYMKzChkv2aOw6XD4f4f" [E8.p,jX.p]
def Lf(a:ah ay):aq (iZ.ty×aW):=E9.c.f (a,())
def VU(a:iZ.ty)(b:ah aw):aq (iZ.ty×aW):=E9.g 0x818102cdb [] [iZ.v a,.sl eI b]
def akV(b:_):Lf b=af (om b) λa=>ite (!a.2) (ai ((0,0,0,0,()),aA))<|ite ((ae a.1:aw) !=4) (ai ((0,0,0,0,()),aA))<|VU (0,0,0,0,()) a.1:=bh
def acn(f a:_):VU f a=ite (ao (0<(ae a:aw))) (af (a[0]?) λb=>ite (ao (1<(ae a:aw))) (af (a[1]?) λc=>ite (ao (2<(ae a:aw))) (af (a[2]?) λd=>ite (ao (3<(ae a:aw))) (af (a[3]?) λe=>af (NI (b,c,d,e,())) λg=>ite (!g) (ai ((0,0,0,0,()),aA))<|ai ((b,c,d,e,()),aB)) au) au) au) au:=bB
def NK:=K 1112 [mS] [.d aZ,mB] "2QgIss5CiuffHpHi8qbOdv703nRgsUF8USifrt1OrPIOxTeGJbISyks6l0YFl7XbAXxntOGrDgRgkSHObSdRjgIxvUjrtNz7TZqOJocxmgZQJsW6oiACojs6CLczO" [H6.p,ot.p]
def Lj(a:ah ay):aq (aZ.ty×aW):=NK.c.f (a,())
def akX(b:_):Lj b=af (uk b 3) λa=>ite (!a.2.2) (ai (([],0,0,0,()),aA))<|ite (ao (0<(ae a.2.1:aw))) (af (a.2.1[0]?) λc=>ite (ao (1<(ae a.2.1:aw))) (af (a.2.1[1]?) λd=>ite (ao (2<(ae a.2.1:aw))) (af (a.2.1[2]?) λe=>af (I4 (a.1,c,d,e,())) λf=>ite (!f) (ai (([],0,0,0,()),aA))<|ai ((a.1,c,d,e,()),aB)) au) au) au:=bh
def Ie:=K 1111 [.box bn,.d aZ] [mI] "Cvv7seyAopOly7zAAch5z1frhV09n9zFsiC4CfGvIwiby3Zo5mTL5YMvB57gUM9nEDZQdDu5AzyZdAPKuzkeS73qMdQbt0MvsN5zim67EKoD9ayk4YPzWZnBKM2aypuiM7QoTjJtIOWYDAce0OCp93Nwj9AsANexSgigYMIEtZBlOkp" [il.p] [.box bn]
def Yx(a:bn.ty)(b:aZ.ty):aq (aw×bn.ty):=Ie.c.f (a,b,())
def Ft(a:aw)(b:bn.ty)(c:aZ.ty)(d:ah (ah ay)):aq (aw×bn.ty):=Ie.g 0x2c8bfd1f3e9c0a7bd7749c65dd2d0a8 [vI a] [bn.v b,aZ.v c,.sl eS d]
def aop(a b:_):Yx a b= Ft 0 a b []:=bh
def afu(d a c e:_):Ft d a c e=ite (ao (d<(ae a.2.2.2.2.2.2.2.1:aw))) (ite (ao (0<=d)&&ao (d<(ae a.2.2.2.2.2.2.2.1:aw))) (af (a.2.2.2.2.2.2.2.1[d.toNat]?) λf=>ite (ao (ae e+1<lim)) (Ft (aj ak (d+1)) a c ((tk e)++ [f.1])) au) au) (af (ow (tk e) c.1 8) λb=>ite (b.2==0) (ite (ao (0<=b.1)&&ao (b.1<=(ae a.2.2.2.2.2.2.2.1:aw))) (ite (ao (0+ae (a.2.2.2.2.2.2.2.1.take b.1.toNat)<lim)) (ite (ao (ae ([]++(a.2.2.2.2.2.2.2.1.take b.1.toNat))+1<lim)) (ite (ao (0<=b.1)&&ao (b.1<=(ae a.2.2.2.2.2.2.2.1:aw))) (ite (ao (ae ((([]++(a.2.2.2.2.2.2.2.1.take b.1.toNat)).take (ae ([]++(a.2.2.2.2.2.2.2.1.take b.1.toNat))))++ [c])+ae ((nu b.1.toNat a.2.2.2.2.2.2.2.1).take (ae a.2.2.2.2.2.2.2.1-b.1.toNat))<lim)) (ai (b.2,((tk a.1),(tk a.2.1),a.2.2.1,a.2.2.2.1,a.2.2.2.2.1,a.2.2.2.2.2.1,a.2.2.2.2.2.2.1,(((((([]++(a.2.2.2.2.2.2.2.1.take b.1.toNat)).take (ae ([]++(a.2.2.2.2.2.2.2.1.take b.1.toNat))))++ [c]).take (ae ((([]++(a.2.2.2.2.2.2.2.1.take b.1.toNat)).take (ae ([]++(a.2.2.2.2.2.2.2.1.take b.1.toNat))))++ [c])))++((nu b.1.toNat a.2.2.2.2.2.2.2.1).take (ae a.2.2.2.2.2.2.2.1-b.1.toNat))).take (ae ((((([]++(a.2.2.2.2.2.2.2.1.take b.1.toNat)).take (ae ([]++(a.2.2.2.2.2.2.2.1.take b.1.toNat))))++ [c]).take (ae ((([]++(a.2.2.2.2.2.2.2.1.take b.1.toNat)).take (ae ([]++(a.2.2.2.2.2.2.2.1.take b.1.toNat))))++ [c])))++((nu b.1.toNat a.2.2.2.2.2.2.2.1).take (ae a.2.2.2.2.2.2.2.1-b.1.toNat))))),(tk a.2.2.2.2.2.2.2.2.1),(tk a.2.2.2.2.2.2.2.2.2.1),(tk a.2.2.2.2.2.2.2.2.2.2.1),a.2.2.2.2.2.2.2.2.2.2.2.1,()))) au) au) au) au) au)<|ai (b.2,(bI a))):=bB
def NP:=K 1159 [mS] [.d cx,mB] "3wasuQzlvGgWUGuh40RoJ0vLLdtrYS4mrDrDwviyux3TGgIHMX5CLzRUpDARRLmiTeZlWijsI4IqRNiSLWY2T4VBAVHYqaPdKIhr4F2IxbAfTEyX4yJl7QVcop2BffNNLXlbI2TaSQkO" [Bs.p,ot.p]
def Lk(a:ah ay):aq (cx.ty×aW):=NP.c.f (a,())
def ak2(b:_):Lk b=af (uk b 4) λa=>ite (!a.2.2) (ai (([],0,0,0,0,()),aA))<|ite (ao (0<(ae a.2.1:aw))) (af (a.2.1[0]?) λc=>ite (ao (1<(ae a.2.1:aw))) (af (a.2.1[1]?) λd=>ite (ao (2<(ae a.2.1:aw))) (af (a.2.1[2]?) λe=>ite (ao (3<(ae a.2.1:aw))) (af (a.2.1[3]?) λf=>af (Dr (a.1,c,d,e,f,())) λg=>ite (!g) (ai (([],0,0,0,0,()),aA))<|ai ((a.1,c,d,e,f,()),aB)) au) au) au) au:=bh
def If:=K 1158 [.box bn,.d cx] [mI] "7s0YfL6Lg3H6oBj3lK8L69XK9wc5AFNgMKDCTlWQaJBI1Qz0BB1QsIvj0Fa2TH4aJfekrzR88nqHr9thRN08SZsXcK2gM51o0Y3yzuyljsV80hcTG7IA9Q2K6DJNYQKZfENF16vbwRh5quvOGJVV0ff2g3ZO2GqHfgLCFQZHBgqFit1a" [il.p] [.box bn]
def Yy(a:bn.ty)(b:cx.ty):aq (aw×bn.ty):=If.c.f (a,b,())
def Fu(a:aw)(b:bn.ty)(c:cx.ty)(d:ah (ah ay)):aq (aw×bn.ty):=If.g 0x2c8bfd1f3e9c0a7bd774b77dd45a4c8 [vI a] [bn.v b,cx.v c,.sl eS d]
def aoq(a b:_):Yy a b= Fu 0 a b []:=bh
def afv(d a c e:_):Fu d a c e=ite (ao (d<(ae a.2.2.2.2.2.2.2.2.1:aw))) (ite (ao (0<=d)&&ao (d<(ae a.2.2.2.2.2.2.2.2.1:aw))) (af (a.2.2.2.2.2.2.2.2.1[d.toNat]?) λf=>ite (ao (ae e+1<lim)) (Fu (aj ak (d+1)) a c ((tk e)++ [f.1])) au) au) (af (ow (tk e) c.1 8) λb=>ite (b.2==0) (ite (ao (0<=b.1)&&ao (b.1<=(ae a.2.2.2.2.2.2.2.2.1:aw))) (ite (ao (0+ae (a.2.2.2.2.2.2.2.2.1.take b.1.toNat)<lim)) (ite (ao (ae ([]++(a.2.2.2.2.2.2.2.2.1.take b.1.toNat))+1<lim)) (ite (ao (0<=b.1)&&ao (b.1<=(ae a.2.2.2.2.2.2.2.2.1:aw))) (ite (ao (ae ((([]++(a.2.2.2.2.2.2.2.2.1.take b.1.toNat)).take (ae ([]++(a.2.2.2.2.2.2.2.2.1.take b.1.toNat))))++ [c])+ae ((nu b.1.toNat a.2.2.2.2.2.2.2.2.1).take (ae a.2.2.2.2.2.2.2.2.1-b.1.toNat))<lim)) (ai (b.2,((tk a.1),(tk a.2.1),a.2.2.1,a.2.2.2.1,a.2.2.2.2.1,a.2.2.2.2.2.1,a.2.2.2.2.2.2.1,(tk a.2.2.2.2.2.2.2.1),(((((([]++(a.2.2.2.2.2.2.2.2.1.take b.1.toNat)).take (ae ([]++(a.2.2.2.2.2.2.2.2.1.take b.1.toNat))))++ [c]).take (ae ((([]++(a.2.2.2.2.2.2.2.2.1.take b.1.toNat)).take (ae ([]++(a.2.2.2.2.2.2.2.2.1.take b.1.toNat))))++ [c])))++((nu b.1.toNat a.2.2.2.2.2.2.2.2.1).take (ae a.2.2.2.2.2.2.2.2.1-b.1.toNat))).take (ae ((((([]++(a.2.2.2.2.2.2.2.2.1.take b.1.toNat)).take (ae ([]++(a.2.2.2.2.2.2.2.2.1.take b.1.toNat))))++ [c]).take (ae ((([]++(a.2.2.2.2.2.2.2.2.1.take b.1.toNat)).take (ae ([]++(a.2.2.2.2.2.2.2.2.1.take b.1.toNat))))++ [c])))++((nu b.1.toNat a.2.2.2.2.2.2.2.2.1).take (ae a.2.2.2.2.2.2.2.2.1-b.1.toNat))))),(tk a.2.2.2.2.2.2.2.2.2.1),(tk a.2.2.2.2.2.2.2.2.2.2.1),a.2.2.2.2.2.2.2.2.2.2.2.1,()))) au) au) au) au) au)<|ai (b.2,(bI a))):=bB
def NS:=K 1161 [mS] [.d be,mB] "9SrkmIcsl8VAmBLNIrsVBlRi9npM4u1t9jaVxYEWUFq8ys6ozcbQE0znVTCrS3i4EYvPLE8wVzJf9NVERV0UNyrsC9fHFt7PVCQips4inKckHB" [H7.p,ot.p]
def Ll(a:ah ay):aq (be.ty×aW):=NS.c.f (a,())
def ak5(b:_):Ll b=af (uk b 2) λa=>ite (!a.2.2) (ai (([],0,0,()),aA))<|ite (ao (0<(ae a.2.1:aw))) (af (a.2.1[0]?) λc=>ite (ao (1<(ae a.2.1:aw))) (af (a.2.1[1]?) λd=>af (I7 (a.1,c,d,())) λe=>ite (!e) (ai (([],0,0,()),aA))<|ai ((a.1,c,d,()),aB)) au) au:=bh
def Fp:=K 1160 [.box bn,.d be] [mI] "24BDb3X93wYz5SJuDyEiKqzIWmlslypuQLzXJRnjMyoVtU7wdrlTXX60nFr99gUJOfRV87CtUWpc56QGuO4pw9mOhFt6kOw7ntNNz5532h98Z57nNvvZt1wrrXgKMgOi4zC2homVvZcpIOynzW8ltLcjiJ5OxUNiWNUtiHNmIOfqxD5" [il.p] [.box bn]
def UR(a:bn.ty)(b:be.ty):aq (aw×bn.ty):=Fp.c.f (a,b,())
def Co(a:aw)(b:bn.ty)(c:be.ty)(d:ah (ah ay)):aq (aw×bn.ty):=Fp.g 0x2f8b909ee2d2d9f5686fb58ea405500 [vI a] [bn.v b,be.v c,.sl eS d]
def alg(a b:_):UR a b= Co 0 a b []:=bh
def acr(d a c e:_):Co d a c e=ite (ao (d<(ae a.2.2.2.2.2.2.2.2.2.1:aw))) (ite (ao (0<=d)&&ao (d<(ae a.2.2.2.2.2.2.2.2.2.1:aw))) (af (a.2.2.2.2.2.2.2.2.2.1[d.toNat]?) λf=>ite (ao (ae e+1<lim)) (Co (aj ak (d+1)) a c ((tk e)++ [f.1])) au) au) (af (ow (tk e) c.1 10) λb=>ite (b.2==0) (ite (ao (0<=b.1)&&ao (b.1<=(ae a.2.2.2.2.2.2.2.2.2.1:aw))) (ite (ao (0+ae (a.2.2.2.2.2.2.2.2.2.1.take b.1.toNat)<lim)) (ite (ao (ae ([]++(a.2.2.2.2.2.2.2.2.2.1.take b.1.toNat))+1<lim)) (ite (ao (0<=b.1)&&ao (b.1<=(ae a.2.2.2.2.2.2.2.2.2.1:aw))) (ite (ao (ae ((([]++(a.2.2.2.2.2.2.2.2.2.1.take b.1.toNat)).take (ae ([]++(a.2.2.2.2.2.2.2.2.2.1.take b.1.toNat))))++ [c])+ae ((nu b.1.toNat a.2.2.2.2.2.2.2.2.2.1).take (ae a.2.2.2.2.2.2.2.2.2.1-b.1.toNat))<lim)) (ai (b.2,((tk a.1),(tk a.2.1),a.2.2.1,a.2.2.2.1,a.2.2.2.2.1,a.2.2.2.2.2.1,a.2.2.2.2.2.2.1,(tk a.2.2.2.2.2.2.2.1),(tk a.2.2.2.2.2.2.2.2.1),(((((([]++(a.2.2.2.2.2.2.2.2.2.1.take b.1.toNat)).take (ae ([]++(a.2.2.2.2.2.2.2.2.2.1.take b.1.toNat))))++ [c]).take (ae ((([]++(a.2.2.2.2.2.2.2.2.2.1.take b.1.toNat)).take (ae ([]++(a.2.2.2.2.2.2.2.2.2.1.take b.1.toNat))))++ [c])))++((nu b.1.toNat a.2.2.2.2.2.2.2.2.2.1).take (ae a.2.2.2.2.2.2.2.2.2.1-b.1.toNat))).take (ae ((((([]++(a.2.2.2.2.2.2.2.2.2.1.take b.1.toNat)).take (ae ([]++(a.2.2.2.2.2.2.2.2.2.1.take b.1.toNat))))++ [c]).take (ae ((([]++(a.2.2.2.2.2.2.2.2.2.1.take b.1.toNat)).take (ae ([]++(a.2.2.2.2.2.2.2.2.2.1.take b.1.toNat))))++ [c])))++((nu b.1.toNat a.2.2.2.2.2.2.2.2.2.1).take (ae a.2.2.2.2.2.2.2.2.2.1-b.1.toNat))))),(tk a.2.2.2.2.2.2.2.2.2.2.1),a.2.2.2.2.2.2.2.2.2.2.2.1,()))) au) au) au) au) au)<|ai (b.2,(bI a))):=bB
def NU:=K 1163 [mS] [.d aZ,mB] "2QgIss5CiuffHpHi8qbOdv703nRgsUF8USifrt1OrPIOxTeGJbISyks6l0YFl7XbAXxntOGrDgRgkSHObSdRjgIxvUjrtNz7TZqOJocxmgZQJsW6oiACojs6CLczO" [H8.p,ot.p]
def Lm(a:ah ay):aq (aZ.ty×aW):=NU.c.f (a,())
def ak7(b:_):Lm b=af (uk b 3) λa=>ite (!a.2.2) (ai (([],0,0,0,()),aA))<|ite (ao (0<(ae a.2.1:aw))) (af (a.2.1[0]?) λc=>ite (ao (1<(ae a.2.1:aw))) (af (a.2.1[1]?) λd=>ite (ao (2<(ae a.2.1:aw))) (af (a.2.1[2]?) λe=>af (I8 (a.1,c,d,e,())) λf=>ite (!f) (ai (([],0,0,0,()),aA))<|ai ((a.1,c,d,e,()),aB)) au) au) au:=bh
def Fw:=K 1162 [.box bn,.d aZ] [mI] "TPWS4rzANPvL2asa8BGA56dJi5hNke3tDF9stxkMrbvlsEjOiiTwuAJUUC1zsFvduLHp0gYB8C1xo5cUtCR9WlrjxzilEjjTnosPBYqPbwtiZHgQMznlktZwaH1mdevxW29e4LVkbck4XOYnXEMHZd1WrbOOWNjTKucxM3y5RKAH8so" [il.p] [.box bn]
def UT(a:bn.ty)(b:aZ.ty):aq (aw×bn.ty):=Fw.c.f (a,b,())
def Cq(a:aw)(b:bn.ty)(c:aZ.ty)(d:ah (ah ay)):aq (aw×bn.ty):=Fw.g 0x2c8bfd1f3e9c0a7bd7749c65dd2d0a8 [vI a] [bn.v b,aZ.v c,.sl eS d]
def alh(a b:_):UT a b= Cq 0 a b []:=bh
def acw(d a c e:_):Cq d a c e=ite (ao (d<(ae a.2.2.2.2.2.2.2.2.2.2.1:aw))) (ite (ao (0<=d)&&ao (d<(ae a.2.2.2.2.2.2.2.2.2.2.1:aw))) (af (a.2.2.2.2.2.2.2.2.2.2.1[d.toNat]?) λf=>ite (ao (ae e+1<lim)) (Cq (aj ak (d+1)) a c ((tk e)++ [f.1])) au) au) (af (ow (tk e) c.1 8) λb=>ite (b.2==0) (ite (ao (0<=b.1)&&ao (b.1<=(ae a.2.2.2.2.2.2.2.2.2.2.1:aw))) (ite (ao (0+ae (a.2.2.2.2.2.2.2.2.2.2.1.take b.1.toNat)<lim)) (ite (ao (ae ([]++(a.2.2.2.2.2.2.2.2.2.2.1.take b.1.toNat))+1<lim)) (ite (ao (0<=b.1)&&ao (b.1<=(ae a.2.2.2.2.2.2.2.2.2.2.1:aw))) (ite (ao (ae ((([]++(a.2.2.2.2.2.2.2.2.2.2.1.take b.1.toNat)).take (ae ([]++(a.2.2.2.2.2.2.2.2.2.2.1.take b.1.toNat))))++ [c])+ae ((nu b.1.toNat a.2.2.2.2.2.2.2.2.2.2.1).take (ae a.2.2.2.2.2.2.2.2.2.2.1-b.1.toNat))<lim)) (ai (b.2,((tk a.1),(tk a.2.1),a.2.2.1,a.2.2.2.1,a.2.2.2.2.1,a.2.2.2.2.2.1,a.2.2.2.2.2.2.1,(tk a.2.2.2.2.2.2.2.1),(tk a.2.2.2.2.2.2.2.2.1),(tk a.2.2.2.2.2.2.2.2.2.1),(((((([]++(a.2.2.2.2.2.2.2.2.2.2.1.take b.1.toNat)).take (ae ([]++(a.2.2.2.2.2.2.2.2.2.2.1.take b.1.toNat))))++ [c]).take (ae ((([]++(a.2.2.2.2.2.2.2.2.2.2.1.take b.1.toNat)).take (ae ([]++(a.2.2.2.2.2.2.2.2.2.2.1.take b.1.toNat))))++ [c])))++((nu b.1.toNat a.2.2.2.2.2.2.2.2.2.2.1).take (ae a.2.2.2.2.2.2.2.2.2.2.1-b.1.toNat))).take (ae ((((([]++(a.2.2.2.2.2.2.2.2.2.2.1.take b.1.toNat)).take (ae ([]++(a.2.2.2.2.2.2.2.2.2.2.1.take b.1.toNat))))++ [c]).take (ae ((([]++(a.2.2.2.2.2.2.2.2.2.2.1.take b.1.toNat)).take (ae ([]++(a.2.2.2.2.2.2.2.2.2.2.1.take b.1.toNat))))++ [c])))++((nu b.1.toNat a.2.2.2.2.2.2.2.2.2.2.1).take (ae a.2.2.2.2.2.2.2.2.2.2.1-b.1.toNat))))),a.2.2.2.2.2.2.2.2.2.2.2.1,()))) au) au) au) au) au)<|ai (b.2,(bI a))):=bB
def Fk:=K 1165 [mS] [.d aR,mB] "13pvlzChc4kDJcBdqIUpYvoDvPIJ6TEXK3cM0uKC4T0MpWdPEYzorzlRMiJbbjc7lgUhdhmtIqrCkgIj23yJCkQRnALic6i4NPifL0cPRhMwLjN8syhM6YmGaNrPCfhD70DEZzUeo3DcY9KDAOkICTcsaVDwTGX9CD3tiuvkNNHmrLsM973QNqMAbU" [jj.p,Bw.p,jX.p]
def Ln(a:ah ay):aq (aR.ty×aW):=Fk.c.f (a,())
def VY(a:aR.ty)(b:ah (ah ay))(c:ah aw):aq (aR.ty×aW):=Fk.g 0x165e71c7f5ea [] [aR.v a,.sl eS b,.sl eI c]
def ak9(c:_):Ln c=af (mq c 32) λa=>ite ((ae a:aw) !=3) (ai (([],[],0,0,0,()),aA))<|ite (ao (2<(ae a:aw))) (af (a[2]?) λd=>af (om d) λb=>ite (!b.2) (ai (([],[],0,0,0,()),aA))<|ite ((ae b.1:aw) !=3) (ai (([],[],0,0,0,()),aA))<|VY ([],[],0,0,0,()) a b.1) au:=bh
def aco(h b a:_):VY h b a=ite (ao (0<(ae b:aw))) (af (b[0]?) λc=>ite (ao (1<(ae b:aw))) (af (b[1]?) λd=>ite (ao (0<(ae a:aw))) (af (a[0]?) λe=>ite (ao (1<(ae a:aw))) (af (a[1]?) λf=>ite (ao (2<(ae a:aw))) (af (a[2]?) λg=>af (yO (c,d,e,f,g,())) λi=>ite (!i) (ai (([],[],0,0,0,()),aA))<|ai ((c,d,e,f,g,()),aB)) au) au) au) au) au:=bB
def p8:=K 1164 [.d (.one (.sl aR)),.d aR] [.tok aR,mI] "1GUm0slBL4nI0omQdnARbBLb8RgmY11lyQivEdhbqChE8GNEZw5EBl3ChlAZ069rHWf7Do0cErkN2306H4CGDPnp4ITk5LMK5mewITG3O4aksMgUvxTPmQfTO45fwe9N8HJZAtQRQCyRZPTVNE3oThL4UM9peTV5PU0UBtItwdeiL7hxaeIBG2MHebUb7" [qM.p,Bw.p]
def Q4(a:ah aR.ty)(b:aR.ty):aq (ah aR.ty×aw):=p8.c.f (a,b,())
def zL(a:ah aR.ty)(b:aw)(c:aR.ty):aq (ah aR.ty×aw):=p8.g 0xe954f730980 [.sl aR a,vI b] [aR.v c]
def zM(a:ah aR.ty)(b:aw)(c:aR.ty):aq (ah aR.ty×aw):=p8.g 0x6de16c4 [.sl aR a,vI b] [aR.v c]
def tg(a:ah aR.ty)(b:aw)(c:aR.ty):aq (ah aR.ty×aw):=p8.g 0x6de16cd [.sl aR a,vI b] [aR.v c]
def ahs(a b:_):Q4 a b=af (vf a) λc=>ite (!c) (ai ([],1))<|af (yO b) λd=>ite (!d) (ai ([],2))<|zL a 0 b:=bh
def Km(b a c:_):zL b a c=ite (ao (a<(ae b:aw))) (ite (ao (0<=a)) (af (b[a.toNat]?) λd=>ite (dB d.1 c.1) (zL b (aj ak (a+1)) c)<|zM b a c) au) (zM b a c):=bB
def Z5(b a c:_):zM b a c=ite (ao (a<(ae b:aw))) (ite (ao (0<=a)) (af (b[a.toNat]?) λd=>ite (d.1==c.1) (ai ([],4))<|tg b a c) au) (tg b a c):=bB
def Kn(b a c:_):tg b a c=ite ((ae b:aw)==12) (ai ([],5)) (ite (ao (0<=a)&&ao (a<=(ae b:aw))) (ite (ao (0+ae (b.take a.toNat)<lim)) (ite (ao (ae ([]++(b.take a.toNat))+1<lim)) (ite (ao (0<=a)&&ao (a<=(ae b:aw))) (ite (ao (ae ((([]++(b.take a.toNat)).take (ae ([]++(b.take a.toNat))))++ [c])+ae (b.drop a.toNat)<lim)) (ai ((((((([]++(b.take a.toNat)).take (ae ([]++(b.take a.toNat))))++ [c]).take (ae ((([]++(b.take a.toNat)).take (ae ([]++(b.take a.toNat))))++ [c])))++(b.drop a.toNat)).take (ae ((((([]++(b.take a.toNat)).take (ae ([]++(b.take a.toNat))))++ [c]).take (ae ((([]++(b.take a.toNat)).take (ae ([]++(b.take a.toNat))))++ [c])))++(b.drop a.toNat)))),0)) au) au) au) au) au):=bB
def Fs:=K 1104 [.box bn,mS,mS] [kS,mB] "Al60xOuq5lKMJ7RTs2Lb9BpbbBu7sCWOHfwSp08kcF5ANsq8Ix3wtIbbRF9UkzWN1Iw2m5VcrJwvlb5cJBDD2ujN3ErEBd0ipPCJDfge4gERa874RMOGPyGKMnMbzCiYOLfrd06fgEhifzEZb83ZpnONngPFMnaRVt9kDNIGClnlRB6Sx9v2gkCTMQgID1K045YhcHVjcBMx5VBRaQ7PIspWmIfNoTaccKFaEKyQ6zPWV37fcCheCHpwyPv1fjnbl1IF5FWFRi0rbyeGHGE4mgrtDDkbvAVaq15t1NPT71cIcRP5f2hFuXv7ZywFMnZt" [rG.p,If.p,NP.p,Fp.p,NS.p,Fw.p,NU.p,p8.p,Fk.p] [.box bn]
def afr(a:bn.ty)(b d:ah ay):aq (ah (ah ay)×aW×bn.ty):=Fs.c.f (a,b,d,())
def JQ(a:aw)(b:bn.ty):aq (ah (ah ay)×aW×bn.ty):=Fs.g 0x3b61f0f5dc7a4580994e233c3 [vI a] [bn.v b]
def wa(a b c:_):afr a b c=ite (b==[112,111,116]) (af (Lk c) λe=>ite (!e.2) (ai ([],aA,(bI a)))<|af (Yy (bI a) e.1) λf=>af (lx f.1) λl=>ai ((tk l),aB,(bI f.2))) (ite (b==[109,111,100,101]) (af (Ll c) λg=>ite (!g.2) (ai ([],aA,(bI a)))<|af (UR (bI a) g.1) λh=>af (lx h.1) λm=>ai ((tk m),aB,(bI h.2)))<|ite (b==[119,111,114,107]) (af (Lm c) λi=>ite (!i.2) (ai ([],aA,(bI a)))<|af (UT (bI a) i.1) λj=>af (lx j.1) λo=>ai ((tk o),aB,(bI j.2)))<|ite (b==[112,97,112,101,114]) (af (Ln c) λk=>ite (!k.2) (ai ([],aA,(bI a)))<|af (Q4 a.2.2.2.2.2.2.2.2.2.2.2.1 k.1) λd=>ite (d.2==0) (JQ d.2 (a.1,a.2.1,a.2.2.1,a.2.2.2.1,a.2.2.2.2.1,a.2.2.2.2.2.1,a.2.2.2.2.2.2.1,a.2.2.2.2.2.2.2.1,a.2.2.2.2.2.2.2.2.1,a.2.2.2.2.2.2.2.2.2.1,a.2.2.2.2.2.2.2.2.2.2.1,(tk d.1),()))<|JQ d.2 a)<|ai ([],aA,(bI a))):=bh
def acs(a b:_):JQ a b=af (lx a) λc=>ai ((tk c),aB,(bI b)):=bB
def N9:=K 1010 [.box bn,mS,mS] [kS,mB] "GymNL8ogqyY1CjSkqD1Zzzkp4puz5LfeDogi1z5zoddMX5x9SEUvlLF0IE3AFa89BT5tEdcGfrSifBOIVhUAkFAJ0BgaoDRphw776pNVT0KYwYvDYgSvmwZiZH0wswpsFa9vW2XMt8NTLVI5TfdXH6qGb7KQPjfwKset8XiJj8ZKstIEDmQkvenstqKHvXwTwPhbWp1ywGq5c5PS0Bqy7CEUionNeIFMOgezF2Zc7wyDIXPhL3ZvdEsCqYi5af4tnv5Rp8LTghPiFHI4hTQFSXhvCvWsMIRoQkyIS6NvIobGQQkf6lM5xtZnNCPjBliHNuoyKe2OcYLDqQrk6stKM6uUBbsYZhGy9i1U2" [rG.p,Fs.p,Cp.p,EZ.p,Ig.p,Ny.p,E7.p,E9.p,Ie.p,NK.p] [.box bn]
def vk(a:bn.ty)(b d:ah ay):aq (ah (ah ay)×aW×bn.ty):=N9.c.f (a,b,d,())
def jl(a b c:_):vk a b c=ite (b==[115,116,97,99,107]) (af (Lb c) λg=>ite (!g.2) (ai ([],aA,(bI a)))<|af (Rm (bI a) g.1) λh=>af (lx h.1) λm=>ai ((tk m),aB,(bI h.2))) (ite (b==[114,105,98]) (af (Lc c) λi=>ite (!i.2) (ai ([],aA,(bI a)))<|af (Yz (bI a) i.1) λj=>af (lx j.1) λo=>ai ((tk o),aB,(bI j.2)))<|ite (b==[112,108,97,116,101]) (af (Ld c) λe=>ite e.2 (ai ([[111,107]],e.2,((tk a.1),(tk a.2.1),e.1,a.2.2.2.1,a.2.2.2.2.1,a.2.2.2.2.2.1,a.2.2.2.2.2.2.1,(tk a.2.2.2.2.2.2.2.1),(tk a.2.2.2.2.2.2.2.2.1),(tk a.2.2.2.2.2.2.2.2.2.1),(tk a.2.2.2.2.2.2.2.2.2.2.1),a.2.2.2.2.2.2.2.2.2.2.2.1,())))<|ai ([[111,107]],e.2,(bI a)))<|ite (b==[110,101,99,107]) (af (Lf c) λd=>ite d.2 (ai ([[111,107]],d.2,((tk a.1),(tk a.2.1),a.2.2.1,d.1.1,d.1.2.1,d.1.2.2.1,d.1.2.2.2.1,(tk a.2.2.2.2.2.2.2.1),(tk a.2.2.2.2.2.2.2.2.1),(tk a.2.2.2.2.2.2.2.2.2.1),(tk a.2.2.2.2.2.2.2.2.2.2.1),a.2.2.2.2.2.2.2.2.2.2.2.1,())))<|ai ([[111,107]],d.2,(bI a)))<|ite (b==[112,101,103]) (af (Lj c) λk=>ite (!k.2) (ai ([],aA,(bI a)))<|af (Yx (bI a) k.1) λl=>af (lx l.1) λp=>ai ((tk p),aB,(bI l.2)))<|af (afr (bI a) b c) λf=>ai ((tk f.1),f.2.1,(bI f.2.2))):=bh
def Nx:=K 491 [mI] [mB] "v1m5hgCkv88sr3" [cN.p]
def afd(a:aw):aq aW:=Nx.c.f (a,())
def akL(a:_):afd a=af (cV a 0 4000) λb=>ai b:=bh
def kD:=K 16 [mI,mI] [mI] "ppI7qdfSB3U5r3mDMspmhhKY6eoE71ErTwyrsli5gY1W4NZY3GNNk0K5g59C5YcN4ZiY8o"
def qJ(a b:aw):aq aw:=kD.c.f (a,b,())
def Np(a b:aw):aq aw:=kD.g 0x81 [vI a,vI b]
def an8(b a:_):qJ b a=ite (ao (a<0)) (Np (aj ak (0-b)) (aj ak (0-a))) (Np b a):=bh
def ae6(b a:_):Np b a=ite (ao (b<0)) (ite (ao (aj ak (2*a)=0)) au<|ai (aj ak (0-(aj ak ((aj ak (a-(aj ak (2*b)))).tdiv (aj ak (2*a))))))) (ite (ao (aj ak (2*a)=0)) au<|ai (aj ak ((aj ak ((aj ak (2*b))+a)).tdiv (aj ak (2*a))))):=bB
def ES:=K 853 [mI,mI,mI,mI,mI] [mI] "RGUpJi8Y5P6Qce16q9tjkn8iHnIxtJdgzkXQcKHDARmc34i0QDfJHvbv7ZjmeJ2v9dz0MDW" [kD.p]
def La(a b d e g:aw):aq aw:=ES.c.f (a,b,d,e,g,())
def VN(a b c d e:aw):aq aw:=ES.g 0x81 [vI a,vI b,vI c,vI d,vI e]
def akH(a b c e d:_):La a b c e d=ite (ao (d<=a)) (ai b) (ite (ao (c<=a)) (ai b)<|VN a b c e d):=bh
def acf(a b c d e:_):VN a b c d e=ite (ao (e>=c)) (ai d) (af (qJ (aj ak ((aj ak (d-b))*(aj ak (e-a)))) (aj ak (c-a))) λf=>ai (aj ak (b+f))):=bB
def EX:=K 488 [mI] [mI] "DccTRpGX2ETWZOdeJZ4ZcpRUWpQ2JPkTpUEB1B8hcVotHp1bH3RWkCIxenN0T5SGr7IIwQYpM6jRiKykvR7YzlHaH18P20c1L6LjOrney5gtAPw9Zwz3DcWwZd9imnvRbI" [ES.p]
def Uz(a:aw):aq aw:=EX.c.f (a,())
def JK(a b:aw)(c d:ah aw):aq aw:=EX.g 0x14021d34414da [vI a,vI b] [.sl eI c,.sl eI d]
def akM(a:_):Uz a= JK a 1 [0,300,600,800,1000] [0,60,110,160,280]:=bh
def uY(d a b c:_):JK d a b c=ite (ao (a<(ae b:aw))) (ite (ao (0<=a)&&ao (a<(ae b:aw))) (af (b[a.toNat]?) λe=>ite (ao (d<=e)) (ite (ao (0<=aj ak (a-1))&&ao (aj ak (a-1)<(ae b:aw))) (af (b[(aj ak (a-1)).toNat]?) λf=>ite (ao (0<=aj ak (a-1))&&ao (aj ak (a-1)<(ae c:aw))) (af (c[(aj ak (a-1)).toNat]?) λg=>ite (ao (0<=a)&&ao (a<(ae b:aw))) (af (b[a.toNat]?) λh=>ite (ao (0<=a)&&ao (a<(ae c:aw))) (af (c[a.toNat]?) λi=>af (La f g h i d) λj=>ai j) au) au) au) au)<|JK d (aj ak (a+1)) b c) au) (ai 280):=bB
def Ho:=K 852 [mI,mI,mI] [mI] "1fvpme9dnF4sAkhpXetJXRmxDjq" [kD.p]
def Nw(a b d:aw):aq aw:=Ho.c.f (a,b,d,())
def afb(a b c:_):Nw a b c=af (qJ (aj ak (20*(aj ak (b-a)))) (aj ak (c+20))) λd=>ai d:=bh
def Ca:=K 489 [mI,mI,mI,mI] [mI] "tzF1kf15QiFG8sEzYXxhSaew9hrtYbjBBh7i1jwuuyXCz6wukyEfCfdNBD0xEHk" [Ho.p]
def Bh(a b d e:aw):aq aw:=Ca.c.f (a,b,d,e,())
def zS(a b c d e:aw):aq aw:=Ca.g 0xe0f85a [vI a,vI b,vI c,vI d,vI e]
def ahz(a b c d:_):Bh a b c d=zS a b c d 0:=bh
def Kr(a b c d e:_):zS a b c d e=ite (ao (e<d)) (af (Nw a b c) λf=>ite (f==0) (ai a)<|zS (aj ak (a+f)) b c d (aj ak (e+1))) (ai a):=bB
def pq:=K 1115 [.d (.one (.sl aZ)),mI,mI,mI] [kI,mI] "RxNELLs0gBirilc16E85YkPQrh3IF2hXFPE7ljCSRglYCSQrOTnBu48vjRBqoiO4w9jDsHxb9s6kZYHsEXxABMIHSwQc7YwkNC2mkCd7fz4RxtTFeyCXQrvyrjqMhp4ux6BXV7jTgTAF0DgiBa8YBV41s3diteCBRAm5T12UvPkB0yDLK2Bw3mhZH7" [EX.p,Ca.p,Cb.p,Nx.p,HW.p,EY.p]
def Hl(a:ah aZ.ty)(b d e:aw):aq (ah aw×aw):=pq.c.f (a,b,d,e,())
def Kp(a:ah aZ.ty)(b c d:aw):aq (ah aw×aw):=pq.g 0x129 [.sl aZ a,vI b,vI c,vI d]
def kW(a:ah aZ.ty)(b c d e:aw)(f:ah aw):aq (ah aw×aw):=pq.g 0x5b5df133a5f [.sl aZ a,vI b,vI c,vI d,vI e] [.sl eI f]
def aab(a b c d:_):Hl a b c d=af (UA a) λe=>ite (!e) (ai ([],1))<|af (HY b) λf=>ite (!f) (ai ([],2))<|af (Yh c) λg=>ite (!g) (ai ([],2))<|af (HY d) λh=>ite (!h) (ai ([],2))<|Kp a b c d:=bh
def Ux(a b c d:_):Kp a b c d=kW a b c d 0 []:=bB
def EL(b e c f a d:_):kW b e c f a d=ite (ao (a<(ae b:aw))) (ite (ao (0<=a)) (af (b[a.toNat]?) λg=>af (afd (aj ak (c-g.2.2.2.1))) λh=>ite h (af (Uz e) λi=>af (Bh g.2.1 i g.2.2.1 (aj ak (c-g.2.2.2.1))) λj=>ite (ao (j<=f)) (ite (ao (ae d+1<lim)) (kW b e c f (aj ak (a+1)) ((tk d)++ [a])) au)<|kW b e c f (aj ak (a+1)) d)<|kW b e c f (aj ak (a+1)) d) au) (ai ((tk d),0)):=bB
def tp:=K 963 [Wg] [mS] "jVlpTnBxtscetFZ8y2QSsDW3EnsEFStLHWGWdtZggp77lr5CHQey2Xq6FHTqe6u5BzhkYK7cGfA" [jR.p]
def EU(a:ah aw):aq (ah ay):=tp.c.f (a,())
def B9(a:ah aw)(b:ah ay)(c:aw):aq (ah ay):=tp.g 0xaca914c [.sl eI a,vS b,vI c]
def JI(a:ah aw)(b:ah ay)(c:aw):aq (ah ay):=tp.g 0x4c1eafc5b38e [.sl eI a,vS b,vI c]
def akJ(a:_):EU a=ite ((ae a:aw)==0) (ai [45]) (B9 a [] 0):=bh
def CV(c a b:_):B9 c a b=ite (ao (b<(ae c:aw))) (ite (ao (b>0)) (ite (ao (ae a+ [44].length<=cQ)) (JI c (a++ [44]) b) au)<|JI c a b) (ai a):=bB
def Nq(b c a:_):JI b c a=ite (ao (0<=a)) (af (b[a.toNat]?) λe=>af (lq e) λd=>ite (ao (ae c+ae d<=cQ)) (B9 b (c++d) (aj ak (a+1))) au) au:=bB
def Fo:=K 1114 [Wg,mI] [kS] "529DzcK6ACpnw0SqajCBBB" [tp.p,rF.p]
def kP(a:ah aw)(b:aw):aq (ah (ah ay)):=Fo.c.f (a,b,())
def alf(a b:_):kP a b=af (EU a) λc=>af (lu [c] b) λd=>ai (tk d):=bh
def Ra:=K 496 [mI] [mB] "6eVRaI3XrQJ7CG" [cN.p]
def aiW(a:aw):aq aW:=Ra.c.f (a,())
def aoh(a:_):aiW a=af (cV a 0 1000) λb=>ai b:=bh
def wA:=K 17 [mI,mI] [mI] "1FS8TsQqCEtwxeQtzma5TLQ"
def yH(a b:aw):aq aw:=wA.c.f (a,b,())
def an6(a b:_):yH a b=ite (ao (a>b)) (ai a) (ai b):=bh
def Lh:=K 799 [.p aZ,mI] [mI] "I0wTRGV2kymbobuszUGWBeeZeccrCQDmNFp3JCDU" [wA.p]
def UG(a:aZ.ty)(b:aw):aq aw:=Lh.c.f (a,b,())
def apY(a b:_):UG a b=af (yH 0 (aj ak (b-a.2.1))) λc=>ite (ao (aj ak (c*a.2.2.2.1)>a.2.2.1)) (ai (-1))<|ai (aj ak (c*a.2.2.2.1)):=bh
def Bf:=K 855 [Wg,mI] [mB] "9ouue8HmaOSncZXs64RN5LZgiB0QzEPbBuJIB8O15O0vglq"
def Yd(a:ah aw)(b:aw):aq aW:=Bf.c.f (a,b,())
def EO(a:ah aw)(b c:aw):aq aW:=Bf.g 0xe0f81a [.sl eI a,vI b,vI c]
def an5(a b:_):Yd a b= EO a b 0:=bh
def Qa(b c a:_):EO b c a=ite (ao (a<(ae b:aw))) (ite (ao (0<=a)) (af (b[a.toNat]?) λd=>ite (d==c) (ai aB)<|EO b c (aj ak (a+1))) au) (ai aA):=bB
def oq:=K 854 [Wg] [kI] "E17mO8LSw7OJIxyXEpCy"
def qI(a:ah aw):aq (ah aw):=oq.c.f (a,())
def Ye(a:_):qI a=ite (ao (0+ae a<lim)) (ai (([]++a).take (ae ([]++a)))) au:=bh
def Bn:ax->Hv [.d (.one (.sl aZ)),Wg,mI,.l7 (.one (.int .i64))]->aq (Ts ([kI,mB]++ [.gone])) |0=>λ_=>au |n+1=>(K 494 [.d (.one (.sl aZ)),Wg,mI,.l7 (.one (.int .i64))] [kI,mB] "IzaGzeACrgaXsAKxlmV9V84zVzDljbwZWPeNrBxbM4ZBzB9rbMJFxp14LmSlaABnvDK9I4baXwNKApCxJTc2kAhF2lKv1apbEef2r1EovjRYLLKQkeX091a4zeoL2kHj1g68jOKn2hH55HHlehZBUw4DQRJA3Ux4SpySZJp0ECk9a6CNwUvHV" [(494,⟨[aA,aA,aA,aB],[.d (.one (.sl aZ)),Wg,mI,.l7 (.one (.int .i64))],[kI,mB],[.gone],Bn n⟩),Lh.p,oq.p,Bf.p] [.gone]).c.f
def wB(n:ax):=K 494 [.d (.one (.sl aZ)),Wg,mI,.l7 (.one (.int .i64))] [kI,mB] "IzaGzeACrgaXsAKxlmV9V84zVzDljbwZWPeNrBxbM4ZBzB9rbMJFxp14LmSlaABnvDK9I4baXwNKApCxJTc2kAhF2lKv1apbEef2r1EovjRYLLKQkeX091a4zeoL2kHj1g68jOKn2hH55HHlehZBUw4DQRJA3Ux4SpySZJp0ECk9a6CNwUvHV" [(494,⟨[aA,aA,aA,aB],[.d (.one (.sl aZ)),Wg,mI,.l7 (.one (.int .i64))],[kI,mB],[.gone],Bn n⟩),Lh.p,oq.p,Bf.p] [.gone]
def aaZ:Callee:=⟨[aA,aA,aA,aB],[.d (.one (.sl aZ)),Wg,mI,.l7 (.one (.int .i64))],[kI,mB],[.gone],Bn 1000⟩
def aaY(n:ax):Callee:=⟨[aA,aA,aA,aB],[.d (.one (.sl aZ)),Wg,mI,.l7 (.one (.int .i64))],[kI,mB],[.gone],Bn n⟩
def ahG(n:ax):aaY (n+1)=(wB n).c:=by kernel_rfl
def Qe(n:ax)(a:ah aZ.ty)(b:ah aw)(c:aw)(d:ah aw):aq (ah aw×aW×mW):=Bn n (a,b,c,d,())
def pt(n:ax)(a:ax)(b:ah aZ.ty)(c:ah aw)(d e f:aw)(h:ah aw):aq (ah aw×aW×mW):=(wB n).g 0x175756a1e1f [.sl aZ b,.sl eI c,vI d,vI e,vI f] [.sl eI h] [a]
def Yr(n:ax)(a:ax)(b:ah aZ.ty)(c:ah aw)(d e f:aw)(h:ah aw):aq (ah aw×aW×mW):=(wB n).g 0xa4a4b5de9796b64 [.sl aZ b,.sl eI c,vI d,vI e,vI f] [.sl eI h] [a]
def Yq(n:ax)(e d g a:_):Qe (n+1) e d g a=
 if((ae a:aw)==(ae d:aw))then
  ai ((tk a),aB,())
 else
  pt n (ae a) e d g (ae a:aw) 0 a:=Tv (b:=(wB n).c.f (e,d,g,a,())) (by kernel_rfl) bh
def Qf(n:ax)(g:ax)(b d e c a f:_):pt n g b d e c a f=ite (ao (a<(ae b:aw))) (ite (ao (0<=a)) (af (b[a.toNat]?) λi=>ite (ao (0<=c)) (af (d[c.toNat]?) λj=>af (UG i j) λh=>af (Yd (tk f) a) λk=>ite k (pt n g b d e c (aj ak (a+1)) f)<|ite (ao (h<0)) (pt n g b d e c (aj ak (a+1)) f)<|ite (ao (h>e)) (pt n g b d e c (aj ak (a+1)) f)<|Yr n g b d e c a f) au) au) (ai ([],aA,())):=bB
def afj(n:ax)(g:ax)(c d e h a f:_):Yr n g c d e h a f=af (qI (tk f)) λb=>ite (ao (ae b+1<lim)) (ite (ao (ae (b++ [a])=ae (b++ [a]))) (af (Qe n c d e (b++ [a])) λi=>ite i.2.1 (ai ((tk i.1),aB,()))<|pt n g c d e h (aj ak (a+1)) f) au) au:=bB
def yD:=K 125 [.d (.one (.sl aZ)),Wg,mI] [kI,mI] "1CAy7Kpv3RahX21uhkQhDFIcSiKfbUNn9zKzMJUA9JgkSGVLSpmIj32EpTjYiMLIu822KOLGmqOikRttWmBCXb2hndkZzUGjmKGu4kiK6SQuvS1mjXlmQKQhZJBf7nIQERNKMMyBtZOA25EOP8YCHm0xXnRpUdq" [(494,aaZ),Fa.p,Ra.p,Fb.p]
def Uw(a:ah aZ.ty)(b:ah aw)(d:aw):aq (ah aw×aw):=yD.c.f (a,b,d,())
def VK(a:ah aZ.ty)(b:ah aw)(c:aw):aq (ah aw×aw):=yD.g 0x129 [.sl aZ a,.sl eI b,vI c]
def BY(a:ah aZ.ty)(b:ah aw)(c d:aw):aq (ah aw×aw):=yD.g 0xaccca51 [.sl aZ a,.sl eI b,vI c,vI d]
def akD(a b c:_):Uw a b c=af (UH a) λd=>ite (!d) (ai ([],1))<|af (aiW c) λe=>ite (!e) (ai ([],2))<|ite (ao ((ae b:aw)>8)) (ai ([],2))<|VK a b c:=bh
def ab8(a b c:_):VK a b c= BY a b c 0:=bB
def ab9(c a d b:_):BY c a d b=ite (ao (b<(ae a:aw))) (ite (ao (0<=b)) (af (a[b.toNat]?) λf=>af (Lg f) λg=>ite (!g) (ai ([],2))<|BY c a d (aj ak (b+1))) au) (ite ((ae a:aw) !=(ae c:aw)) (ai ([],7))<|af (Qe 1000 c a d []) λe=>ite (!e.2.1) (ai ([],3))<|ai ((tk e.1),0)):=bB
def Ck:=K 1170 [Wg] [mB] "2eBy7pH46EvFoGu44rdHoEllXPmTzqlhhoqJje3SYuxkQbbs" [Cj.p]
def Rc(a:ah aw):aq aW:=Ck.c.f (a,())
def tw(a:ah aw)(b:aw):aq aW:=Ck.g 0xe0f81a [.sl eI a,vI b]
def ahI(a:_):Rc a=tw a 0:=bh
def aac(a b:_):tw a b=ite (ao (b<(ae a:aw))) (ite (ao (0<=b)) (af (a[b.toNat]?) λc=>af (Bq c) λd=>ite (!d) (ai aA)<|tw a (aj ak (b+1))) au) (ai (ao ((ae a:aw)<=10))):=bB
def Fc:=K 1169 [.d (.one (.sl cx))] [kI] "6n1wGRcLZfSNGRooipGeRWgIXpvugIBDlZOS4wlO1KUDxPj20vcpowk5dVnhZVbscRvlhUsLk"
def UI(a:ah cx.ty):aq (ah aw):=Fc.c.f (a,())
def Ci(a:ah cx.ty)(b:aw)(c:ah aw):aq (ah aw):=Fc.g 0x65ea31e0e0 [.sl cx a,vI b] [.sl eI c]
def akY(a:_):UI a= Ci a 0 []:=bh
def NL(b a c:_):Ci b a c=ite (ao (a<(ae b:aw))) (ite (ao (0<=a)) (af (b[a.toNat]?) λd=>ite (ao (0<=a)) (af (b[a.toNat]?) λe=>ite (ao (ae c+1<lim)) (Ci b (aj ak (a+1)) ((tk c)++ [aj ak (d.2.1+e.2.2.1)])) au) au) au) (ai (tk c)):=bB
def zU:=K 50 [.p cx] [mI] "3czq365tzBaL2B5wzw0GYlGbHgqraOAjXN2gRMe2QcErGZEXvJZJ" [kD.p,wA.p]
def Ff(a:cx.ty):aq aw:=zU.c.f (a,())
def afm(a:_):Ff a=af (qJ (aj ak (1000*a.2.1)) (aj ak (a.2.1+a.2.2.1))) λb=>af (yH 0 (aj ak (a.2.2.2.1-70))) λc=>af (yH 0 (aj ak ((aj ak (b-(aj ak (2*a.2.2.2.2.1))))-(aj ak (10*c))))) λd=>ai d:=bh
def mT:ax->Hv [.box et,mI]->aq (Ts ([]++ [.box et])) |0=>λ_=>au |n+1=>(K 1168 [.box et,mI] [] "2ka3nnP4TJBdmmRzXNzVMjJuQiyIN5MGg44ipgoMsxMAiXWpaRRULvUcUOqYlfvoD8cCWmeFXhtdYNj4dO3yEyUzhf3hzOCnhtLogVL0ZZY6KmegmhKaQxFKqdaLB45GkJlRlOFLWK5U43u2utUozuA7mLHVPoPFChk2jZ6IDRayxddxefbShMYfA7YnauSNJNRQaiMk8zQlufCot0YhY5PAzNAkwWZU3xqrlAdogDPpdO" [zU.p,oq.p,(1168,⟨[aB,aA],[.box et,mI],[],[.box et],mT n⟩)] [.box et]).c.f
def kn(n:ax):=K 1168 [.box et,mI] [] "2ka3nnP4TJBdmmRzXNzVMjJuQiyIN5MGg44ipgoMsxMAiXWpaRRULvUcUOqYlfvoD8cCWmeFXhtdYNj4dO3yEyUzhf3hzOCnhtLogVL0ZZY6KmegmhKaQxFKqdaLB45GkJlRlOFLWK5U43u2utUozuA7mLHVPoPFChk2jZ6IDRayxddxefbShMYfA7YnauSNJNRQaiMk8zQlufCot0YhY5PAzNAkwWZU3xqrlAdogDPpdO" [zU.p,oq.p,(1168,⟨[aB,aA],[.box et,mI],[],[.box et],mT n⟩)] [.box et]
def I6:Callee:=⟨[aB,aA],[.box et,mI],[],[.box et],mT 1000⟩
def I5(n:ax):Callee:=⟨[aB,aA],[.box et,mI],[],[.box et],mT n⟩
def Ti(n:ax):I5 (n+1)=(kn n).c:=by kernel_rfl
def vd(n:ax)(a:et.ty)(b:aw):aq (et.ty):=mT n (a,b,())
def lG(n:ax)(a b c:aw)(d:ah cx.ty)(e:ah aw)(f h:ax)(i j k:aw)(l:aW)(m o p:ah aw):aq (et.ty):=(kn n).g 0x7a1e8644e0ea29772db6 [vI a,vI b,vI c] [.sl cx d,.sl eI e,.view 1002 0 f,.view 1003 0 h,vI i,vI j,vI k,vB l,.sl eI m,.sl eI o,.sl eI p]
def Gj(n:ax)(a b c:aw)(d:ah cx.ty)(e:ah aw)(f h:ax)(i j k:aw)(l:aW)(m o p:ah aw):aq (et.ty):=(kn n).g 0x7a1e8644e0ea29772dbd [vI a,vI b,vI c] [.sl cx d,.sl eI e,.view 1002 0 f,.view 1003 0 h,vI i,vI j,vI k,vB l,.sl eI m,.sl eI o,.sl eI p]
def Gi(n:ax)(a d:_):vd (n+1) a d=
 if((ae a.2.2.2.1:aw)==(ae a.2.1:aw))then
  if ao (d>a.2.2.2.2.2.1)then
   af (qI (tk a.2.2.2.1)) λe=>
    ai (a.1,a.2.1,(tk a.2.2.1),(tk a.2.2.2.1),(tk e),d,a.2.2.2.2.2.2.1,a.2.2.2.2.2.2.2.1,a.2.2.2.2.2.2.2.2.1,())
  else
   ai (JU a)
 else
  lG n d (ae a.2.2.2.1:aw) 0 a.1 a.2.1 (ae a.2.2.1) (ae a.2.2.2.1) a.2.2.2.2.2.1 a.2.2.2.2.2.2.1 a.2.2.2.2.2.2.2.1 a.2.2.2.2.2.2.2.2.1 a.2.2.1 a.2.2.2.1 a.2.2.2.2.1:=Tv (b:=(kn n).c.f (a,d,())) (by kernel_rfl) bh
def rB(n:ax)(c d:ax)(m o l a e f g h b i j k:_):lG n m o l a e c d f g h b i j k=ite (ao (l<(ae a:aw))) (ite (!b) (Gj n m o l a e c d f g h b i j k)<|ai (a,e,(i.take c),(j.take d),(tk k),f,g,h,b,())) (ai (a,e,(i.take c),(j.take d),(tk k),f,g,h,b,())):=bB
def Rf(n:ax)(d f:ax)(l c a h g m i j p e k o:_):Gj n l c a h g d f m i j p e k o=ite (ao (0<=a)&&ao (a<(d:aw))) (af (e[a.toNat]?) λq=>ite (ao (0<=c)) (af (g[c.toNat]?) λr=>ite (ao (q<r)) (lG n l c (aj ak (a+1)) h g d f m i j p e k o)<|ite (i==j) (ai (h,g,(e.take d),(k.take f),(tk o),m,i,j,aB,()))<|ite (ao (0<=a)&&ao (a<(d:aw))) (af (e[a.toNat]?) λs=>ite (ao (0<=c)) (af (g[c.toNat]?) λt=>ite (ao (0<=a)&&ao (a<(d:aw))) (af (e[a.toNat]?) λy=>ite (ao (f+1<lim)) (ite (ao (0<=a)) (af (h[a.toNat]?) λu=>af (Ff u) λv=>af (vd n (h,g,((e.set a.toNat (aj ak (s-t))).take d),(((k.take f)++ [a]).take (ae ((k.take f)++ [a]))),(tk o),m,aj ak (i+1),j,p,()) (aj ak (l+v))) λb=>ite (ao (0<=c)&&ao (c<=(ae b.2.2.2.1:aw))) (ite (ao (0<=a)&&ao (a<(ae b.2.2.1:aw))) (af (b.2.2.1[a.toNat]?) λw=>ite (ao (0<=c)) (af (b.2.1[c.toNat]?) λx=>ite (ao (0<=a)&&ao (a<(ae b.2.2.1:aw))) (af (b.2.2.1[a.toNat]?) λz=>lG n l c (aj ak (a+1)) b.1 b.2.1 (ae b.2.2.1) c.toNat b.2.2.2.2.2.1 b.2.2.2.2.2.2.1 b.2.2.2.2.2.2.2.1 b.2.2.2.2.2.2.2.2.1 (b.2.2.1.set a.toNat (aj ak (w+x))) b.2.2.2.1 b.2.2.2.2.1) au) au) au) au) au) au) au) au) au) au) au:=bB
def xg:=K 1118 [.d (.one (.sl cx)),Wg,mI] [kI,mI,mI] "1VYIg4YOnumQA45QgRVcHEGN0btD0hOatjJVZNe2QHIXVBQn80ScbpbIOoXnmX0yy9jFBQ8qXc8oBwWEkOsg98cj5bu7My1IKaSxgEHNxGfkWnId99VoQbLN2d6CLcBEH6QlHlPVGIqijKeSVEANd6kbhHhnXBjVJ6zd5dI3goMIE5kkGoLDZZTDjeJsB" [cN.p,Fe.p,(1168,I6),Fc.p,Ck.p]
def JG(a:ah cx.ty)(b:ah aw)(d:aw):aq (ah aw×aw×aw):=xg.c.f (a,b,d,())
def Nd(a:ah cx.ty)(b:ah aw)(c:aw):aq (ah aw×aw×aw):=xg.g 0x129 [.sl cx a,.sl eI b,vI c]
def aca(a b c:_):JG a b c=af (UJ a) λd=>ite (!d) (ai ([],0,1))<|af (Rc b) λe=>ite (!e) (ai ([],0,2))<|af (cV c 1 20000) λf=>ite (!f) (ai ([],0,2))<|Nd a b c:=bh
def Ws(b c d:_):Nd b c d=af (UI b) λe=>af (vd 1000 (b,c,(tk e),[],[],(-1),0,d,aA,()) 0) λa=>ite a.2.2.2.2.2.2.2.2.1 (ai ([],0,5))<|ite (ao (a.2.2.2.2.2.1<0)) (ai ([],0,3))<|ai ((tk a.2.2.2.2.1),a.2.2.2.2.2.1,0):=bB
def NQ:=K 19 [mI] [mB] "GoTXy2LqTF691" [cN.p]
def afl(a:aw):aq aW:=NQ.c.f (a,())
def ak3(a:_):afl a=af (cV a 0 40) λb=>ai b:=bh
def NO:=K 18 [.p cx,mI] [mI] "2R6d0upfrlhkejfhmuKX4F8BNjO46iiS6vBg7So2ro1" [kD.p,wA.p]
def UK(a:cx.ty)(b:aw):aq aw:=NO.c.f (a,b,())
def ak0(a b:_):UK a b=af (qJ (aj ak (60*a.2.2.1)) a.2.1) λc=>af (yH 0 (aj ak ((aj ak ((aj ak (c+(aj ak (2*(aj ak (b-15))))))+a.2.2.2.1))-60))) λd=>ai d:=bh
def CU:=K 33 [.d cx,mI] [mI,mI] "SPVaVAZzVd9OcYfyWNn478FJBIml7hm91YzsHj22mWP" [NO.p,NQ.p,Bs.p]
def zO(a:cx.ty)(b:aw):aq (aw×aw):=CU.c.f (a,b,())
def Z8(a b:_):zO a b=af (Dr a) λc=>ite (!c) (ai (0,1))<|af (afl b) λd=>ite (!d) (ai (0,2))<|af (UK a b) λe=>ai (e,0):=bh
def zX:=K 1120 [mI,mI] [kS] "529DzcK6ACpnw0SqajCBBB" [jR.p,rF.p]
def kQ(a b:aw):aq (ah (ah ay)):=zX.c.f (a,b,())
def afs(a b:_):kQ a b=af (lq a) λc=>af (lu [c] b) λd=>ai (tk d):=bh
def Q6:=K 1199 [.d (.one (.sl be)),mI,mI] [mI] "4zlCQw1lLeDQjnxq6VJKIkT8El3zHvvPmDyOeCKmxo05W" [cN.p,E0.p]
def Yl(a:ah be.ty)(b d:aw):aq aw:=Q6.c.f (a,b,d,())
def aoa(a b c:_):Yl a b c=af (UB a) λd=>ite (!d) (ai 1)<|af (cV b 1 100000) λe=>ite (!e) (ai 2)<|af (cV c 0 100) λf=>ite (!f) (ai 2)<|ai 0:=bh
def Cd:=K 1198 [.d (.one (.sl be)),mI] [mI] "cMNwgl7LLEJC0j4i2MIJuIlWbDISve06QfNo9bJwdaJsQ7hyqa"
def Q7(a:ah be.ty)(b:aw):aq aw:=Cd.c.f (a,b,())
def zT(a:ah be.ty)(b c:aw):aq aw:=Cd.g 0xe0f81a [.sl be a,vI b,vI c]
def ahE(a b:_):Q7 a b=zT a b 0:=bh
def Kt(b c a:_):zT b c a=ite (ao (a<(ae b:aw))) (ite (ao (0<=a)) (af (b[a.toNat]?) λd=>ite (ao (d.2.1>c)) (ai 6)<|zT b c (aj ak (a+1))) au) (ai 0):=bB
def E5:=K 1214 [mI,mI,mI] [mI] "nvFsYK29mCI09VU8EhtypFAT"
def E4(a b d:aw):aq aw:=E5.c.f (a,b,d,())
def JM(b a c:_):E4 b a c=ite (b==0) (ai a) (ai (aj ak (a+c))):=bh
def mR:ax->Hv [.box dD,mI]->aq (Ts ([mB]++ [.box dD])) |0=>λ_=>au |n+1=>(K 1197 [.box dD,mI] [mB] "CbS7s7YFd7n4rWBGjcr1yJpgDXJWxhcCOnJMeQul0oklBsubuJm11usdSvF7cASkcCOuUtAXMcxJBwC8qnWcwceBRecgKqcHa5FFzQ54qmklyWirJclfNnMc3HFljrhlTxjR35eLfv3OXlwr6EjfERBh7KtxXpYXGOZupz54HUR82KxqcN6IR9jShMuxiM5dXyPWqhaTYu3iEf8wuMwuARM3ZDoNUZjc6jYiUERu7Wr7ZOVZhl3Aq8Hr8wMWDFOp" [(1197,⟨[aB,aA],[.box dD,mI],[mB],[.box dD],mR n⟩),E5.p] [.box dD]).c.f
def gR(n:ax):=K 1197 [.box dD,mI] [mB] "CbS7s7YFd7n4rWBGjcr1yJpgDXJWxhcCOnJMeQul0oklBsubuJm11usdSvF7cASkcCOuUtAXMcxJBwC8qnWcwceBRecgKqcHa5FFzQ54qmklyWirJclfNnMc3HFljrhlTxjR35eLfv3OXlwr6EjfERBh7KtxXpYXGOZupz54HUR82KxqcN6IR9jShMuxiM5dXyPWqhaTYu3iEf8wuMwuARM3ZDoNUZjc6jYiUERu7Wr7ZOVZhl3Aq8Hr8wMWDFOp" [(1197,⟨[aB,aA],[.box dD,mI],[mB],[.box dD],mR n⟩),E5.p] [.box dD]
def I3:Callee:=⟨[aB,aA],[.box dD,mI],[mB],[.box dD],mR 1000⟩
def I2(n:ax):Callee:=⟨[aB,aA],[.box dD,mI],[mB],[.box dD],mR n⟩
def Tc(n:ax):I2 (n+1)=(gR n).c:=by kernel_rfl
def uZ(n:ax)(a:dD.ty)(b:aw):aq (aW×dD.ty):=mR n (a,b,())
def iJ(n:ax)(a b c:aw)(d:ah be.ty)(e f h:aw)(i j:ax)(k l:aw)(m:aW)(o p:ah aw):aq (aW×dD.ty):=(gR n).g 0xf9eb5c7a83e89a661 [vI a,vI b,vI c] [.sl be d,vI e,vI f,vI h,.view 1004 0 i,.view 1005 0 j,vI k,vI l,vB m,.sl eI o,.sl eI p]
def Gh(n:ax)(a b c:aw)(d:ah be.ty)(e f h:aw)(i j:ax)(k l:aw)(m:aW)(o p:ah aw):aq (aW×dD.ty):=(gR n).g 0xf9eb5c7a83e89a668 [vI a,vI b,vI c] [.sl be d,vI e,vI f,vI h,.view 1004 0 i,.view 1005 0 j,vI k,vI l,vB m,.sl eI o,.sl eI p]
def wP(n:ax)(a b c d:aw)(e:ah be.ty)(f h i:aw)(j k:ax)(l m:aw)(o:aW)(p q:ah aw):aq (aW×dD.ty):=(gR n).g 0x29514144771dcec9a3f5b13 [vI a,vI b,vI c,vI d] [.sl be e,vI f,vI h,vI i,.view 1004 0 j,.view 1005 0 k,vI l,vI m,vB o,.sl eI p,.sl eI q]
def iK(n:ax)(a b c d e:aw)(f:ah be.ty)(h i j:aw)(k:ax)(l m:aw)(o:aW)(p q:ah aw):aq (aW×dD.ty):=(gR n).g 0x29b863dcdfb9198d7371b29717ca [vI a,vI b,vI c,vI d,vI e] [.sl be f,vI h,vI i,vI j,.view 1005 0 k,vI l,vI m,vB o,.sl eI p,.sl eI q]
def Gg(n:ax)(a d:_):uZ (n+1) a d=
 if((ae a.2.2.2.2.1:aw)==(ae a.1:aw))then
  ai (aB,(Cr a))
 else
  iJ n d (ae a.2.2.2.2.1:aw) 0 a.1 a.2.1 a.2.2.1 a.2.2.2.1 (ae a.2.2.2.2.1) (ae a.2.2.2.2.2.1) a.2.2.2.2.2.2.1 a.2.2.2.2.2.2.2.1 a.2.2.2.2.2.2.2.2.1 a.2.2.2.2.1 a.2.2.2.2.2.1:=Tv (b:=(gR n).c.f (a,d,())) (by kernel_rfl) bh
def mr(n:ax)(b c:ax)(m o d e f g a h i j k l:_):iJ n m o d e f g a b c h i j k l=ite (ao (d<a)) (ite (ao (d<=m)) (Gh n m o d e f g a b c h i j k l)<|ai (aA,(e,f,g,a,(k.take b),(l.take c),h,i,j,()))) (ai (aA,(e,f,g,a,(k.take b),(l.take c),h,i,j,()))):=bB
def Bk(n:ax)(j b:ax)(k c a e f g l h i o m d:_):Gh n k c a e f g l j b h i o m d=ite (ao (0<=a)&&ao (a<(b:aw))) (af (d[a.toNat]?) λq=>ite (ao (0<=c)) (af (e[c.toNat]?) λr=>af (E4 q r.2.1 g) λp=>ite (ao (0<=a)&&ao (a<(b:aw))) (af (d[a.toNat]?) λs=>ite (ao (aj ak (s+p)>f)) (iJ n k c (aj ak (a+1)) e f g l j b h i o m d)<|ite (h==i) (wP n k c a p e f g l j b h i aB m d)<|wP n k c a p e f g l j b h i o m d) au) au) au:=bB
def ru(n:ax)(e b:ax)(c p a f h i j k l m g o d:_):wP n c p a f h i j k e b l m g o d=ite g (ai (aA,(h,i,j,k,(o.take e),(d.take b),l,m,g,()))) (ite (ao (0<=a)&&ao (a<(b:aw))) (af (d[a.toNat]?) λq=>ite (ao (0<=a)&&ao (a<(b:aw))) (af (d[a.toNat]?) λr=>ite (ao (e+1<lim)) (ite (a==c) (iK n c p a f (aj ak (c+1)) h i j k b (aj ak (l+1)) m g ((o.take e)++ [a]) (d.set a.toNat (aj ak (q+f))))<|iK n c p a f c h i j k b (aj ak (l+1)) m g ((o.take e)++ [a]) (d.set a.toNat (aj ak (q+f)))) au) au) au):=bB
def Bl(n:ax)(d:ax)(e c b f g h i j k l m o p q:_):iK n e c b f g h i j k d l m o p q=af (uZ n (h,i,j,k,(tk p),(q.take d),l,m,o,()) g) λa=>ite a.1 (ai (aB,(Cr a.2)))<|ite (ao (0<=c)&&ao (c<=(ae a.2.2.2.2.2.1:aw))) (ite (ao (0<=b)&&ao (b<(ae a.2.2.2.2.2.2.1:aw))) (af (a.2.2.2.2.2.2.1[b.toNat]?) λr=>ite (ao (0<=b)&&ao (b<(ae a.2.2.2.2.2.2.1:aw))) (af (a.2.2.2.2.2.2.1[b.toNat]?) λs=>iJ n e c (aj ak (b+1)) a.2.1 a.2.2.1 a.2.2.2.1 a.2.2.2.2.1 c.toNat (ae a.2.2.2.2.2.2.1) a.2.2.2.2.2.2.2.1 a.2.2.2.2.2.2.2.2.1 a.2.2.2.2.2.2.2.2.2.1 a.2.2.2.2.2.1 (a.2.2.2.2.2.2.1.set b.toNat (aj ak (r-f)))) au) au) au:=bB
def pn:=K 1171 [.d (.one (.sl be)),mI,mI,mI] [kI,mI,mI] "2SyhYgUDBLWus4f1YuEutX099egg151W330x5aOomsqPrl8Kx5e8QomskwYB048fTY1NWEkKKLGZpsBYseTy5gHnTscpPiVVyDECB9GS5lZVm8BReyocILLpLOrbXBPFDqbUbcKs0DbXoiUpYkc4B2Bu1vkV69wRy5OvSt187kDTxuIPEgUg7L8CalTBRr1L3RWlf1CChWQ83kRXXzsUk1NdCzexRbNHH1fEKBaN65OgiHyAQS3n3Ts4qkJ2kIWeIzFTcqZEc6FhrNJUThF0mu7z5l6qTWC0eysous" [cN.p,(1197,I3),Cd.p,Q6.p]
def K8(a:ah be.ty)(b d e:aw):aq (ah aw×aw×aw):=pn.c.f (a,b,d,e,())
def BV(a:ah be.ty)(b c d e:aw):aq (ah aw×aw×aw):=pn.g 0x81 [.sl be a,vI b,vI c,vI d,vI e]
def JF(a:ah be.ty)(b c d e:aw):aq (ah aw×aw×aw):=pn.g 0x128 [.sl be a,vI b,vI c,vI d,vI e]
def BW(a:dD.ty):aq (ah aw×aw×aw):=pn.g 0x8e6c963274799db1f13 [] [dD.v a]
def VJ(a:dD.ty):aq (ah aw×aw×aw):=pn.g 0x8e6c963274799db1f1a [] [dD.v a]
def akC(a b c d:_):K8 a b c d=af (Yl a b c) λe=>ite (e==0) (af (cV d 1 20000) λf=>ite (!f) (BV a b c d 2)<|BV a b c d e)<|BV a b c d e:=bh
def uS(a b c d e:_):BV a b c d e=ite (e==0) (af (Q7 a b) λf=>JF a b c d f) (JF a b c d e):=bB
def pj(b c d e a:_):JF b c d e a=ite (a !=0) (ai ([],0,a)) (BW (b,c,d,0,[],[],0,e,aA,())):=bB
def CR(a:_):BW a=ite (ao (a.2.2.2.1<=8)) (ite (!a.2.2.2.2.2.2.2.2.1) (VJ a)<|ai ([],0,5)) (ai ([],0,5)):=bB
def ab6(a:_):VJ a=ite (ao (0<=a.2.2.2.1)&&ao (a.2.2.2.1<=a.2.2.2.1)&&ao (a.2.2.2.1.toNat<lim)) (af (uZ 1000 (a.1,a.2.1,a.2.2.1,a.2.2.2.1,[],((bK a.2.2.2.1.toNat (0:aw)).take (ae (bK a.2.2.2.1.toNat (0:aw)))),a.2.2.2.2.2.2.1,a.2.2.2.2.2.2.2.1,a.2.2.2.2.2.2.2.2.1,()) 0) λb=>ite b.1 (ai ((tk b.2.2.2.2.2.1),b.2.2.2.2.1,0))<|BW (b.2.1,b.2.2.1,b.2.2.2.1,aj ak (b.2.2.2.2.1+1),b.2.2.2.2.2.1,b.2.2.2.2.2.2.1,b.2.2.2.2.2.2.2.1,b.2.2.2.2.2.2.2.2.1,b.2.2.2.2.2.2.2.2.2.1,())) au:=bB
def UD:=K 776 [mI,mI] [mB] "1J6fLgqcQH7sdPkQJLHHDnk" [cN.p,Ch.p]
def ack(a b:aw):aq aW:=UD.c.f (a,b,())
def apV(a b:_):ack a b=af (cV a 0 200) λc=>ite c (af (H5 b) λd=>ai d)<|ai aA:=bh
def Q8:Callee:=LF qI
def Yo(a0:ah (ah aw))(a1:aw)(a2:aw):aq (ah (ah aw)):=Q8.f (a0,a1,a2,())
def aoe(a0:ah (ah aw))(a1:aw)(a2:aw):Yo a0 a1 a2=aDx qI a0 a1 a2:=rfl
def Ni:=K 361 [.d (.one (.sl (.one (.sl (.one (.int .i64)))))),mI,mI] [.d (.one (.sl (.one (.sl (.one (.int .i64)))))),mI] "24dl43P8OcMZ7TcmKNNwVbcI4tfsR3lvmPC0MmzpemsSRj0lOJ" [(775,Q8),UD.p,mu.p]
def EM(a:ah (ah aw))(b d:aw):aq (ah (ah aw)×aw):=Ni.c.f (a,b,d,())
def VM(a b c:_):EM a b c=af (CW a) λd=>ite (!d) (ai ([],1))<|af (ack b c) λe=>ite (!e) (ai ([],2))<|af (Yo a b c) λf=>ai (f,0):=bh
def yM:=K 996 [.d (.one (.sl (.one (.sl (.one (.int .i64))))))] [mS] "19jIuUAW0GftQyBvdibQsXmZG8Otkq9Le3n947oWMHWnOHhj7yYRrvKe1PfpAZNf" [tp.p]
def afg(a:ah (ah aw)):aq (ah ay):=yM.c.f (a,())
def Cg(a:ah (ah aw))(b:ah ay)(c:aw):aq (ah ay):=yM.g 0x1d214a8 [.sl eII a,vS b,vI c]
def JO(a:ah (ah aw))(b:ah ay)(c:aw):aq (ah ay):=yM.g 0x1fbdeb8712b [.sl eII a,vS b,vI c]
def akT(a:_):afg a= Cg a [] 0:=bh
def CX(c a b:_):Cg c a b=ite (ao (b<(ae c:aw))) (ite (ao (b>0)) (ite (ao (ae a+ [47].length<=cQ)) (JO c (a++ [47]) b) au)<|JO c a b) (ai a):=bB
def NG(b c a:_):JO b c a=ite (ao (0<=a)) (af (b[a.toNat]?) λe=>af (EU e) λd=>ite (ao (ae c+ae d<=cQ)) (Cg b (c++d) (aj ak (a+1))) au) au:=bB
def Hk:=K 1172 [.d (.one (.sl (.one (.sl (.one (.int .i64))))))] [mS] "tCmfte7OEy5M8XP94qj" [mu.p,yM.p]
def po(a:ah (ah aw)):aq (ah ay):=Hk.c.f (a,())
def P9(a:_):po a=af (CW a) λb=>ite (!b) (ai [])<|af (afg a) λc=>ai c:=bh
def E6:=K 779 [mI,mI] [mB] "4BstqwwqmdLmO6zmEW5opLg8WP9t" [cN.p]
def JN(a b:aw):aq aW:=E6.c.f (a,b,())
def acm(a b:_):JN a b=af (cV a 1 10000) λc=>ite c (af (cV b 1 2000) λd=>ai d)<|ai aA:=bh
def yL:=K 778 [.d (.one (.sl (.one (.sl (.one (.int .i64)))))),mI,mI] [mI] "22jWFp3uZnXAd2MtfTlnwkG2HedbCGeEp0CUX07Ge7ISoNDYMlKlVu9Wg73cNhq0xXymHYigfJ862OIx22WQD6KnqkoufrZkz7Pn" [kD.p]
def aff(a:ah (ah aw))(b d:aw):aq aw:=yL.c.f (a,b,d,())
def vX(a:ah (ah aw))(b c d e:aw):aq aw:=yL.g 0xbc800b8 [.sl eII a,vI b,vI c,vI d,vI e]
def Ce(a:ah (ah aw))(b c d e f:aw):aq aw:=yL.g 0x30196d6ecd36a27 [.sl eII a,vI b,vI c,vI d,vI e,vI f]
def akR(a b c:_):aff a b c=vX a b c 0 0:=bh
def NC(a b c d e:_):vX a b c d e=ite (ao (e<(ae a:aw))) (Ce a b c d e 0) (af (qJ (aj ak ((aj ak (d*b))*c)) 10000) λf=>ai f):=bB
def ND(b d e f a c:_):Ce b d e f a c=ite (ao (0<=a)) (af (b[a.toNat]?) λg=>ite (ao (c<(ae g:aw))) (ite (ao (0<=a)) (af (b[a.toNat]?) λh=>ite (ao (0<=c)) (af (h[c.toNat]?) λi=>Ce b d e (aj ak (f+i)) a (aj ak (c+1))) au) au)<|vX b d e f (aj ak (a+1))) au:=bB
def Hj:=K 360 [.d (.one (.sl (.one (.sl (.one (.int .i64)))))),mI,mI] [mI,mI] "BRTT9ay3Pwykl80gFt1mYgVhOfCIGIJV42B4BpAWVtFoK" [mu.p,yL.p,E6.p]
def yF(a:ah (ah aw))(b d:aw):aq (aw×aw):=Hj.c.f (a,b,d,())
def P8(a b c:_):yF a b c=af (CW a) λd=>ite (!d) (ai (0,1))<|af (JN b c) λe=>ite (!e) (ai (0,2))<|af (aff a b c) λf=>ai (f,0):=bh
def Hr:=K 1200 [mI] [mB] "DJ0t5tAlK7hL2n" [cN.p]
def Yp(a:aw):aq aW:=Hr.c.f (a,())
def afi(a:_):Yp a=af (cV a 0 2000) λb=>ai b:=bh
def NH:=K 450 [.p iZ,mI] [mI] "7PlCaIkywvTDD6f1ucUldwiI1V" [kD.p]
def UE(a:iZ.ty)(b:aw):aq aw:=NH.c.f (a,b,())
def akU(a b:_):UE a b=af (qJ (aj ak (a.2.1*b)) 1000) λc=>ai (aj ak (a.2.2.1+c)):=bh
def yG:=K 1173 [.d iZ,mI,mI] [mI,mI] "EA2d9ubvIQY4t8BXqjBNEOGgCrcjAROmjKW5n77PI3l4QL7UyZ4ZIyKgOkeDIheFDcCrFh4V6p4SA9Q8OFlcyMNACYKbDikiodCrvBGiLTULhsJOeHP3t3eot" [cN.p,kD.p,NH.p,E8.p,Hr.p]
def K9(a:iZ.ty)(b d:aw):aq (aw×aw):=yG.c.f (a,b,d,())
def VL(a b:aw)(c:iZ.ty):aq (aw×aw):=yG.g 0x38cf205 [vI a,vI b] [iZ.v c]
def B8(a b c:aw)(d:iZ.ty):aq (aw×aw):=yG.g 0x12c3b1056257 [vI a,vI b,vI c] [iZ.v d]
def akF(a b c:_):K9 a b c=af (NI a) λd=>ite (!d) (ai (0,1))<|af (Yp b) λe=>ite (!e) (ai (0,2))<|af (cV c 1 1000) λf=>ite (!f) (ai (0,2))<|VL b c a:=bh
def acd(a b c:_):VL a b c= B8 a b 0 c:=bB
def Nh(c d a b:_):B8 c d a b=ite (ao (a<=200)) (af (qJ (aj ak (1000*a)) d) λe=>af (UE b (aj ak (b.2.2.2.1+e))) λf=>ite (ao (f>=c)) (ai (a,0))<|B8 c d (aj ak (a+1)) b) (ai (0,3)):=bB
def ve:=K 476 [mI] [mI] "WfvafVuZfB7aVkupoZW1uoFQLchQpnTVlFApu6HXyYhBWsfowSxM1BTfdlogDnGe4fVO4X6nrmNj6hoinPwsuV"
def oK(a:aw):aq aw:=ve.c.f (a,())
def aad(a:_):oK a=ite (ao (0<=a.tmod 12)&&ao (a.tmod 12<12)) (af ([1308,1386,1468,1556,1648,1746,1850,1960,2077,2200,2331,2469][(a.tmod 12).toNat]?) λb=>ite (ao (aj aIJ (aj ak (a.tdiv 12))<0)) au<|ai (aj ak (b*2^(min (aj aIJ (aj ak (a.tdiv 12))).toNat ak.bits)))) au:=bh
def H0:=K 783 [mI] [mI] "4FULxcFrP8xswZTD" [wA.p]
def Dq(a:aw):aq aw:=H0.c.f (a,())
def aod(a:_):Dq a=af (yH a (aj ak (0-a))) λb=>ai b:=bh
def HT:=K 1175 [mI] [mI,mI,mI] "KxLvU6PmtoM5oLF41BI3xbcfZ8MedGfwl3ktcGG4tQCqutfvZ2nToaYzREhKMEuy8Ws6wr7IzcUsRuffyFAHFtT" [ve.p,H0.p,Fh.p]
def P6(a:aw):aq (aw×aw×aw):=HT.c.f (a,())
def yE(a b c:aw):aq (aw×aw×aw):=HT.g 0xaca7e27 [vI a,vI b,vI c]
def an4(a:_):P6 a=af (UM a) λb=>ite (!b) (ai (0,0,2))<|yE a 0 1:=bh
def P7(a c b:_):yE a c b=ite (ao (b<=60)) (af (oK b) λd=>af (Dq (aj ak (d-a))) λe=>af (oK c) λf=>af (Dq (aj ak (f-a))) λg=>ite (ao (e<g)) (yE a b (aj ak (b+1)))<|yE a c (aj ak (b+1))) (af (oK c) λh=>ai (c,aj ak (a-h),0)):=bB
def NR:=K 477 [mI] [mB] "GoTefkuMXVDBL" [cN.p]
def afo(a:aw):aq aW:=NR.c.f (a,())
def ak4(a:_):afo a=af (cV a 0 60) λb=>ai b:=bh
def JH:=K 1174 [mI] [mS] "B80eK8xqd9M5SZfIyfUXXC8gj84aYIxLzuMlZbViYsxLu7r9AzJvKjCFAEKyrHKbFzbRiszGjA72wfl" [NR.p,jR.p]
def HR(a:aw):aq (ah ay):=JH.c.f (a,())
def ahu(a:_):HR a=af (afo a) λd=>ite (!d) (ai [])<|ite (ao (0<=a.tmod 12)&&ao (a.tmod 12<12)) (af ([[99],[99,35],[100],[100,35],[101],[102],[102,35],[103],[103,35],[97],[97,35],[98]][(a.tmod 12).toNat]?) λb=>af (lq (aj ak (a.tdiv 12))) λc=>ite (ao (ae b+ae c<=cQ)) (ai (b++c)) au) au:=bh
def tj:=K 1176 [.d (.one (.sl be)),mI] [kI,mI] "A3VCyh5X6xhBANr9GKsSORz7VrdalZX37nZlDiWQ8mb6Hj0F3SnG3tQvIeaSesPtEK9SvZQOJH25ObuLhot5SCYd7fJGORQLZzrnX5Qoa6Rcvs3KRji5T090GLKQwSE4M5fkrgTfFVfFV8ZuWJGLRYIlTIUWflppAJQ2H3" [cN.p,Fg.p,ve.p,H0.p]
def EN(a:ah be.ty)(b:aw):aq (ah aw×aw):=tj.c.f (a,b,())
def kO(a:ah be.ty)(b c:aw)(d:ah aw):aq (ah aw×aw):=tj.g 0x275bcabdd67 [.sl be a,vI b,vI c] [.sl eI d]
def qH(a:ah be.ty)(b c:aw)(d:aW)(e:aw)(f:ah aw):aq (ah aw×aw):=tj.g 0x8e52876118ccb77c9639f [.sl be a,vI b,vI c,vB d,vI e] [.sl eI f]
def ae4(a b:_):EN a b=af (UL a) λc=>ite (!c) (ai ([],1))<|af (cV b 0 1000) λd=>ite (!d) (ai ([],2))<|kO a b 0 []:=bh
def IU(c d a b:_):kO c d a b=ite (ao (a<=60)) (qH c d a aA 0 b) (ai ((tk b),0)):=bB
def IV(a c b f d e:_):qH a c b f d e=ite (ao (d<(ae a:aw))) (ite f (qH a c b aB (aj ak (d+1)) e)<|af (oK b) λg=>ite (ao (0<=d)) (af (a[d.toNat]?) λh=>af (Dq (aj ak (g-h.2.1))) λi=>qH a c b (ao (i<=c)) (aj ak (d+1)) e) au) (ite f (ite (ao (ae e+1<lim)) (kO a c (aj ak (b+1)) ((tk e)++ [b])) au)<|kO a c (aj ak (b+1)) e):=bB
def JP:Callee:=Zd
def Ri(a0:aw)(a1:ah aZ.ty)(a2:aw):aq (ah (ah aw)×aw):=JP.f (a0,a1,a2,())
def ahM(a0:aw)(a1:ah aZ.ty)(a2:aw):Ri a0 a1 a2=ae2 a0 a1 a2:=rfl
def qG:=K 1177 [.d (.one (.sl aZ)),mI] [mI,mI] "11pf49ifoT3UREQv2tmEDv0QDsDtBiVgfnaewJlks7yYRL8I60bVqMsiVkiJ22xI3rFTbDnvRYmZ4OP0Wxq4a5Q3POfNUMT2hYqzRxBiVblJPktnZ" [cN.p,Fj.p,(1201,JP)]
def uW(a:ah aZ.ty)(b:aw):aq (aw×aw):=qG.c.f (a,b,())
def pJ(a:ah aZ.ty)(b c:aw):aq (aw×aw):=qG.g 0xbf4ba4c [.sl aZ a,vI b,vI c]
def Wq(a b:_):uW a b=af (UN a) λc=>ite (!c) (ai (0,1))<|af (cV b 1 20000) λd=>ite (!d) (ai (0,2))<|pJ a b 1:=bh
def Bd(b c a:_):pJ b c a=ite (ao (a<=6)) (af (Ri a b c) λd=>ite (d.2==0) (ai (a,0))<|ite (d.2==5) (ai (0,5))<|pJ b c (aj ak (a+1))) (ai (0,3)):=bB
def tC:=K 1217 [Wg,Wg] [mB] "90OTqXQ7M2CPK46MMQW4SVG3FMCZgLP81dz93kgal0ryAR8wK7bkYn4Hm6I1aHdoWIXv92Ol8YoJImit"
def UO(a b:ah aw):aq aW:=tC.c.f (a,b,())
def Cm(a b:ah aw)(c:aw):aq aW:=tC.g 0xe0f83a [.sl eI a,.sl eI b,vI c]
def VX(a b:ah aw)(c:aw):aq aW:=tC.g 0x141649d [.sl eI a,.sl eI b,vI c]
def ak8(a b:_):UO a b= Cm a b 0:=bh
def NW(a b c:_):Cm a b c=ite (ao (c<(ae a:aw))) (ite (ao (c<(ae b:aw))) (VX a b c)<|ai (ao ((ae a:aw)<(ae b:aw)))) (ai (ao ((ae a:aw)<(ae b:aw)))):=bB
def NX(b c a:_):VX b c a=ite (ao (0<=a)) (af (b[a.toNat]?) λd=>ite (ao (0<=a)) (af (c[a.toNat]?) λe=>ite (d !=e) (ite (ao (0<=a)) (af (b[a.toNat]?) λf=>ite (ao (0<=a)) (af (c[a.toNat]?) λg=>ai (ao (f<g))) au) au)<|Cm b c (aj ak (a+1))) au) au:=bB
def oL:=K 805 [.d (.one (.sl aR)),Wg] [mB] "2iGUkScJOQpPVQh1mbqWfFQsyeDGLSnQVp9apNh7Q180vLG1RZa886YJb8dXbnTImboSRrBB79lGHdJlnMUBbuqM6DK" [Cl.p]
def NV(a:ah aR.ty)(b:ah aw):aq aW:=oL.c.f (a,b,())
def nj(a:ah aR.ty)(b:ah aw)(c:aw):aq aW:=oL.g 0x5c3001a [.sl aR a,.sl eI b,vI c]
def xm(a:ah aR.ty)(b:ah aw)(c d:aw):aq aW:=oL.g 0x219b0366ffb896d [.sl aR a,.sl eI b,vI c,vI d]
def afq(a b:_):NV a b=nj a b 0:=bh
def yN(c a b:_):nj c a b=ite (ao (b<(ae a:aw))) (xm c a b 0) (ai aB):=bB
def I9(b c a d:_):xm b c a d=ite (ao (d<a)) (ite (ao (0<=a)) (af (c[a.toNat]?) λe=>ite (ao (0<=e)) (af (b[e.toNat]?) λg=>ite (ao (0<=d)) (af (c[d.toNat]?) λf=>ite (ao (0<=f)) (af (b[f.toNat]?) λh=>af (H9 g h) λi=>ite i (ai aA)<|xm b c a (aj ak (d+1))) au) au) au) au) (nj b c (aj ak (a+1))):=bB
def lH:=K 1216 [.box dd] [mB] "JvIlm5fptQrYyckIlCddXVYKGksHOZBFYFXGPEZ8weyiQwZisFa" [] [.box dd]
def kX(a:dd.ty):aq (aW×dd.ty):=lH.c.f (a,())
def vj(a:dd.ty):aq (aW×dd.ty):=lH.g 0x204bc2c95cef [] [dd.v a]
def vg(a:_):kX a=ite (a.2.2.2.2.1==a.2.2.2.2.2.1) (vj (a.1,a.2.1,a.2.2.1,a.2.2.2.1,a.2.2.2.2.1,a.2.2.2.2.2.1,aB,())) (vj a):=bh
def pU(a:_):vj a=ite a.2.2.2.2.2.2.1 (ai (aA,(jY a))) (ai (aB,(a.1,(tk a.2.1),(tk a.2.2.1),a.2.2.2.1,aj ak (a.2.2.2.2.1+1),a.2.2.2.2.2.1,a.2.2.2.2.2.2.1,()))):=bB
def mU:ax->Hv [.box dd,mI,mI]->aq (Ts ([]++ [.box dd])) |0=>λ_=>au |n+1=>(K 1202 [.box dd,mI,mI] [] "D0AHled9o54nBXcBUmykJWx3I7DwQRUcUzrw59cUlE9Ut68QwK24c8X07XvuCQCDym1EHkIN2S14GWH1ezsgzw6axWPzrB7iSFDZRB5PBbKemuEm3pivfPjgfdapJnwsDyZZULzUyTspatWcxAG4mvKAcmhfq6MbZoEHi9qN6opdJhmVO" [oL.p,oq.p,(1202,⟨[aB,aA,aA],[.box dd,mI,mI],[],[.box dd],mU n⟩),lH.p,tC.p] [.box dd]).c.f
def ko(n:ax):=K 1202 [.box dd,mI,mI] [] "D0AHled9o54nBXcBUmykJWx3I7DwQRUcUzrw59cUlE9Ut68QwK24c8X07XvuCQCDym1EHkIN2S14GWH1ezsgzw6axWPzrB7iSFDZRB5PBbKemuEm3pivfPjgfdapJnwsDyZZULzUyTspatWcxAG4mvKAcmhfq6MbZoEHi9qN6opdJhmVO" [oL.p,oq.p,(1202,⟨[aB,aA,aA],[.box dd,mI,mI],[],[.box dd],mU n⟩),lH.p,tC.p] [.box dd]
def Jb:Callee:=⟨[aB,aA,aA],[.box dd,mI,mI],[],[.box dd],mU 1000⟩
def Ja(n:ax):Callee:=⟨[aB,aA,aA],[.box dd,mI,mI],[],[.box dd],mU n⟩
def Tj(n:ax):Ja (n+1)=(ko n).c:=by kernel_rfl
def j8(n:ax)(a:dd.ty)(b c:aw):aq (dd.ty):=mU n (a,b,c,())
def wQ(n:ax)(a:aw)(b:dd.ty):aq (dd.ty):=(ko n).g 0xbc22f8e6328f907 [vI a] [dd.v b]
def lI(n:ax)(a b:aw)(c:dd.ty):aq (dd.ty):=(ko n).g 0x1eea7011b96c [vI a,vI b] [dd.v c]
def Gk(n:ax)(a d e:_):j8 (n+1) a d e=
 if(d==(ae a.1:aw))then
  if ao (e>a.2.2.2.1)then
   wQ n e a
  else
   if(e==a.2.2.2.1)then
    af (UO (tk a.2.1) (tk a.2.2.1)) λh=>
     if h then
      wQ n e a
     else
      ai (jY a)
   else
    ai (jY a)
 else
  if ao (ae a.2.1+1<lim)then
   af (NV a.1 (((tk a.2.1)++ [d]).take (ae ((tk a.2.1)++ [d])))) λi=>
    if i then
     af (kX (a.1,(((tk a.2.1)++ [d]).take (ae ((tk a.2.1)++ [d]))),(tk a.2.2.1),a.2.2.2.1,a.2.2.2.2.1,a.2.2.2.2.2.1,a.2.2.2.2.2.2.1,())) λg=>
      if g.1 then
       if ao (0<=d)then
        af (g.2.1[d.toNat]?) λj=>
         af (j8 n (jY g.2) (aj ak (d+1)) (aj ak (e+j.2.2.2.2.1))) λk=>
          lI n d e k
       else
        au
      else
       lI n d e g.2
    else
     lI n d e (a.1,(tk a.2.1)++ [d],a.2.2.1,a.2.2.2.1,a.2.2.2.2.1,a.2.2.2.2.2.1,a.2.2.2.2.2.2.1,())
  else
   au:=Tv (b:=(ko n).c.f (a,d,e,())) (by kernel_rfl) bh
def By(n:ax)(b a:_):wQ n b a=af (qI (tk a.2.1)) λc=>ai (a.1,(tk a.2.1),(tk c),b,a.2.2.2.2.1,a.2.2.2.2.2.1,a.2.2.2.2.2.2.1,()):=bB
def rD(n:ax)(c d a:_):lI n c d a=ite (ao (0<=aj ak ((ae a.2.1:aw)-1))&&ao (aj ak ((ae a.2.1:aw)-1)<=(ae a.2.1:aw))) (af (kX (a.1,(a.2.1.take ((aj ak ((ae a.2.1:aw)-1)).toNat)),(tk a.2.2.1),a.2.2.2.1,a.2.2.2.2.1,a.2.2.2.2.2.1,a.2.2.2.2.2.2.1,())) λb=>ite b.1 (af (j8 n (jY b.2) (aj ak (c+1)) d) λe=>ai (jY e))<|ai (jY b.2)) au:=bB
def CS:=K 1178 [.d (.one (.sl aR)),mI] [kI,mI,mI] "4VzX6mDjdC4uXvNA3VAw4phlz0gkK9fJ9H6MxiOa0EDWxp5jxEGjjnwzxUEGL3EB9bF7ASiQ2zsZaqHsIkAJxwLG7ph8MmLPpBhXlaDwQ5NsAAImB23aSxvoEunpRdbYkEBy1roE4" [cN.p,qM.p,(1202,Jb)]
def zN(a:ah aR.ty)(b:aw):aq (ah aw×aw×aw):=CS.c.f (a,b,())
def Z7(a b:_):zN a b=af (vf a) λd=>ite (!d) (ai ([],0,1))<|af (cV b 1 20000) λe=>ite (!e) (ai ([],0,2))<|af (j8 1000 (a,[],[],(-1),0,b,aA,()) 0 0) λc=>ite c.2.2.2.2.2.2.1 (ai ([],0,5))<|ai ((tk c.2.2.1),c.2.2.2.1,0):=bh
def fi:=K 1113 [.box bn,mSS] [kS,mB] "2Z3BLlaS2zqgN7BUAw5fmxeCwi4YHDPLdwMyGBnn1qWPqFM7Bq0caUIKfHVIN4ig0qEBadsrJ7v2bzUiUJuEb0MMTu63h0w6tO2vlyBATIDtyMXvQ51xweWlTX5c73XOV02S57iwMp0Tsgae120ia8mqZP5OLV2TNOtrkcjGAcK8swhtsjP3B1DRTU71le8WZKF9SG35QHALh06Iytiz7gr4Ae3FNddOVbX6CuBpZBWpnhqZ6fvLF5JIwkvBNyZp3lEnxWLRcjbhB7NBXOx7OeLR2bncLKchl5yG44OCoYENxQTkz64xhBgTGEqhCl3vMqCGPbQbIxzJioyh9oXT4lNqDB42gjxs8q0yF4iDQnyhMOcmSLQ5VgW4VXHquHMKYcTfqi7fYQCfAtLpfZeuYkv9Ho00KdLlkC5DXfEidIzVKSCCZ9wlXDURFqxZkWWg1n2yxAIWK9KGnGZlEh8yeR5OxjA0bfZfa3MEpP7biMZPHFeLp7knN5pfLiX1BGcvThe2Ukpy5cm136R0N5QgdSOWeVjCJ7kklmBxUzqpLzn7faDrToBLXyuEtTjII0zVkzgc7RDXb6CDpuBFnFTw3SHAXYnP6QcNVrAurlEiLOJ93jjY7jbpwL02fRKY5mjUZzaLklLuvnLUeIy7kETGIagBty1zzYnlmE83AzfURxY5CodsNGjsNF5yJkhsiforanvvjQmQfPSjUmldHNTCaWpur8fPwyI" [Hj.p,Ni.p,rF.p,Fo.p,km.p,zX.p,pn.p,Hk.p,yG.p,JH.p,HT.p,tj.p,qG.p,CS.p] [.box bn]
def qc(a:bn.ty)(b:ah (ah ay)):aq (ah (ah ay)×aW×bn.ty):=fi.c.f (a,b,())
def cK(a:ah (ah ay))(b:aw)(c:bn.ty)(d:ah aw):aq (ah (ah ay)×aW×bn.ty):=fi.g 0x20d77e060848db321ab7301d4098 [.sl eS a,vI b] [bn.v c,.sl eI d]
def CY(a:ah (ah ay))(b:bn.ty)(c:ah aw):aq (ah (ah ay)×aW×bn.ty):=fi.g 0x316c0a6a1492bb40dba09e67170c [.sl eS a] [bn.v b,.sl eI c]
def CZ(a:ah (ah aw))(b:aw)(c:bn.ty):aq (ah (ah ay)×aW×bn.ty):=fi.g 0x15a572c867d2beb71f3deeeb76 [.sl eII a,vI b] [bn.v c]
def C0(a:ah (ah ay))(b:bn.ty)(c:ah aw):aq (ah (ah ay)×aW×bn.ty):=fi.g 0x316c0a6a1492bb40dba09e67171c [.sl eS a] [bn.v b,.sl eI c]
def C1(a:ah (ah ay))(b:bn.ty)(c:ah aw):aq (ah (ah ay)×aW×bn.ty):=fi.g 0x128883e7c7b70638525c3b66a83e1 [.sl eS a] [bn.v b,.sl eI c]
def C2(a:ah (ah ay))(b:bn.ty)(c:ah aw):aq (ah (ah ay)×aW×bn.ty):=fi.g 0x128883e7c7b70638525c3b66a83ea [.sl eS a] [bn.v b,.sl eI c]
def C3(a:ah (ah ay))(b:bn.ty)(c:ah aw):aq (ah (ah ay)×aW×bn.ty):=fi.g 0x128883e7c7b70638525c3b66a83f3 [.sl eS a] [bn.v b,.sl eI c]
def C4(a:ah (ah ay))(b:bn.ty)(c:ah aw):aq (ah (ah ay)×aW×bn.ty):=fi.g 0x128883e7c7b70638525c3b66a83fc [.sl eS a] [bn.v b,.sl eI c]
def C5(a:ah (ah ay))(b:bn.ty)(c:ah aw):aq (ah (ah ay)×aW×bn.ty):=fi.g 0x128883e7c7b70638525c3b66a87a7 [.sl eS a] [bn.v b,.sl eI c]
def acu(a b:_):qc a b=cK b 1 a []:=bh
def eF(b d c a:_):cK b d c a=ite (ao (d<(ae b:aw))) (ite (ao (0<=d)) (af (b[d.toNat]?) λg=>af (mQ g) λe=>ite (!e.2) (ai ([],aA,(bI c)))<|ite (ao (ae a+1<lim)) (cK b (aj ak (d+1)) c ((tk a)++ [e.1])) au) au) (af (b[0]?) λh=>ite (h==[99,117,116]) (ite ((ae a:aw)==3) (ite (ao (0<(ae a:aw))) (af (a[0]?) λi=>ite (ao (1<(ae a:aw))) (af (a[1]?) λj=>ite (ao (2<(ae a:aw))) (af (a[2]?) λk=>af (K8 (tk c.2.1) i j k) λf=>af (kP (tk f.1) f.2.2) λl=>ai ((tk l),aB,(bI c))) au) au) au)<|CY b c a)<|CY b c a):=bB
def gw(d a b:_):CY d a b=af (d[0]?) λe=>ite (e==[116,104,105,110]) (ite ((ae b:aw)==2) (ite (ao (0<(ae b:aw))) (af (b[0]?) λf=>ite (ao (1<(ae b:aw))) (af (b[1]?) λg=>af (EM a.2.2.1 f g) λc=>ite (c.2==0) (CZ c.1 c.2 (a.1,a.2.1,c.1,a.2.2.2.1,a.2.2.2.2.1,a.2.2.2.2.2.1,a.2.2.2.2.2.2.1,a.2.2.2.2.2.2.2.1,a.2.2.2.2.2.2.2.2.1,a.2.2.2.2.2.2.2.2.2.1,a.2.2.2.2.2.2.2.2.2.2.1,a.2.2.2.2.2.2.2.2.2.2.2.1,()))<|CZ c.1 c.2 a) au) au)<|C0 d a b)<|C0 d a b:=bB
def gx(a b c:_):CZ a b c=af (po a) λd=>af (lu [d] b) λe=>ai ((tk e),aB,(bI c)):=bB
def iL(c b a:_):C0 c b a=af (c[0]?) λe=>ite (e==[109,97,115,115]) (ite ((ae a:aw)==2) (ite (ao (0<(ae a:aw))) (af (a[0]?) λf=>ite (ao (1<(ae a:aw))) (af (a[1]?) λg=>af (yF b.2.2.1 f g) λd=>af (kQ d.1 d.2) λh=>ai ((tk h),aB,(bI b))) au) au)<|C1 c b a)<|C1 c b a:=bB
def jL(c a b:_):C1 c a b=af (c[0]?) λe=>ite (e==[115,104,105,109]) (ite ((ae b:aw)==2) (ite (ao (0<(ae b:aw))) (af (b[0]?) λf=>ite (ao (1<(ae b:aw))) (af (b[1]?) λg=>af (K9 (a.2.2.2.1,a.2.2.2.2.1,a.2.2.2.2.2.1,a.2.2.2.2.2.2.1,()) f g) λd=>af (kQ d.1 d.2) λh=>ai ((tk h),aB,(bI a))) au) au)<|C2 c a b)<|C2 c a b:=bB
def lJ(b c a:_):C2 b c a=af (b[0]?) λe=>ite (e==[110,111,116,101]) (ite ((ae a:aw)==1) (ite (ao (0<(ae a:aw))) (af (a[0]?) λf=>af (P6 f) λd=>af (HR d.1) λg=>af (lu [g] d.2.2) λh=>ai ((tk h),aB,(bI c))) au)<|C3 b c a)<|C3 b c a:=bB
def pM(c b a:_):C3 c b a=af (c[0]?) λe=>ite (e==[119,111,108,102]) (ite ((ae a:aw)==1) (ite (ao (0<(ae a:aw))) (af (a[0]?) λf=>af (EN (tk b.2.2.2.2.2.2.2.2.2.1) f) λd=>af (kP (tk d.1) d.2) λg=>ai ((tk g),aB,(bI b))) au)<|C4 c b a)<|C4 c b a:=bB
def wR(c b a:_):C4 c b a=af (c[0]?) λe=>ite (e==[98,101,110,99,104,101,115]) (ite ((ae a:aw)==1) (ite (ao (0<(ae a:aw))) (af (a[0]?) λf=>af (uW (tk b.2.2.2.2.2.2.2.2.2.2.1) f) λd=>af (kQ d.1 d.2) λg=>ai ((tk g),aB,(bI b))) au)<|C5 c b a)<|C5 c b a:=bB
def Gm(c a b:_):C5 c a b=af (c[0]?) λe=>ite (e==[116,114,117,115,116]) (ite ((ae b:aw)==1) (ite (ao (0<(ae b:aw))) (af (b[0]?) λf=>af (zN a.2.2.2.2.2.2.2.2.2.2.2.1 f) λd=>af (kP (tk d.1) d.2.2) λg=>ai ((tk g),aB,(bI a))) au)<|ai ([],aA,(bI a)))<|ai ([],aA,(bI a)):=bB
def jm:=K 1009 [.box bn,mSS] [kS,mB] "CoLhuuCbSBJSnSyDlrqz2025c9YED92zezNPFVOLRxFaIjsMQH5uB3xH2lgbAjBGhCja1bJyLoWoXKBT689SAjF1NlOOtXC6fiAlM6y3PXvaNBBlXFUUYSOwZ7PeoWYBcH1FYBedZ2XtNlr4PFaXhvP1RNzv5UNUha1jdFwVsmbFmg9XSiCiQtRAWt41nNN4rihHO4MNwgOmI8yLQZrKkLBkBkkCTMEx5WYJ98NWNcgx1VyN81Iyqatwh7m6rIAzwXhZY7G27nOmpXCK9B6SEktoiYYD45recW7rKrddhmzGqaR66iYmXJlDQH2jXpxinUYjHbzAV3eeDaitppQuOTnbFS4t9opxHfxmHOMVl2MxrozboWl5f15ChSAhh8pPR5StDbYwxdOt4CgWmDTl7I3B76PY4FG4n9kBWDJ5zkE2UF5v7jlOhoArgYyf0D3NS5AlEWlCTvDyQp2MPzfasExWHPsxQHx5yhZVKaxmost9Sz3ACPnybrrfOFnXZmcxi8fpyCwVt22Sgl0eI9h3of" [CU.p,yD.p,rG.p,fi.p,Fo.p,pq.p,km.p,tv.p,xg.p,jX.p,zX.p] [.box bn]
def mx(a:bn.ty)(b:ah (ah ay)):aq (ah (ah ay)×aW×bn.ty):=jm.c.f (a,b,())
def Tl(a b c:aw)(d:bn.ty):aq (ah (ah ay)×aW×bn.ty):=jm.g 0x3f9cb35a849d3c98585f6645 [vI a,vI b,vI c] [bn.v d]
def Ht(a:ah (ah ay))(b:bn.ty):aq (ah (ah ay)×aW×bn.ty):=jm.g 0x3f9cb35a849d3c98585f664b [.sl eS a] [bn.v b]
def Ad(a:ah (ah ay))(b:bn.ty):aq (ah (ah ay)×aW×bn.ty):=jm.g 0x3f9cb35a849d3c98585f664f [.sl eS a] [bn.v b]
def lY(a:ah (ah ay))(b:bn.ty):aq (ah (ah ay)×aW×bn.ty):=jm.g 0x9e5a828fa1460eac437b1eac [.sl eS a] [bn.v b]
def Tm(a:ah (ah ay))(b:aw)(c:bn.ty)(d:ah aw):aq (ah (ah ay)×aW×bn.ty):=jm.g 0x928378445a8f6946a0a32925b56 [.sl eS a,vI b] [bn.v c,.sl eI d]
def tM(a:ah (ah ay))(b c:aw)(d:bn.ty):aq (ah (ah ay)×aW×bn.ty):=jm.g 0x26746ba2b3bb6a8d383beb1c25eb7dffd [.sl eS a,vI b,vI c] [bn.v d]
def Ae(a:ah (ah ay))(b:bn.ty):aq (ah (ah ay)×aW×bn.ty):=jm.g 0x1391bffb09f20e237353ae [.sl eS a] [bn.v b]
def tL(b a:_):mx b a=af (a[0]?) λf=>ite (f==[100,114,121]) (ite ((ae a:aw)==4) (af (a[1]?) λg=>af (mQ g) λc=>af (a[2]?) λh=>af (EW h) λd=>af (a[3]?) λi=>af (mQ i) λe=>ite (!c.2) (ai ([],aA,(bI b)))<|ite (!d.2) (ai ([],aA,(bI b)))<|ite (!e.2) (ai ([],aA,(bI b)))<|Tl c.1 d.1 e.1 b)<|Ht a b)<|Ht a b:=bh
def aaj(b c d a:_):Tl b c d a=af (Hl (tk a.1) b c d) λe=>af (kP (tk e.1) e.2) λf=>ai ((tk f),aB,(bI a)):=bB
def si(a b:_):Ht a b=af (a[0]?) λc=>ite (c==[102,105,116]) (ite ((ae a:aw)==3) (Ad a b)<|lY a b)<|af (a[0]?) λd=>ite (d==[103,108,117,101]) (ite ((ae a:aw)==3) (Ad a b)<|lY a b)<|lY a b:=bB
def KD(a b:_):Ad a b=af (a[1]?) λe=>af (om e) λc=>af (a[2]?) λf=>af (mQ f) λd=>ite (!c.2) (ai ([],aA,(bI b)))<|ite (!d.2) (ai ([],aA,(bI b)))<|Tm a d.1 b c.1:=bB
def KE(a b:_):lY a b=af (a[0]?) λd=>ite (d==[111,112,101,110]) (ite ((ae a:aw)==3) (af (a[2]?) λe=>af (mQ e) λc=>ite (!c.2) (ai ([],aA,(bI b)))<|tM a c.1 0 b)<|Ae a b)<|Ae a b:=bB
def KF(d b a c:_):Tm d b a c=af (d[0]?) λg=>ite (g==[102,105,116]) (af (Uw (tk a.2.2.2.2.2.2.2.1) (tk c) b) λe=>af (kP (tk e.1) e.2) λh=>ai ((tk h),aB,(bI a)))<|af (JG (tk a.2.2.2.2.2.2.2.2.1) (tk c) b) λf=>af (kP (tk f.1) f.2.2) λi=>ai ((tk i),aB,(bI a)):=bB
def KG(c d a b:_):tM c d a b=ite (ao (a<(ae b.2.2.2.2.2.2.2.2.1:aw))) (ite (ao (0<=a)&&ao (a<(ae b.2.2.2.2.2.2.2.2.1:aw))) (af (b.2.2.2.2.2.2.2.2.1[a.toNat]?) λf=>af (c[1]?) λg=>ite (f.1==g) (ite (ao (0<=a)&&ao (a<(ae b.2.2.2.2.2.2.2.2.1:aw))) (af (b.2.2.2.2.2.2.2.2.1[a.toNat]?) λh=>af (zO h d) λe=>af (kQ e.1 e.2) λi=>ai ((tk i),aB,(bI b))) au)<|tM c d (aj ak (a+1)) b) au) (af (lx 3) λj=>ai ((tk j),aB,(bI b))):=bB
def aak(b c:_):Ae b c=af (qc (bI c) b) λa=>ai ((tk a.1),a.2.1,(bI a.2.2)):=bB
def UQ:=K 840 [.box bn,mS] [kS,mB] "PzLonlA15rGRSM80b2ESLoXENjHxgVseCrXmQDfx1zb7jvKdFJkAUJ2H24NNYAmDiTwd5MY7GHDYB7e289cHRUY4TgfUj6GjrsjlRdUAME6utXpDrR2HrqgCx7jscyiyTcX80Yi" [jj.p,jm.p,N9.p,Cn.p] [.box bn]
def rE(a:bn.ty)(b:ah ay):aq (ah (ah ay)×aW×bn.ty):=UQ.c.f (a,b,())
def Rk(c a:_):rE c a=ite (ao ((ae a:aw)>400)) (ai ([],aA,(bI c))) (af (mq a 32) λb=>ite ((ae b:aw)==1) (af (mw (bI c) a) λe=>ai ((tk e.1),e.2.1,(bI e.2.2)))<|ite (ao (0<(ae b:aw))) (af (b[0]?) λh=>ite (ao (0<(ae b:aw))) (af (b[0]?) λf=>ite (ao (0<=aj ak ((ae f:aw)+1))&&ao (aj ak ((ae f:aw)+1)<=(ae a:aw))) (af (vk (bI c) h (a.drop ((aj ak ((ae f:aw)+1)).toNat))) λd=>ite d.2.1 (ai ((tk d.1),aB,(bI d.2.2)))<|af (mx (bI d.2.2) (tk b)) λg=>ai ((tk g.1),g.2.1,(bI g.2.2))) au) au) au):=bh
def th:=K 437 [mS] [mS,mI] "RNCoRi6aYRHiKZNhXqSbJHN2PtroR41HewESGzXO78EPIkKnGTIGDKJyfGJGBlRL16tKjx5A42N0Ehv01DPv3XiYX4pJVWgM9EedsGNa8vsv2XAhf4swNPeWDIIwKjnslsW7p5ObxoiS4C0wvRglBjMYGFcyKmUjeBVwvNDAx7XIjnwruDmcpXZwmLh6uC652EVYgXWu7hUxjNCJuh" [(576,Rl),UQ.p,jj.p]
def Uy(a:ah ay):aq (ah ay×aw):=th.c.f (a,())
def BZ(a:aw)(b:ah (ah ay)):aq (ah ay×aw):=th.g 0x4c4cc3 [vI a] [.sl eS b]
def p9(a:aw)(b:ah ay)(c:aw)(d:bn.ty)(e:ah (ah ay)):aq (ah ay×aw):=th.g 0x40b2e779307fbea4fa92037c6a5fe [vI a,vS b,vI c] [bn.v d,.sl eS e]
def vU(a:aw)(b:ah ay)(c d:aw)(e:bn.ty)(f h:ah (ah ay)):aq (ah ay×aw):=th.g 0x1aad014ccb73ae6fd166ea0319ca1e2c53ab72731 [vI a,vS b,vI c,vI d] [bn.v e,.sl eS f,.sl eS h]
def akE(b:_):Uy b=af (mq b 10) λa=>ite (ao (0<=aj ak ((ae a:aw)-1))&&ao (aj ak ((ae a:aw)-1)<(ae a:aw))) (af (a[(aj ak ((ae a:aw)-1)).toNat]?) λc=>ite (c==[]) (BZ (aj ak ((ae a:aw)-1)) a)<|BZ (ae a:aw) a) au:=bh
def acb(a b:_):BZ a b=ite (ao (a>60)) (ai ([],5)) (af (aiX) λc=>p9 a [] 0 c b):=bB
def Nf(d b a f c:_):p9 d b a f c=ite (ao (a<d)) (ite (ao (0<=a)&&ao (a<(ae c:aw))) (af (c[a.toNat]?) λg=>af (rE (bI f) g) λe=>ite (!e.2.1) (ite (ao (ae b+ [63,10].length<=cQ)) (p9 d (b++ [63,10]) (aj ak (a+1)) e.2.2 c) au)<|vU d b a 0 e.2.2 c e.1) au) (ai (b,0)):=bB
def Ng(d c e a f g b:_):vU d c e a f g b=ite (ao (a<(ae b:aw))) (ite (ao (0<=a)&&ao (a<(ae b:aw))) (af (b[a.toNat]?) λh=>ite (ao (h.length+ [10].length<=cQ)) (ite (ao (ae c+ae (h++ [10])<=cQ)) (vU d (c++(h++ [10])) e (aj ak (a+1)) f g b) au) au) au) (p9 d c (aj ak (e+1)) f g):=bB
def nC:Callee:=aot
def strings_Split(a0:ah ay)(a1:ah ay):aq (ah (ah ay)):=nC.f (a0,a1,())
def Tn(a0:ah ay)(a1:ah ay):strings_Split a0 a1=ite (ao (ae a0<4294967281)&&ao (1<=ae a1)) (ai (Aw a1 0 (WI a0 a1) a0)) au:=rfl
def iB:=K 21 [mI,mI] [mB] "105K2sQoZhY5V2L"
def iO(a b:aw):aq aW:=iB.c.f (a,b,())
def gO(a b:_):iO a b=ai (ao (a<=b)):=bh
def Mr:=K 196 [] [.d cM] "2UNv2uIxfJbf5IhBPZmJ9O8OzJRWvYu7Tc8bUhcOvCFWZYQucNEUP0DgaHxLOqsuR7PoDmL671cAHWaCqE5nQYkqZFa7JlPXeQNtSl3E1tlrTYPc"
def adM:aq (cM.ty):=Mr.c.f (())
def aji:adM=ai ([],[],[[30,32],[31,33]],1300,1950,60,110,[],[],[],[],[],()):=bh
def Ej:=K 22 [.d (.one (.int .u8))] [mB] "17WI5r1ogkJ1dmJT4wvFZsaZ"
def KS(a:aw):aq aW:=Ej.c.f (a,())
def ajm(a:_):KS a=ite (ao (a>=48)) (ai (ao (a<=57))) (ai aA):=bh
def jQ:=K 24 [mS] [mB] "1dkkw8I9sIlV1vVgjihOYRu2ux5aWxuCyszRwtH0IyuBQGQ1BX0JMLKI9ttTY1117RwD61XFsmW8r7PIU7TWUVqB5EfNZSolT0oQ5O3B" [iB.p,Ej.p]
def og(a:ah ay):aq aW:=jQ.c.f (a,())
def xN(a:ah ay)(b:aw):aq aW:=jQ.g 0xe0f87a [vS a,vI b]
def DX(a:ah ay)(b:aw)(c:aW):aq aW:=jQ.g 0x15e459a860a [vS a,vI b,vB c]
def amt(a:_):og a=xN a 0:=bh
def O2(a b:_):xN a b=ite (ao (b<(ae a:aw))) (ite (ao (0<=b)) (af (a[b.toNat]?) λc=>ite (ao ((c.toNat:aw)>=97)) (ite (ao (0<=b)) (af (a[b.toNat]?) λd=>DX a b (ao ((d.toNat:aw)<=122))) au)<|DX a b aA) au) (ite (!(a==[])) (af (iO (ae a:aw) 10) λe=>ai e)<|ai aA):=bB
def adL(b a c:_):DX b a c=ite (!c) (ite (a==0) (ai aA)<|ite (ao (0<=a)) (af (b[a.toNat]?) λd=>af (KS (d.toNat:aw)) λe=>ite (!e) (ai aA)<|xN b (aj ak (a+1))) au) (xN b (aj ak (a+1))):=bB
def cB:=K 23 [mI,mI,mI] [mB] "9CVSY0wmB6U3zAuISuiHwAqKl"
def cj(a b d:aw):aq aW:=cB.c.f (a,b,d,())
def amP(a b c:_):cj a b c=ite (ao (b<=a)) (ai (ao (a<=c))) (ai aA):=bh
def HN:=K 483 [mI] [mB] "6eVRaI3XrQJ7CG" [cB.p]
def Pr(a:aw):aq aW:=HN.c.f (a,())
def MI(a:_):Pr a=af (cj a 0 1000) λb=>ai b:=bh
def Ei:=K 682 [mI] [mB] "1f1CDLdKJtnXfMQX" [cB.p]
def TT(a:aw):aq aW:=Ei.c.f (a,())
def HJ(a:_):TT a=af (cj a 0 36524) λb=>ai b:=bh
def uD:=K 485 [.d aZ] [mB] "5J0gudsbUzqTjBJhpBpclfDZyRJSX4akzl136T1t77191" [cB.p,jQ.p,HN.p,Ei.p]
def sF(a:aZ.ty):aq aW:=uD.c.f (a,())
def ZG(a:_):sF a=af (og a.1) λb=>ite b (af (Pr a.2.1) λc=>ite c (af (cj a.2.2.1 10 1000) λd=>ite d (af (TT a.2.2.2.1) λe=>ai e)<|ai aA)<|ai aA)<|ai aA:=bh
def o3:=K 713 [.d (.one (.sl aZ))] [mB] "45jhFsE3LFSd7wix8y9K8olJnPUsgcUGWRCoMQQYYaA8ZSMK8DdxiujKRKOp1umaOXNUJmOvyLVi3FsfWFOKnyyFRIvA2nCgp" [iB.p,uD.p]
def zk(a:ah aZ.ty):aq aW:=o3.c.f (a,())
def nI(a b:ah aZ.ty)(c d:aw):aq aW:=o3.g 0xe0f85a [.sl aZ a,.sl aZ b,vI c,vI d]
def ZK(a:_):zk a=nI a a (ae a:aw) 0:=bh
def TR(b c d a:_):nI b c d a=ite (ao (a<d)) (ite (ao (0<=a)) (af (c[a.toNat]?) λe=>af (sF e) λf=>ite (!f) (ai aA)<|ite (ao (a>0)) (ite (ao (0<=aj ak (a-1))) (af (b[(aj ak (a-1)).toNat]?) λg=>ite (!dB g.1 e.1) (ai aA)<|nI b c d (aj ak (a+1))) au)<|nI b c d (aj ak (a+1))) au) (af (iO (ae b:aw) 12) λh=>ai h):=bB
def zh:=K 762 [.d be] [mB] "1YI6ZnPciyTtbQTfJDZtpGQ0EDqTb4D1MTL9NZ3TG" [cB.p,jQ.p]
def xT(a:be.ty):aq aW:=zh.c.f (a,())
def adQ(a:_):xT a=af (og a.1) λb=>ite b (af (cj a.2.1 1 10000) λc=>ite c (af (cj a.2.2.1 1 10000) λd=>ai d)<|ai aA)<|ai aA:=bh
def sJ:=K 509 [.d (.one (.sl be))] [mB] "XBx9jees66lucsI759cPIk1l5EOnXiqfVkaHHeSfAejJrY3XOmp4FgYd6G0gfIXpSZMAwbQJgs1IfYfpJyZliHrXRKbkDOgl" [iB.p,zh.p]
def xZ(a:ah be.ty):aq aW:=sJ.c.f (a,())
def qx(a b:ah be.ty)(c d:aw):aq aW:=sJ.g 0xe0f85a [.sl be a,.sl be b,vI c,vI d]
def adV(a:_):xZ a=qx a a (ae a:aw) 0:=bh
def Xc(b c d a:_):qx b c d a=ite (ao (a<d)) (ite (ao (0<=a)) (af (c[a.toNat]?) λe=>af (xT e) λf=>ite (!f) (ai aA)<|ite (ao (a>0)) (ite (ao (0<=aj ak (a-1))) (af (b[(aj ak (a-1)).toNat]?) λg=>ite (!dB g.1 e.1) (ai aA)<|qx b c d (aj ak (a+1))) au)<|qx b c d (aj ak (a+1))) au) (af (iO (ae b:aw) 8) λh=>ai h):=bB
def wm:=K 944 [.d (.one (.sl (.one (.sl (.one (.int .i64)))))),mI,mI,mI] [mB] "631IgxuQiA5gVAGcMz7B0O07pEH4MuIcqktcWfS266zNZUflshWcudOygyECXSKBeUeMwOZTOaFztbNBN1oF6lbaZ3tJSYVgLk10uzaTNZixIyEcntyBI7ztDaAdOH3cww3tvCITjPe5" [cB.p]
def aiz(a:ah (ah aw))(b d e:aw):aq aW:=wm.c.f (a,b,d,e,())
def Xj(a:ah (ah aw))(b c:aw):aq aW:=wm.g 0x81 [.sl eII a,vI b,vI c]
def o5(a:ah (ah aw))(b c:aw)(d:ah (ah aw))(e f:aw):aq aW:=wm.g 0xbfcd21b [.sl eII a,vI b,vI c,.sl eII d,vI e,vI f]
def yh(a:ah (ah aw))(b c:aw)(d:ah (ah aw))(e f:aw)(h:ah aw)(i j:aw):aq aW:=wm.g 0x13cd666fb02b572b [.sl eII a,vI b,vI c,.sl eII d,vI e,vI f,.sl eI h,vI i,vI j]
def amD(a b c d:_):aiz a b c d=af (cj (ae a:aw) 1 b) λe=>ite (!e) (ai aA)<|af (a[0]?) λf=>af (cj (ae f:aw) 1 b) λg=>ite (!g) (ai aA)<|Xj a c d:=bh
def adZ(a b c:_):Xj a b c=o5 a b c a (ae a:aw) 0:=bB
def Pm(b f g c d a:_):o5 b f g c d a=ite (ao (a<d)) (ite (ao (0<=a)) (af (c[a.toNat]?) λe=>af (b[0]?) λh=>ite ((ae e:aw) !=(h.length:aw)) (ai aA)<|yh b f g c d a e (ae e:aw) 0) au) (ai aB):=bB
def Po(d b c e f g h i a:_):yh d b c e f g h i a=ite (ao (a<i)) (ite (ao (0<=a)) (af (h[a.toNat]?) λj=>af (cj j b c) λk=>ite (!k) (ai aA)<|yh d b c e f g h i (aj ak (a+1))) au) (o5 d b c e f (aj ak (g+1))):=bB
def kH:=K 714 [.d (.one (.sl (.one (.sl (.one (.int .i64))))))] [mB] "1rl2gMfOiUg8Md1jE" [wm.p]
def nA(a:ah (ah aw)):aq aW:=kH.c.f (a,())
def abA(a:_):nA a=af (aiz a 10 1 200) λb=>ai b:=bh
def sG:=K 444 [.d iZ] [mB] "Ge22CeU5mFMH6JAlbXM3cI07XZ0R3dL1jRcbIOk2815SPYPTeGp16x7Igfd" [cB.p]
def xX(a:iZ.ty):aq aW:=sG.c.f (a,())
def adS(a:_):xX a=af (cj a.1 100 10000) λb=>ite b (af (cj a.2.1 100 10000) λc=>ite c (af (cj a.2.2.1 0 500) λd=>ite d (af (cj a.2.2.2.1 0 300) λe=>ai e)<|ai aA)<|ai aA)<|ai aA:=bh
def HK:=K 500 [mI] [mB] "T8uAxjXgEXMDiXV" [cB.p]
def Pq(a:aw):aq aW:=HK.c.f (a,())
def Xk(a:_):Pq a=af (cj a 20 200) λb=>ai b:=bh
def za:=K 796 [.d aZ] [mB] "cJ8V8vKSiA8W4C8AkH91Gg8QZn2BaEmqyhaXLOrRMqGFO2Lwf" [cB.p,jQ.p,HK.p]
def xR(a:aZ.ty):aq aW:=za.c.f (a,())
def adN(a:_):xR a=af (og a.1) λb=>ite b (af (Pq a.2.1) λc=>ite c (af (cj a.2.2.1 100 1000) λd=>ite d (af (cj a.2.2.2.1 10 100) λe=>ai e)<|ai aA)<|ai aA)<|ai aA:=bh
def sH:=K 468 [.d (.one (.sl aZ))] [mB] "45jhFsE3LFOjb7D3zNmclQ1d2lmA1Y0m0XIwlbopIJJ5P5zA9xd19siP6Fu43vS0oI5JZ76X5lgSzCOm8BgylBmtBHbeEC1v8" [iB.p,za.p]
def Ed(a:ah aZ.ty):aq aW:=sH.c.f (a,())
def qv(a b:ah aZ.ty)(c d:aw):aq aW:=sH.g 0xe0f85a [.sl aZ a,.sl aZ b,vI c,vI d]
def adT(a:_):Ed a=qv a a (ae a:aw) 0:=bh
def Xa(b c d a:_):qv b c d a=ite (ao (a<d)) (ite (ao (0<=a)) (af (c[a.toNat]?) λe=>af (xR e) λf=>ite (!f) (ai aA)<|ite (ao (a>0)) (ite (ao (0<=aj ak (a-1))) (af (b[(aj ak (a-1)).toNat]?) λg=>ite (!dB g.1 e.1) (ai aA)<|qv b c d (aj ak (a+1))) au)<|qv b c d (aj ak (a+1))) au) (af (iO (ae b:aw) 8) λh=>ai h):=bB
def El:=K 25 [mI] [mB] "GM05Uab5TtQ57q1" [cB.p]
def Ek(a:aw):aq aW:=El.c.f (a,())
def Vx(a:_):Ek a=af (cj a 1 10000) λb=>ai b:=bh
def QP:=K 26 [mI] [mB] "6NG9oPbNzUVi4Jb" [cB.p]
def aiA(a:aw):aq aW:=QP.c.f (a,())
def amE(a:_):aiA a=af (cj a 20 95) λb=>ai b:=bh
def sB:=K 30 [.d cx] [mB] "FDJuhqRywxRmvXukAt09uVtkUdoqtp1e051mzxvhDWar9AuYHzwD" [cB.p,jQ.p,El.p,QP.p]
def sA(a:cx.ty):aq aW:=sB.c.f (a,())
def adP(a:_):sA a=af (og a.1) λb=>ite b (af (Ek a.2.1) λc=>ite c (af (Ek a.2.2.1) λd=>ite d (af (aiA a.2.2.2.1) λe=>ite e (af (cj a.2.2.2.2.1 0 1000) λf=>ai f)<|ai aA)<|ai aA)<|ai aA)<|ai aA:=bh
def sI:=K 57 [.d (.one (.sl cx))] [mB] "9HhRfY0lCifBvDU4x5s8kvVwysd0RgCIb3mGHZVkwlEjzPw4yBGgG6PzjSX6psiMMNbrgfBlotQkj63YnRYkjOeGzqrdkdzZr" [iB.p,sB.p]
def xY(a:ah cx.ty):aq aW:=sI.c.f (a,())
def qw(a b:ah cx.ty)(c d:aw):aq aW:=sI.g 0xe0f85a [.sl cx a,.sl cx b,vI c,vI d]
def adU(a:_):xY a=qw a a (ae a:aw) 0:=bh
def Xb(b c d a:_):qw b c d a=ite (ao (a<d)) (ite (ao (0<=a)) (af (c[a.toNat]?) λe=>af (sA e) λf=>ite (!f) (ai aA)<|ite (ao (a>0)) (ite (ao (0<=aj ak (a-1))) (af (b[(aj ak (a-1)).toNat]?) λg=>ite (!dB g.1 e.1) (ai aA)<|qw b c d (aj ak (a+1))) au)<|qw b c d (aj ak (a+1))) au) (af (iO (ae b:aw) 8) λh=>ai h):=bB
def HO:=K 545 [mI] [mB] "8sh3utL24ABbLhR2vG" [cB.p]
def Ps(a:aw):aq aW:=HO.c.f (a,())
def Xm(a:_):Ps a=af (cj a 1000 100000) λb=>ai b:=bh
def wX:=K 551 [.d be] [mB] "AsZQEIv5PwxPNOagNvGrTqsu93HGaTlpAKe" [cB.p,jQ.p,HO.p]
def vz(a:be.ty):aq aW:=wX.c.f (a,())
def abu(a:_):vz a=af (og a.1) λb=>ite b (af (Ps a.2.1) λc=>ite c (af (cj a.2.2.1 1 500) λd=>ai d)<|ai aA)<|ai aA:=bh
def qt:=K 472 [.d (.one (.sl be))] [mB] "XBx9jees67HS9TlHxhJgo0Fdamd5KaMsnWVhDAYGr2FAXux5kjnaIHEaVIJ90zbt9fXz7FJlkcMGWnXDLbp4rqVhEt185Nt6" [iB.p,wX.p]
def vF(a:ah be.ty):aq aW:=qt.c.f (a,())
def oZ(a b:ah be.ty)(c d:aw):aq aW:=qt.g 0xe0f85a [.sl be a,.sl be b,vI c,vI d]
def abz(a:_):vF a=oZ a a (ae a:aw) 0:=bh
def Wb(b c d a:_):oZ b c d a=ite (ao (a<d)) (ite (ao (0<=a)) (af (c[a.toNat]?) λe=>af (vz e) λf=>ite (!f) (ai aA)<|ite (ao (a>0)) (ite (ao (0<=aj ak (a-1))) (af (b[(aj ak (a-1)).toNat]?) λg=>ite (!dB g.1 e.1) (ai aA)<|oZ b c d (aj ak (a+1))) au)<|oZ b c d (aj ak (a+1))) au) (af (iO (ae b:aw) 10) λh=>ai h):=bB
def QR:=K 977 [mI] [mB] "123y0NYaxSozAa" [cB.p]
def aiC(a:aw):aq aW:=QR.c.f (a,())
def amI(a:_):aiC a=af (cj a 1 40) λb=>ai b:=bh
def QO:=K 978 [mI] [mB] "GoTXy2LqBkR1C" [cB.p]
def Xi(a:aw):aq aW:=QO.c.f (a,())
def amB(a:_):Xi a=af (cj a 0 39) λb=>ai b:=bh
def w9:=K 791 [.d aZ] [mB] "NfXx4c1spkJwmrkATxulMbAEVAvi23udh15fSxZR0ga19PVsFs9NnilHH5TUV" [jQ.p,QR.p,QO.p]
def vG(a:aZ.ty):aq aW:=w9.c.f (a,())
def abC(a:_):vG a=af (og a.1) λb=>ite b (af (aiC a.2.1) λc=>ite c (af (Xi a.2.2.1) λd=>ite d (af (Xi a.2.2.2.1) λe=>ite e (ai (ao (aj ak ((aj ak (a.2.2.1+a.2.1))-1)<=a.2.2.2.1)))<|ai aA)<|ai aA)<|ai aA)<|ai aA:=bh
def w8:=K 715 [.d (.one (.sl aZ))] [mB] "45jhFsE3LFOjb7D3zNmclQ1d2lmA1Y0m0XIwlbopIJJ5P5zA9xd19siP6Fu43vS0oI5JZ76X5lgSzCOm8BgylBmtBHbeEC1v8" [iB.p,w9.p]
def pZ(a:ah aZ.ty):aq aW:=w8.c.f (a,())
def o4(a b:ah aZ.ty)(c d:aw):aq aW:=w8.g 0xe0f85a [.sl aZ a,.sl aZ b,vI c,vI d]
def abB(a:_):pZ a=o4 a a (ae a:aw) 0:=bh
def Wd(b c d a:_):o4 b c d a=ite (ao (a<d)) (ite (ao (0<=a)) (af (c[a.toNat]?) λe=>af (vG e) λf=>ite (!f) (ai aA)<|ite (ao (a>0)) (ite (ao (0<=aj ak (a-1))) (af (b[(aj ak (a-1)).toNat]?) λg=>ite (!dB g.1 e.1) (ai aA)<|o4 b c d (aj ak (a+1))) au)<|o4 b c d (aj ak (a+1))) au) (af (iO (ae b:aw) 8) λh=>ai h):=bB
def oU:=K 809 [.d aR] [mB] "6mpW3maA01ZfxRSzv8LsraiUThehJu12wZ1YaP9yKuhyPrCL2UQw1LK59nH0mP73Pl3OYDan" [cB.p,jQ.p]
def lP(a:aR.ty):aq aW:=oU.c.f (a,())
def ZD(a:_):lP a=af (og a.1) λb=>ite b (af (og a.2.1) λc=>ite c (ite (ao (1500<=a.2.2.1)) (ite (ao (a.2.2.1<=a.2.2.2.1)) (ite (ao (a.2.2.2.1<=2100)) (af (cj a.2.2.2.2.1 1 1000) λd=>ai d)<|ai aA)<|ai aA)<|ai aA)<|ai aA)<|ai aA:=bh
def ja:=K 635 [.d (.one (.sl aR))] [mB] "18pLADDBm40U3kiJCV803EzIxnEVSNKZzP0iinJpAVesVIAA4gxXSaqSvZbc2R7w45Sza1nhTBAqgNyJXazcbgUsIkwKWK3lS2" [iB.p,oU.p]
def js(a:ah aR.ty):aq aW:=ja.c.f (a,())
def nH(a b:ah aR.ty)(c d:aw):aq aW:=ja.g 0xe0f85a [.sl aR a,.sl aR b,vI c,vI d]
def ZH(a:_):js a=nH a a (ae a:aw) 0:=bh
def TQ(b c d a:_):nH b c d a=ite (ao (a<d)) (ite (ao (0<=a)) (af (c[a.toNat]?) λe=>af (lP e) λf=>ite (!f) (ai aA)<|ite (ao (a>0)) (ite (ao (0<=aj ak (a-1))) (af (b[(aj ak (a-1)).toNat]?) λg=>ite (!dB g.1 e.1) (ai aA)<|nH b c d (aj ak (a+1))) au)<|nH b c d (aj ak (a+1))) au) (af (iO (ae b:aw) 12) λh=>ai h):=bB
def zj:=K 288 [.d cM] [mB] "OwzjM2O4BTMNQYvHXAtA1eY4G1fB64ZGDVvYjgUqgtVuBxrbUj25s4mXzwYZEXWg9Amu5X0Vl5gtBfvnUVIU0CmPowDSa38CXPxoZounKlO0lPWr90URnA" [sI.p,sG.p,sH.p,qt.p,sJ.p,ja.p,o3.p,kH.p,w8.p]
def Ec(a:cM.ty):aq aW:=zj.c.f (a,())
def adR(a:_):Ec a=af (zk a.1) λb=>ite b (af (xZ a.2.1) λc=>ite c (af (nA a.2.2.1) λd=>ite d (af (xX (a.2.2.2.1,a.2.2.2.2.1,a.2.2.2.2.2.1,a.2.2.2.2.2.2.1,())) λe=>ite e (af (Ed a.2.2.2.2.2.2.2.1) λf=>ite f (af (xY a.2.2.2.2.2.2.2.2.1) λg=>ite g (af (vF a.2.2.2.2.2.2.2.2.2.1) λh=>ite h (af (pZ a.2.2.2.2.2.2.2.2.2.2.1) λi=>ite i (af (js a.2.2.2.2.2.2.2.2.2.2.2.1) λj=>ai j)<|ai aA)<|ai aA)<|ai aA)<|ai aA)<|ai aA)<|ai aA)<|ai aA)<|ai aA:=bh
def qY:=K 1002 [.d (.one (.sl aZ))] [.tok aZ] "yjwD0uXRb2edpv1nn9M1z5i6K9T"
def Ee(a:ah aZ.ty):aq (ah aZ.ty):=qY.c.f (a,())
def OC(a:_):Ee a=ite (ao (0<=(ae a:aw))&&ao ((ae a:aw).toNat<lim)) (ite (ao (0+ae a<lim)) (ai (([]++a).take (ae ([]++a)))) au) au:=bh
def uJ:=K 758 [.d (.one (.sl be))] [.tok be] "FuaHh5RgHpeIDNpKIsILP5sheaK"
def IC(a:ah be.ty):aq (ah be.ty):=uJ.c.f (a,())
def SA(a:_):IC a=ite (ao (0<=(ae a:aw))&&ao ((ae a:aw).toNat<lim)) (ite (ao (0+ae a<lim)) (ai (([]++a).take (ae ([]++a)))) au) au:=bh
def gA:=K 624 [Wg] [kI] "2dvLQlJX7uzf5apk4mB8sqm"
def kK(a:ah aw):aq (ah aw):=gA.c.f (a,())
def ya(a:_):kK a=ite (ao (0<=(ae a:aw))&&ao ((ae a:aw).toNat<lim)) (ite (ao (0+ae a<lim)) (ai (([]++a).take (ae ([]++a)))) au) au:=bh
def BL:=K 1003 [.d (.one (.sl (.one (.sl (.one (.int .i64))))))] [.d (.one (.sl (.one (.sl (.one (.int .i64))))))] "4a8PA6IMJY3h5oRRg66atDeZJxfnlY5bp1xMfm9vxaJikftq1BUf6kH6RqzLEXmY6Mw9tr" [gA.p]
def aay(a:ah (ah aw)):aq (ah (ah aw)):=BL.c.f (a,())
def sO(a:ah (ah aw))(b c:aw)(d:ah (ah aw)):aq (ah (ah aw)):=BL.g 0x52ae83a8b8 [.sl eII a,vI b,vI c] [.sl eII d]
def agq(a:_):aay a=sO a (ae a:aw) 0 []:=bh
def Kc(c d a b:_):sO c d a b=ite (ao (a<d)) (ite (ao (0<=a)) (af (c[a.toNat]?) λe=>af (kK e) λf=>ite (ao (ae b+1<lim)) (sO c d (aj ak (a+1)) ((tk b)++ [f])) au) au) (ai (tk b)):=bB
def uH:=K 1004 [.d (.one (.sl aZ))] [.tok aZ] "yjwD0uXRb2edpv1nn9M1z5i6K9T"
def IA(a:ah aZ.ty):aq (ah aZ.ty):=uH.c.f (a,())
def Sx(a:_):IA a=ite (ao (0<=(ae a:aw))&&ao ((ae a:aw).toNat<lim)) (ite (ao (0+ae a<lim)) (ai (([]++a).take (ae ([]++a)))) au) au:=bh
def uI:=K 1005 [.d (.one (.sl cx))] [.tok cx] "3zQ4NfWPsjHcaKzAHtbxzo9YgVN4"
def IB(a:ah cx.ty):aq (ah cx.ty):=uI.c.f (a,())
def Sy(a:_):IB a=ite (ao (0<=(ae a:aw))&&ao ((ae a:aw).toNat<lim)) (ite (ao (0+ae a<lim)) (ai (([]++a).take (ae ([]++a)))) au) au:=bh
def sL:=K 473 [.d (.one (.sl be))] [.tok be] "FuaHh5RgHpeIDNpKIsILP5sheaK"
def FY(a:ah be.ty):aq (ah be.ty):=sL.c.f (a,())
def QH(a:_):FY a=ite (ao (0<=(ae a:aw))&&ao ((ae a:aw).toNat<lim)) (ite (ao (0+ae a<lim)) (ai (([]++a).take (ae ([]++a)))) au) au:=bh
def sN:=K 1006 [.d (.one (.sl aZ))] [.tok aZ] "yjwD0uXRb2edpv1nn9M1z5i6K9T"
def FZ(a:ah aZ.ty):aq (ah aZ.ty):=sN.c.f (a,())
def QI(a:_):FZ a=ite (ao (0<=(ae a:aw))&&ao ((ae a:aw).toNat<lim)) (ite (ao (0+ae a<lim)) (ai (([]++a).take (ae ([]++a)))) au) au:=bh
def mH:=K 1305 [.d (.one (.sl aR))] [.d (.one (.sl aR))] "URHHy5vczzKEzE994UK63XXLqoTX"
def xa(a:ah aR.ty):aq (ah aR.ty):=mH.c.f (a,())
def GR(a:_):xa a=ite (ao (0<=(ae a:aw))&&ao ((ae a:aw).toNat<lim)) (ite (ao (0+ae a<lim)) (ai (([]++a).take (ae ([]++a)))) au) au:=bh
def Jx:=K 837 [.d cM] [.d bn] "19If3dybbdD7BrrRojrmp5F5dUoci1v0EiMSJ4VnpCmDQBehlzpmm0TI8TK3yMeuljD0WByGZXgNwpKb1BcdqzWSGv2rEVgDifTm31hiCjwYBmbAg7r4W0" [sL.p,uJ.p,qY.p,BL.p,uH.p,uI.p,sN.p,mH.p]
def HI(a:cM.ty):aq (bn.ty):=Jx.c.f (a,())
def agp(a:_):HI a=af (Ee a.1) λb=>af (IC a.2.1) λc=>af (aay a.2.2.1) λd=>af (IA a.2.2.2.2.2.2.2.1) λe=>af (IB a.2.2.2.2.2.2.2.2.1) λf=>af (FY a.2.2.2.2.2.2.2.2.2.1) λg=>af (FZ a.2.2.2.2.2.2.2.2.2.2.1) λh=>af (xa a.2.2.2.2.2.2.2.2.2.2.2.1) λi=>ai ((tk b),(tk c),d,a.2.2.2.1,a.2.2.2.2.1,a.2.2.2.2.2.1,a.2.2.2.2.2.2.1,(tk e),(tk f),(tk g),(tk h),i,()):=bh
def TU:=K 484 [mI] [mB] "v1m5hgCkv88sr3" [cB.p]
def amC(a:aw):aq aW:=TU.c.f (a,())
def apx(a:_):amC a=af (cj a 0 4000) λb=>ai b:=bh
def jW:=K 27 [mI,mI] [mI] "Sm4LdE4qFuHnF3RhdQ6I9Z16F5vrdZk8Qgschc2pFU8zNzkhmqUjv9jSzM30yP1PfmtfocuPHHDYPu3nBJT"
def mj(a b:aw):aq aw:=jW.c.f (a,b,())
def agr(b a:_):mj b a=ite (ao ((ite (aj ak (0-a)>a) (aj ak (0-a)) a)=0)) au (ite (ao ((ite (aj ak (0-a)>a) (aj ak (0-a)) a)=0)) au<|ite (ao ((ite (aj ak (0-b)>b) (aj ak (0-b)) b).tmod (ite (aj ak (0-a)>a) (aj ak (0-a)) a)>=aj ak ((ite (aj ak (0-a)>a) (aj ak (0-a)) a)-((ite (aj ak (0-b)>b) (aj ak (0-b)) b).tmod (ite (aj ak (0-a)>a) (aj ak (0-a)) a))))) (ite (!(ao (b<0)==ao (a<0))) (ai (aj ak (0-(aj ak ((aj ak ((ite (aj ak (0-b)>b) (aj ak (0-b)) b).tdiv (ite (aj ak (0-a)>a) (aj ak (0-a)) a)))+1)))))<|ai (aj ak ((aj ak ((ite (aj ak (0-b)>b) (aj ak (0-b)) b).tdiv (ite (aj ak (0-a)>a) (aj ak (0-a)) a)))+1)))<|ite (!(ao (b<0)==ao (a<0))) (ai (aj ak (0-(aj ak ((ite (aj ak (0-b)>b) (aj ak (0-b)) b).tdiv (ite (aj ak (0-a)>a) (aj ak (0-a)) a))))))<|ai (aj ak ((ite (aj ak (0-b)>b) (aj ak (0-b)) b).tdiv (ite (aj ak (0-a)>a) (aj ak (0-a)) a)))):=bh
def KP:=K 452 [mI,mI,mI,mI,mI] [mI] "4sMwNmNkiz8HSzbAeuZmjxljlfOwjSw5lP77ktJhUQebk2p1ZRFRBgLPcjj0tiHgc8dmnwLHSDf2EUFw" [jW.p]
def CG(a b d e g:aw):aq aw:=KP.c.f (a,b,d,e,g,())
def aaw(a b c d e:aw):aq aw:=KP.g 0x128 [vI a,vI b,vI c,vI d,vI e]
def apv(a b c e d:_):CG a b c e d=ite (ao (d<=a)) (ai b) (ite (ao (c<=a)) (ai b)<|ite (ao (d>=c)) (ai e)<|aaw a b c e d):=bh
def agn(a b c d e:_):aaw a b c d e=af (mj (aj ak ((aj ak (d-b))*(aj ak (e-a)))) (aj ak (c-a))) λf=>ai (aj ak (b+f)):=bB
def IE:=K 486 [mI] [mI] "45S0vP0wxzZbFrDGcZYTbq6UxjQs8Y8TZgt7aHVM502iPpxxRgbp8M3F2YmAhFRGrh3V9xkKid9xqtOWkbH9jBvWFPpy8zxXMHKwuK2T2DILl3Yb79fyJIpd8V8fWna4U4hsPUv7U3UJJ0velJTNaVCK46LMwr3" [KP.p]
def ags(a:aw):aq aw:=IE.c.f (a,())
def zq(a b c d e f h i j k l m:aw):aq aw:=IE.g 0x1367a76193207118 [vI a,vI b] [vI c,vI d,vI e,vI f,vI h,vI i,vI j,vI k,vI l,vI m]
def uL(a b c d e f h i j k l m:aw):aq aw:=IE.g 0x861168dada4 [vI a,vI b] [vI c,vI d,vI e,vI f,vI h,vI i,vI j,vI k,vI l,vI m]
def asu(a:_):ags a=zq a 1 0 0 300 60 600 110 800 160 1000 280:=bh
def BN(b a c d e f g h i j k l:_):zq b a c d e f g h i j k l=ite (ao (a<4)) (Oe a (λm1=>(λy2:aw=>ite (ao (b>y2)) (zq b (aj ak (a+1)) c d e f g h i j k l)<|uL b a c d e f g h i j k l) (nth 0 [c,d,e,f,g,h,i,j,k,l] (m1*2))) 5 0) (uL b a c d e f g h i j k l):=bB
def BO(l a b c d e f g h i j k:_):uL l a b c d e f g h i j k= Oe (aj ak (a-1)) (λm1=>(λy2:aw=>Oe (aj ak (a-1)) (λm3=>(λy4:aw=>Oe a (λm5=>(λy6:aw=>Oe a (λm7=>(λy8:aw=>af (CG y2 y4 y6 y8 l) λm=>ai m) (nth 0 [b,c,d,e,f,g,h,i,j,k] (m7*2+1))) 5 0) (nth 0 [b,c,d,e,f,g,h,i,j,k] (m5*2))) 5 0) (nth 0 [b,c,d,e,f,g,h,i,j,k] (m3*2+1))) 5 0) (nth 0 [b,c,d,e,f,g,h,i,j,k] (m1*2))) 5 0:=bB
def QG:=K 849 [mI,mI,mI] [mI] "1fvpme9dnF4sAkhpXetJXRmxDjq" [jW.p]
def Xd(a b d:aw):aq aw:=QG.c.f (a,b,d,())
def amv(a b c:_):Xd a b c=af (mj (aj ak (20*(aj ak (b-a)))) (aj ak (c+20))) λd=>ai d:=bh
def uC:=K 482 [.d aZ,mI,mI] [mI] "1c7OBfSBdppFmsoO6rqqPKHmXMBJUciMp1GT7dpf4db1TZsNGopwC5NSesPose2wPsSL6S3suvKFZ" [IE.p,QG.p]
def zi(a:aZ.ty)(b d:aw):aq aw:=uC.c.f (a,b,d,())
def r7(a b c d:aw)(e:aZ.ty):aq aw:=uC.g 0x4ffcfa394b0 [vI a,vI b,vI c,vI d] [aZ.v e]
def ZF(a b c:_):zi a b c=af (ags b) λd=>r7 d a.2.1 c 0 a:=bh
def D9(b a c d e:_):r7 b a c d e=ite (ao (d<c)) (af (Xd a b e.2.2.1) λf=>ite (f==0) (ai a)<|r7 b (aj ak (a+f)) c (aj ak (d+1)) e) (ai a):=bB
def oW:=K 414 [.d (.one (.sl aZ)),mI,mI,mI] [kI,mI] "3G2CShsN1aMKhyk6e1iiOpmGEWkiy7wC6U7sEVfVbnt4Ux54fxer7V8FqNviomUTyRk1BxayYBVLQOMrLns2Y0iNTWBrL7IaUT4EShKXHhnFtWyhAVRj4pZfFIfyLjeaWssJopxuXHyW9x9lct62WU1NrpQd4EQBs3JXFx42QX0ytQEg" [uC.p,HN.p,TU.p,Ei.p,o3.p]
def GL(a:ah aZ.ty)(b d e:aw):aq (ah aw×aw):=oW.c.f (a,b,d,e,())
def J8(a:ah aZ.ty)(b c d:aw):aq (ah aw×aw):=oW.g 0x129 [.sl aZ a,vI b,vI c,vI d]
def kU(a b c:aw)(d:ah aZ.ty)(e f:aw)(h:ah aw):aq (ah aw×aw):=oW.g 0x46b3c826d3c [vI a,vI b,vI c,.sl aZ d,vI e,vI f] [.sl eI h]
def ZE(a b c d:_):GL a b c d=af (zk a) λe=>ite (!e) (ai ([],1))<|af (Pr b) λf=>ite (!f) (ai ([],2))<|af (TT c) λg=>ite (!g) (ai ([],2))<|af (Pr d) λh=>ite (!h) (ai ([],2))<|J8 a b c d:=bh
def TO(a b c d:_):J8 a b c d=kU b c d a (ae a:aw) 0 []:=bB
def D6(d b e f g a c:_):kU d b e f g a c=ite (ao (a<g)) (ite (ao (0<=a)) (af (f[a.toNat]?) λh=>af (amC (aj ak (b-h.2.2.2.1))) λi=>ite i (af (zi h d (aj ak (b-h.2.2.2.1))) λj=>ite (ao (j<=e)) (ite (ao (ae c+1<lim)) (kU d b e f g (aj ak (a+1)) ((tk c)++ [a])) au)<|kU d b e f g (aj ak (a+1)) c)<|kU d b e f g (aj ak (a+1)) c) au) (ai ((tk c),0)):=bB
def AJ:Callee:=amf
def Qh(a0:aw)(a1:aw):aq (ah ay):=AJ.f (a0,a1,())
def YB(a0:aw)(a1:aw):Qh a0 a1=ite (ao (a1=10)&&(ao (-9223372036854775808<=a0)&&ao (a0<=9223372036854775807))) (ai (bT a0)) au:=rfl
def jP:=K 524 [mI] [mS] "2S90C64ZfMoXJ" [(864,AJ)]
def gU(a:aw):aq (ah ay):=jP.c.f (a,())
def ajg(a:_):gU a=af (Qh a 10) λb=>ai b:=bh
def yQ:Callee:=aJr
def strings_Join(a0:ah (ah ay))(a1:ah ay):aq (ah ay):=yQ.f (a0,a1,())
def JS(a0:ah (ah ay))(a1:ah ay):strings_Join a0 a1=if ao (ae a0<=140737488355328)&&ao (ae (jT a0 a1)<=140737488355328)then ai (jT a0 a1)else au:=rfl
def pY:=K 460 [Wg] [mS] "2f3EMRY7WdVZAURvWNd8j4AuetOs2Vgz3MzrMNjx3uijVQqItLcBd3wCXKjAVhhIZv0Y6VQJn2huo6vrPamHteKtl7cnFQp4EzQpHvd1VxI27lByb0IYs" [iB.p,cB.p,jP.p,(630,yQ)]
def wk(a:ah aw):aq (ah ay):=pY.c.f (a,())
def y5(a:ah aw)(b c:aw)(d:ah (ah ay)):aq (ah ay):=pY.g 0xbca4209565 [.sl eI a,vI b,vI c] [.sl eS d]
def Sl(a:_):wk a=af (iO (ae a:aw) 64) λb=>ite (!b) (ai [])<|ite ((ae a:aw)==0) (ai [45])<|y5 a (ae a:aw) 0 []:=bh
def J4(c d a b:_):y5 c d a b=ite (ao (a<d)) (ite (ao (0<=a)) (af (c[a.toNat]?) λe=>af (cj e (-1000000000000) 1000000000000) λf=>ite (!f) (ai [])<|af (gU e) λg=>ite (ao (ae b+1<lim)) (y5 c d (aj ak (a+1)) ((tk b)++ [g])) au) au) (af (strings_Join (tk b) [44]) λh=>ai h):=bB
def CJ:=K 1079 [mS,mI] [kS,mI] "4UuC7Vi9lqSpulATT0wxlvE"
def SH(a:ah ay)(b:aw):aq (ah (ah ay)×aw):=CJ.c.f (a,b,())
def IJ(a b:_):SH a b=ai ([a],b):=bh
def lf:=K 1078 [Wg,mI] [kS,mI] "2aSfIneczrECotWi3smvYpTPe" [pY.p,CJ.p]
def oh(a:ah aw)(b:aw):aq (ah (ah ay)×aw):=lf.c.f (a,b,())
def agu(a b:_):oh a b=af (wk a) λd=>af (SH d b) λc=>ai ((tk c.1),c.2):=bh
def Vn:=K 1312 [.p cM,.d da] [kS,mI] "3uAUQs2JI9sY147EEzz8rIp37U7H3tTuZDVFaQMvXcz0fA7ZMOINc" [oW.p,lf.p]
def QB(a:cM.ty)(b:da.ty):aq (ah (ah ay)×aw):=Vn.c.f (a,b,())
def age(b a:_):QB b a=af (a.1[0]?) λe=>af (a.1[1]?) λf=>af (GL b.1 e a.2.2.1 f) λc=>af (oh c.1 c.2) λd=>ai ((tk d.1),d.2):=bh
def MJ:=K 508 [mI,mI] [mB] "1Xuz5YNKNdxbBdcxUmLiOEkVQ4ID" [cB.p]
def TW(a b:aw):aq aW:=MJ.c.f (a,b,())
def ajo(a b:_):TW a b=af (cj a 1 100000) λc=>ite c (af (cj b 0 100) λd=>ai d)<|ai aA:=bh
def oa:=K 507 [.p aqm] [mB] "YvaJRiH9UHBFu59VXO1HFSftDCauHJur5VVvs9HKKh3FOV9CNLUlSajOptdh"
def ye(a:aqm.ty):aq aW:=oa.c.f (a,())
def ng(a:ah be.ty)(b c:aw)(d e:ah aw)(f h:aw)(i:ah be.ty)(j k:aw):aq aW:=oa.g 0x92dc26d466 [.sl be a,vI b,vI c,.sl eI d,.sl eI e,vI f,vI h,.sl be i,vI j,vI k]
def SB(a:_):ye a=ng a.1 a.2.1 a.2.2.1 a.2.2.2.1 a.2.2.2.2.1 a.2.2.2.2.2.1 a.2.2.2.2.2.2.1 a.1 (ae a.1:aw) 0:=bh
def yf(e b f g h i j c d a:_):ng e b f g h i j c d a=ite (ao (a<d)) (ite (ao (0<=a)) (af (c[a.toNat]?) λk=>ite (ao (k.2.1>b)) (ai aB)<|ng e b f g h i j c d (aj ak (a+1))) au) (ai aA):=bB
def nJ:=K 510 [.box dH,mI] [mI,mB] "f7xoDeGm7fVMOQbwlYyreA2qLOsjK28yceyDiUhIAwEXujDykPPhXWlbtb5iQ9IjSYC7CvjaVRFapSjZJx4QfsbRidP0uR2CAAJb0Dg3hUy2T5Q9aBmuZrWONJY3QkVEzSc2WKmzuWt8iw5lb" [] [.box dH]
def xb(a:dH.ty)(b:aw):aq (aw×aW×dH.ty):=nJ.c.f (a,b,())
def yc(a b:aw)(c:dH.ty):aq (aw×aW×dH.ty):=nJ.g 0x136e09961bc91 [vI a,vI b] [dH.v c]
def yb(a b:_):xb a b=ite (ao (0<=(ae a.2.2.2.2.1:aw))) (af (a.1[(ae a.2.2.2.2.1:aw).toNat]?) λc=>ite (b==(ae a.2.2.2.1:aw)) (ite (ao (ae a.2.2.2.1+1<lim)) (yc b c.2.1 (a.1,a.2.1,a.2.2.1,(tk a.2.2.2.1)++ [aj ak (a.2.1+a.2.2.1)],a.2.2.2.2.1,a.2.2.2.2.2.1,a.2.2.2.2.2.2.1,())) au)<|yc b c.2.1 a) au:=bh
def sP(b c a:_):yc b c a=ite (ao (0<=b)&&ao (b<(ae a.2.2.2.1:aw))) (af (a.2.2.2.1[b.toNat]?) λd=>ite (ao (aj ak (c+a.2.2.1)>d)) (ai (d,aA,(rH a)))<|ite (ao (0<=b)&&ao (b<(ae a.2.2.2.1:aw))) (af (a.2.2.2.1[b.toNat]?) λe=>ite (ao (0<=b)&&ao (b<(ae a.2.2.2.1:aw))) (af (a.2.2.2.1[b.toNat]?) λf=>ite (ao (ae a.2.2.2.2.1+1<lim)) (ai (d,aB,(a.1,a.2.1,a.2.2.1,((a.2.2.2.1.set b.toNat (aj ak (e-(aj ak (c+a.2.2.1))))).take (ae a.2.2.2.1)),(((tk a.2.2.2.2.1)++ [b]).take (ae ((tk a.2.2.2.2.1)++ [b]))),a.2.2.2.2.2.1,a.2.2.2.2.2.2.1,()))) au) au) au) au:=bB
def lC:ax->Hv [.box dH]->aq (Ts ([mB,mB]++ [.box dH])) |0=>λ_=>au |n+1=>(K 506 [.box dH] [mB,mB] "13yu9MqcvF3Md1TMnyJAhEuw7jV54gWyg8T1kC21zLIunuSuuowGU6VNlIPk89kkF2PA6USTeEhGpeUiRa55a08bOHtKV6C2STctEht7PAEDOsvkJ6l4RwAlg89QiGAfmFhSNOsMZaBG0IINPtjUsJW756RNPQ2sZkZqm9sudKBqWf2wrWEtgoHsUII7cgMLCH2OLBlnYQ3PzBMo5d" [(506,⟨[aB],[.box dH],[mB,mB],[.box dH],lC n⟩),nJ.p] [.box dH]).c.f
def gu(n:ax):=K 506 [.box dH] [mB,mB] "13yu9MqcvF3Md1TMnyJAhEuw7jV54gWyg8T1kC21zLIunuSuuowGU6VNlIPk89kkF2PA6USTeEhGpeUiRa55a08bOHtKV6C2STctEht7PAEDOsvkJ6l4RwAlg89QiGAfmFhSNOsMZaBG0IINPtjUsJW756RNPQ2sZkZqm9sudKBqWf2wrWEtgoHsUII7cgMLCH2OLBlnYQ3PzBMo5d" [(506,⟨[aB],[.box dH],[mB,mB],[.box dH],lC n⟩),nJ.p] [.box dH]
def F2:Callee:=⟨[aB],[.box dH],[mB,mB],[.box dH],lC 1000⟩
def F0(n:ax):Callee:=⟨[aB],[.box dH],[mB,mB],[.box dH],lC n⟩
def QK(n:ax):F0 (n+1)=(gu n).c:=by kernel_rfl
def sa(n:ax)(a:dH.ty):aq (aW×aW×dH.ty):=lC n (a,())
def nY(n:ax)(a b:aw)(c:ah be.ty)(d e:aw)(f h:ax)(i j:aw)(k l:ah aw):aq (aW×aW×dH.ty):=(gu n).g 0x955c2904a2a2230 [vI a,vI b] [.sl be c,vI d,vI e,.view 1003 0 f,.view 1004 0 h,vI i,vI j,.sl eI k,.sl eI l]
def Eg(n:ax)(a b:aw)(c:ah be.ty)(d e:aw)(f h:ax)(i j:aw)(k l:ah aw):aq (aW×aW×dH.ty):=(gu n).g 0x955c2904a2a2237 [vI a,vI b] [.sl be c,vI d,vI e,.view 1003 0 f,.view 1004 0 h,vI i,vI j,.sl eI k,.sl eI l]
def Eh(n:ax)(a b c:aw)(d:dH.ty):aq (aW×aW×dH.ty):=(gu n).g 0x374fece99996268715e82f5d [vI a,vI b,vI c] [dH.v d]
def nZ(n:ax)(a b c:aw)(d:ah be.ty)(e f:aw)(h:ax)(i j:aw)(k l:ah aw):aq (aW×aW×dH.ty):=(gu n).g 0xb15262a5a707e4c035e9ff38 [vI a,vI b,vI c] [.sl be d,vI e,vI f,.view 1004 0 h,vI i,vI j,.sl eI k,.sl eI l]
def Ef(n:ax)(a:_):sa (n+1) a=
 if((ae a.2.2.2.2.1:aw)==(ae a.1:aw))then
  ai (aB,aB,(rH a))
 else
  nY n (ae a.2.2.2.1:aw) 0 a.1 a.2.1 a.2.2.1 (ae a.2.2.2.1) (ae a.2.2.2.2.1) a.2.2.2.2.2.1 a.2.2.2.2.2.2.1 a.2.2.2.1 a.2.2.2.2.1:=Tv (b:=(gu n).c.f (a,())) (by kernel_rfl) bh
def Ar(n:ax)(b c:ax)(k d e f g h a i j:_):nY n k d e f g b c h a i j=ite (ao (d<=k)) (ite (ao (d<a)) (Eg n k d e f g b c h a i j)<|ai (aA,aB,(e,f,g,(i.take b),(j.take c),h,a,()))) (ai (aA,aB,(e,f,g,(i.take b),(j.take c),h,a,()))):=bB
def OD(n:ax)(e f:ax)(d c g h i j k l m:_):Eg n d c g h i e f j k l m=af (xb (g,h,i,(l.take e),(m.take f),j,k,()) c) λa=>ite a.2.1 (ite (a.2.2.2.2.2.2.2.1==0) (ai (aA,aA,(rH a.2.2)))<|af (sa n (a.2.2.1,a.2.2.2.1,a.2.2.2.2.1,(tk a.2.2.2.2.2.1),(tk a.2.2.2.2.2.2.1),aj ak (a.2.2.2.2.2.2.2.1-1),a.2.2.2.2.2.2.2.2.1,())) λb=>ite b.1 (ai (b.1,b.2.1,(rH b.2.2)))<|ite (!b.2.1) (ai (b.1,b.2.1,(rH b.2.2)))<|Eh n d c a.1 b.2.2)<|nZ n d c a.1 a.2.2.1 a.2.2.2.1 a.2.2.2.2.1 (ae a.2.2.2.2.2.2.1) a.2.2.2.2.2.2.2.1 a.2.2.2.2.2.2.2.2.1 a.2.2.2.2.2.1 a.2.2.2.2.2.2.1:=bB
def OE(n:ax)(b c d a:_):Eh n b c d a=ite (ao (0<=aj ak ((ae a.2.2.2.2.1:aw)-1))&&ao (aj ak ((ae a.2.2.2.2.1:aw)-1)<=(ae a.2.2.2.2.1:aw))) (nZ n b c d a.1 a.2.1 a.2.2.1 ((aj ak ((ae a.2.2.2.2.1:aw)-1)).toNat) a.2.2.2.2.2.1 a.2.2.2.2.2.2.1 a.2.2.2.1 a.2.2.2.2.1) au:=bB
def OF(n:ax)(d:ax)(b a e f g h i j c k:_):nZ n b a e f g h d i j c k=ite (ao (0<=a)&&ao (a<(ae c:aw))) (af (c[a.toNat]?) λl=>ite (ao (0<=b)&&ao (b<=(ae c:aw))) (nY n b (aj ak (a+1)) f g h b.toNat d i j (c.set a.toNat e) k) au) au:=bB
def xK:=K 134 [.d (.one (.sl be)),mI,mI,mI] [Wg,mI,mI] "9nO6czg7dmWiTpBPCReZVcNG0SXc4G1OjYCm5aUuDN0hVVQfZB1j2iMyKjUUWRj8ONu8lHbWeexTjG0xeRByA1dic27LoVBtXQLd9AmzzMUTZuyEOTPTR1qeGP8I8XJku5mLnLr0jyS6cm7QPVVnoLw14EFM5B7APaPCRCzXH5rNEVglAE0AxK4xz3j61duOAGF30eS64V5RL91w4thwJixUhfF6b7awGskk9eu6ThkO6t68MIoun1sOQHHMXuIgwH8dkhJXo2ilEOcAQXKgNCOtO9z0" [cB.p,(506,F2),oa.p,MJ.p,sJ.p]
def TM(a:ah be.ty)(b d e:aw):aq (ah aw×aw×aw):=xK.c.f (a,b,d,e,())
def Vl(a:ah be.ty)(b c d e:aw):aq (ah aw×aw×aw):=xK.g 0x51d2ee07d974ba2e [] [.sl be a,vI b,vI c,vI d,vI e]
def BD(a:dH.ty):aq (ah aw×aw×aw):=xK.g 0x1e46271dd6085bdcf99 [] [dH.v a]
def aje(a b c d:_):TM a b c d=af (xZ a) λe=>ite (!e) (ai ([],0,1))<|af (TW b c) λf=>ite (!f) (ai ([],0,2))<|af (cj d 1 20000) λg=>ite (!g) (ai ([],0,2))<|af (ye (a,b,c,[],[],d,0,())) λh=>ite h (ai ([],0,6))<|Vl a b c d 0:=bh
def abm(a b c d e:_):Vl a b c d e= BD (a,b,c,[],[],d,0,()):=bB
def Mf(b:_):BD b=ite (ao (b.2.2.2.2.2.2.1<=8)) (af (sa 1000 (b.1,b.2.1,b.2.2.1,[],[],b.2.2.2.2.2.1,b.2.2.2.2.2.2.1,())) λa=>ite (!a.2.1) (ai ([],0,5))<|ite a.1 (ai ((tk a.2.2.2.2.2.2.1),a.2.2.2.2.2.2.2.2.1,0))<|BD (a.2.2.1,a.2.2.2.1,a.2.2.2.2.1,a.2.2.2.2.2.1,a.2.2.2.2.2.2.1,a.2.2.2.2.2.2.2.1,aj ak (a.2.2.2.2.2.2.2.2.1+1),())) (ai ([],0,5)):=bB
def Vm:=K 1313 [.p cM,.d da] [kS,mI] "4ftygPZnrjhgWhNkXnkPnw7n9RhtYLfgkZZZlmcIF8fty2pN3p4MiMMwDqDMRfdF0OY4rPHoGzF5YZjvMsP6" [xK.p,lf.p]
def QA(a:cM.ty)(b:da.ty):aq (ah (ah ay)×aw):=Vm.c.f (a,b,())
def agd(b a:_):QA b a=af (a.1[0]?) λe=>af (a.1[1]?) λf=>af (a.1[2]?) λg=>af (TM b.2.1 e f g) λc=>af (oh c.1 c.2.2) λd=>ai ((tk d.1),d.2):=bh
def QN:=K 772 [mI,mI] [mB] "4BstqwwqmdLmO6zmEW5opLg8WP9t" [cB.p]
def Xh(a b:aw):aq aW:=QN.c.f (a,b,())
def amA(a b:_):Xh a b=af (cj a 1 10000) λc=>ite c (af (cj b 1 2000) λd=>ai d)<|ai aA:=bh
def A2:=K 465 [.d (.one (.sl (.one (.sl (.one (.int .i64))))))] [.tok nb] "Kxa1y2AZcV4uGKkgcpCvSFsKlLqUuYBy4e5c0IHZxg3OysQM0jGmhteskXkgJh7FPamo1OukLjjpS844gBNY5WOFebPgWc0kSUeepyRsGyWXNhJmbD"
def Xo(a:ah (ah aw)):aq (ah nb.ty):=A2.c.f (a,())
def yk(a:ah (ah aw))(b c:aw)(d:ah nb.ty):aq (ah nb.ty):=A2.g 0xcddc276880 [.sl eII a,vI b,vI c] [.sl nb d]
def Em(a:aw)(b:ah (ah aw))(c d e f:aw)(h:ah nb.ty):aq (ah nb.ty):=A2.g 0x34880d2e4b70139d36 [vI a,.sl eII b,vI c,vI d,vI e,vI f] [.sl nb h]
def amL(a:_):Xo a=yk a (ae a:aw) 0 []:=bh
def Pv(b c a d:_):yk b c a d=ite (ao (a<c)) (ite (ao (0<=a)) (af (b[a.toNat]?) λe=>Em a b c a (ae e:aw) 0 d) au) (ai (tk d)):=bB
def Pw(c d e f g a b:_):Em c d e f g a b=ite (ao (a<g)) (ite (ao (ae b+1<lim)) (Em c d e f g (aj ak (a+1)) ((tk b)++ [(c,a,())])) au) (yk d e (aj ak (f+1)) b):=bB
def BQ:=K 464 [.d nb,.d (.one (.sl (.one (.sl (.one (.int .i64))))))] [mI] "xzM9o8AvJRbPRL0ujFrJltOs"
def HP(a:nb.ty)(b:ah (ah aw)):aq aw:=BQ.c.f (a,b,())
def agw(a b:_):HP a b=ite (ao (0<=a.1)) (af (b[a.1.toNat]?) λc=>ite (ao (0<=a.2.1)) (af (c[a.2.1.toNat]?) λd=>ai d) au) au:=bh
def zr:=K 771 [.d (.one (.sl (.one (.sl (.one (.int .i64)))))),mI,mI] [mI] "4qyGi2VJeK18PNP2542iFDHnrY6vjZmnrPNoCinWSavDrMouda0EbHOQFsbjrxk8HkVU9DBUO3C6Mv" [jW.p,BQ.p,A2.p]
def MM(a:ah (ah aw))(b d:aw):aq aw:=zr.c.f (a,b,d,())
def xd(a:ah (ah aw))(b c d:aw)(e:ah nb.ty)(f h:aw):aq aw:=zr.g 0x1d204c8 [.sl eII a,vI b,vI c,vI d,.sl nb e,vI f,vI h]
def ad4(a b c:_):MM a b c=af (Xo a) λd=>xd a b c 0 d (ae d:aw) 0:=bh
def IK(b c d e f g a:_):xd b c d e f g a=ite (ao (a<g)) (ite (ao (0<=a)) (af (f[a.toNat]?) λh=>af (HP h b) λi=>xd b c d (aj ak (e+i)) f g (aj ak (a+1))) au) (af (mj (aj ak ((aj ak (e*c))*d)) 10000) λj=>ai j):=bB
def GI:=K 362 [.d (.one (.sl (.one (.sl (.one (.int .i64)))))),mI,mI] [mI,mI] "BRTT9ay3Pwykl80gFt1mYgVhOfCIGIJV42B4BpAWVtFoK" [kH.p,zr.p,QN.p]
def xS(a:ah (ah aw))(b d:aw):aq (aw×aw):=GI.c.f (a,b,d,())
def D4(a b c:_):xS a b c=af (nA a) λd=>ite (!d) (ai (0,1))<|af (Xh b c) λe=>ite (!e) (ai (0,2))<|af (MM a b c) λf=>ai (f,0):=bh
def nh:=K 1080 [mI,mI] [kS,mI] "2aSfIneczrECotWi3smvYpTPe" [jP.p,CJ.p]
def p5(a b:aw):aq (ah (ah ay)×aw):=nh.c.f (a,b,())
def abE(a b:_):p5 a b=af (gU a) λd=>af (SH d b) λc=>ai ((tk c.1),c.2):=bh
def Sf:=K 1314 [.p cM,.d da] [kS,mI] "Ism5dsQmVPk3rpHQDhDlToONWDMts73pMI5uvEbfMg600u7Z" [GI.p,nh.p]
def Mi(a:cM.ty)(b:da.ty):aq (ah (ah ay)×aw):=Sf.c.f (a,b,())
def adE(b a:_):Mi b a=af (a.1[0]?) λe=>af (a.1[1]?) λf=>af (xS b.2.2.1 e f) λc=>af (p5 c.1 c.2) λd=>ai ((tk d.1),d.2):=bh
def JA:=K 449 [mI] [mB] "DJ0t5tAlK7hL2n" [cB.p]
def aaz(a:aw):aq aW:=JA.c.f (a,())
def SG(a:_):aaz a=af (cj a 0 2000) λb=>ai b:=bh
def uy:=K 447 [.d iZ] [mI] "9C1YwoCBPfVuzJQahnBKMfKdmMSjl" [jW.p]
def xO(a:iZ.ty):aq aw:=uy.c.f (a,())
def Sm(a:_):xO a=af (mj (aj ak (a.2.1*a.2.2.2.1)) 1000) λb=>ai (aj ak (a.2.2.1+b)):=bh
def xV:=K 317 [.d iZ,mI,mI] [mI,mI] "Rn42r8LaArlKqvkl88HdZ8hbuTw8cE5KQucUWuAMLuh0r5eg70zSQKOO3xBBJDzgTIokudohpp4ggUl3ZpR23601WGQU5PkYYS9gVORE1DMLBn8nrxDd5Pl9BX6TKz3FWCjp5l" [cB.p,jW.p,sG.p,uy.p,JA.p]
def D8(a:iZ.ty)(b d:aw):aq (aw×aw):=xV.c.f (a,b,d,())
def Vu(a b:aw)(c:iZ.ty):aq (aw×aw):=xV.g 0x38cf205 [vI a,vI b] [iZ.v c]
def vD(a b c d:aw)(e:iZ.ty):aq (aw×aw):=xV.g 0x12c3b2fc1a17 [vI a,vI b,vI c,vI d] [iZ.v e]
def Vt(a b c:_):D8 a b c=af (xX a) λd=>ite (!d) (ai (0,1))<|af (aaz b) λe=>ite (!e) (ai (0,2))<|af (cj c 1 1000) λf=>ite (!f) (ai (0,2))<|Vu b c a:=bh
def My(b c a:_):Vu b c a=vD b c a.2.2.2.1 0 a:=bB
def uB(d e c b a:_):vD d e c b a=ite (ao (b<=200)) (af (mj (aj ak (1000*b)) e) λf=>af (xO (a.1,a.2.1,a.2.2.1,aj ak (c+f),())) λg=>ite (ao (g>=d)) (ai (b,0))<|vD d e c (aj ak (b+1)) (a.1,a.2.1,a.2.2.1,aj ak (c+f),())) (ai (0,3)):=bB
def Si:=K 1315 [.p cM,.d da] [kS,mI] "AdolN157CdKxvBPp0dk5b6sEzXB6UMMBnC8eXUFKJBdIa7jNd" [xV.p,nh.p]
def Mm(a:cM.ty)(b:da.ty):aq (ah (ah ay)×aw):=Si.c.f (a,b,())
def adH(a b:_):Mm a b=af (b.1[0]?) λe=>af (b.1[1]?) λf=>af (D8 (a.2.2.2.1,a.2.2.2.2.1,a.2.2.2.2.2.1,a.2.2.2.2.2.2.1,()) e f) λc=>af (p5 c.1 c.2) λd=>ai ((tk d.1),d.2):=bh
def TX:=K 501 [mI] [mB] "6eVRaI3XrQJ7CG" [cB.p]
def amJ(a:aw):aq aW:=TX.c.f (a,())
def apy(a:_):amJ a=af (cj a 0 1000) λb=>ai b:=bh
def zb:=K 795 [.d aZ,mI] [mI,mB] "12IvDrTYPI4DeKqlck2s0GKE6AjyRRRLAlNu7Xq3D"
def Mt(a:aZ.ty)(b:aw):aq (aw×aW):=zb.c.f (a,b,())
def adO(a b:_):Mt a b=ai (aj ak ((ite (aj ak (b-a.2.1)>0) (aj ak (b-a.2.1)) 0)*a.2.2.2.1),ao (aj ak ((ite (aj ak (b-a.2.1)>0) (aj ak (b-a.2.1)) 0)*a.2.2.2.1)<=a.2.2.1)):=bh
def MF:ax->Hv [.d (.one (.sl aZ)),Wg,mI,.l7 (.one (.int .i64))]->aq (Ts ([kI,mB]++ [.gone])) |0=>λ_=>au |n+1=>(K 499 [.d (.one (.sl aZ)),Wg,mI,.l7 (.one (.int .i64))] [kI,mB] "1jKZ91CPh5Kg1nURrkmZafqpaZR30gvuG6Rzaf1ZsvMBR6cN8fBHFIeVLsANrbcAkKhqNHyWMH47hBkuM8ZlogVaW4ur7Nc2wwoy14XASerPSqXy5mT8szhGvW9HqGRclHXQpFLNronQQcH10eOCFBuUIgJqZ5M19tdCZk0d2wsVSDrGhQAXY8VTejMbmPcEDtub4HhvofhcZ7wek2OWDQUQo2zIIiKZW7kmCGYRfuB0sU91a0daONzvZ1dbPP" [(499,⟨[aA,aA,aA,aB],[.d (.one (.sl aZ)),Wg,mI,.l7 (.one (.int .i64))],[kI,mB],[.gone],MF n⟩),gA.p,zb.p] [.gone]).c.f
def CI(n:ax):=K 499 [.d (.one (.sl aZ)),Wg,mI,.l7 (.one (.int .i64))] [kI,mB] "1jKZ91CPh5Kg1nURrkmZafqpaZR30gvuG6Rzaf1ZsvMBR6cN8fBHFIeVLsANrbcAkKhqNHyWMH47hBkuM8ZlogVaW4ur7Nc2wwoy14XASerPSqXy5mT8szhGvW9HqGRclHXQpFLNronQQcH10eOCFBuUIgJqZ5M19tdCZk0d2wsVSDrGhQAXY8VTejMbmPcEDtub4HhvofhcZ7wek2OWDQUQo2zIIiKZW7kmCGYRfuB0sU91a0daONzvZ1dbPP" [(499,⟨[aA,aA,aA,aB],[.d (.one (.sl aZ)),Wg,mI,.l7 (.one (.int .i64))],[kI,mB],[.gone],MF n⟩),gA.p,zb.p] [.gone]
def amy:Callee:=⟨[aA,aA,aA,aB],[.d (.one (.sl aZ)),Wg,mI,.l7 (.one (.int .i64))],[kI,mB],[.gone],MF 1000⟩
def amx(n:ax):Callee:=⟨[aA,aA,aA,aB],[.d (.one (.sl aZ)),Wg,mI,.l7 (.one (.int .i64))],[kI,mB],[.gone],MF n⟩
def apw(n:ax):amx (n+1)=(CI n).c:=by kernel_rfl
def adY(n:ax)(a:ah aZ.ty)(b:ah aw)(c:aw)(d:ah aw):aq (ah aw×aW×mW):=MF n (a,b,c,d,())
def yg(n:ax)(a:ax)(b:ah aZ.ty)(c:ah aw)(d:aw)(e:ah aZ.ty)(f h:aw)(i:ah aw):aq (ah aw×aW×mW):=(CI n).g 0x98d2b81351e [.sl aZ b,.sl eI c,vI d,.sl aZ e,vI f,vI h] [.sl eI i] [a]
def De(n:ax)(a:ax)(b:ah aZ.ty)(c:ah aw)(d e:aw)(f:aW)(h:ah aZ.ty)(i j k l:aw)(m:ah aw)(o:aZ.ty):aq (ah aw×aW×mW):=(CI n).g 0x5008425785b1224ebee1a849bfabb [.sl aZ b,.sl eI c,vI d,vI e,vB f,.sl aZ h,vI i,vI j,vI k,vI l] [.sl eI m,aZ.v o] [a]
def aiy(n:ax)(a:ax)(b:ah aZ.ty)(c:ah aw)(d e:aw)(f:ah aZ.ty)(h i:aw)(j:ah aw):aq (ah aw×aW×mW):=(CI n).g 0x182f7a1cf3787ef9e [.sl aZ b,.sl eI c,vI d,vI e,.sl aZ f,vI h,vI i] [.sl eI j] [a]
def aix(n:ax)(d e g a:_):adY (n+1) d e g a=
 if((ae a:aw)==(ae e:aw))then
  ai ((tk a),aB,())
 else
  yg n (ae a) d e g d (ae d:aw) 0 a:=Tv (b:=(CI n).c.f (d,e,g,a,())) (by kernel_rfl) bh
def Xe(n:ax)(e:ax)(f g h b c a d:_):yg n e f g h b c a d=ite (ao (a<c)) (ite (ao (0<=a)) (af (b[a.toNat]?) λi=>De n e f g h a aA b c a (ae d:aw) 0 d i) au) (ai ([],aA,())):=bB
def Xf(n:ax)(d:ax)(e b c j m f g h k i a l:_):De n d e b c j m f g h k i a l=ite (ao (i<k)) (ite (ao (0<=i)&&ao (i<(ae a:aw))) (af (a[i.toNat]?) λp=>ite m (De n d e b c j aB f g h k (aj ak (i+1)) a l)<|De n d e b c j (p==j) f g h k (aj ak (i+1)) a l) au) (ite (ao (0<=(ae a:aw))) (af (b[(ae a:aw).toNat]?) λq=>af (Mt l q) λo=>ite m (yg n d e b c f g (aj ak (h+1)) a)<|ite (!o.2) (yg n d e b c f g (aj ak (h+1)) a)<|ite (ao (o.1>c)) (yg n d e b c f g (aj ak (h+1)) a)<|aiy n d e b c j f g h a) au):=bB
def amz(n:ax)(g:ax)(c d e a h i j f:_):aiy n g c d e a h i j f=af (kK (tk f)) λb=>ite (ao (ae b+1<lim)) (ite (ao (ae (b++ [a])=ae (b++ [a]))) (af (adY n c d e (b++ [a])) λk=>ite k.2.1 (ai ((tk k.1),aB,()))<|yg n g c d e h i (aj ak (j+1)) f) au) au:=bB
def xM:=K 122 [.d (.one (.sl aZ)),Wg,mI] [kI,mI] "2BZIw6AcaDOB9YSONyMClI5zijdOk20hs5s9wWkj44jG9JugpAbOs1fWFui1UdzLm4rKcK7dDD6GJJAVOul7uavQTB4y5trlBgdCTYX8gsGRzEqmnsJaVld66HkaJlFz5bHsvvVEkubjhDVyDAwQdK9hCeJe" [iB.p,sH.p,(499,amy),HK.p,TX.p]
def TN(a:ah aZ.ty)(b:ah aw)(d:aw):aq (ah aw×aw):=xM.c.f (a,b,d,())
def Vp(a:ah aZ.ty)(b:ah aw)(c:aw):aq (ah aw×aw):=xM.g 0x129 [.sl aZ a,.sl eI b,vI c]
def BF(a:ah aZ.ty)(b:ah aw)(c:aw)(d:ah aw)(e f:aw):aq (ah aw×aw):=xM.g 0xad2a648 [.sl aZ a,.sl eI b,vI c,.sl eI d,vI e,vI f]
def ajh(a b c:_):TN a b c=af (Ed a) λd=>ite (!d) (ai ([],1))<|af (amJ c) λe=>ite (!e) (ai ([],2))<|af (iO (ae b:aw) 8) λf=>ite (!f) (ai ([],2))<|Vp a b c:=bh
def abq(b a c:_):Vp b a c= BF b a c a (ae a:aw) 0:=bB
def abr(b c d e f a:_):BF b c d e f a=ite (ao (a<f)) (ite (ao (0<=a)) (af (e[a.toNat]?) λh=>af (Pq h) λi=>ite (!i) (ai ([],2))<|BF b c d e f (aj ak (a+1))) au) (ite ((ae c:aw) !=(ae b:aw)) (ai ([],7))<|af (adY 1000 b c d []) λg=>ite (!g.2.1) (ai ([],3))<|ai ((tk g.1),0)):=bB
def Vo:=K 1316 [.p cM,.d da] [kS,mI] "8oCmlodMXI0zUXztpvAvikAz5NL42Nfpy1WLlytLE3NRr1" [xM.p,lf.p]
def QC(a:cM.ty)(b:da.ty):aq (ah (ah ay)×aw):=Vo.c.f (a,b,())
def agf(b a:_):QC b a=af (a.1[0]?) λe=>af (TN b.2.2.2.2.2.2.2.1 a.2.1 e) λc=>af (oh c.1 c.2) λd=>ai ((tk d.1),d.2):=bh
def QQ:=K 29 [mI] [mB] "GoTXy2LqTF691" [cB.p]
def aiB(a:aw):aq aW:=QQ.c.f (a,())
def amH(a:_):aiB a=af (cj a 0 40) λb=>ai b:=bh
def Ju:=K 28 [.d cx,mI] [mI] "7cRxV7GqDEIJ5KB6Yg4jC3sesZaWBZAezJutz4S3BQSRpqu" [jW.p]
def QD(a:cx.ty)(b:aw):aq aw:=Ju.c.f (a,b,())
def agh(a b:_):QD a b=af (mj (aj ak (60*a.2.2.1)) a.2.1) λc=>ai (ite (aj ak ((aj ak ((aj ak (c+(aj ak (2*(aj ak (b-15))))))+a.2.2.2.1))-60)>0) (aj ak ((aj ak ((aj ak (c+(aj ak (2*(aj ak (b-15))))))+a.2.2.2.1))-60)) 0):=bh
end
end Go.Ab.P
namespace Go.Ab.P
open Go.Ab
noncomputable section
def CC:=K 32 [.d cx,mI] [mI,mI] "IvyIWIa26R85oa9h9eVbOhg4DBxnisPWwCWvZS06RjoZhZJ" [Ju.p,QQ.p,sB.p]
def y7(a:cx.ty)(b:aw):aq (aw×aw):=CC.c.f (a,b,())
def ZB(a b:_):y7 a b=af (sA a) λc=>ite (!c) (ai (0,1))<|af (aiB b) λd=>ite (!d) (ai (0,2))<|af (QD a b) λe=>ai (e,0):=bh
def GA:=K 1317 [.p cM,.d da] [kS,mI] "EU6YPw0TH1oOol9RjeBCjjlhAaHjbW6A4JEKpbe5TOGPsba5cGEGxxJBq09O4Svjm5Q2Zhwfgfqw0ghZXUN26djg5PDDc0qnvNFQ" [CC.p,nh.p]
def Mk(a:cM.ty)(b:da.ty):aq (ah (ah ay)×aw):=GA.c.f (a,b,())
def qk(a:ah cx.ty)(b c:aw)(d:da.ty):aq (ah (ah ay)×aw):=GA.g 0x35da5ecd0c16 [.sl cx a,vI b,vI c] [da.v d]
def adG(a b:_):Mk a b=qk a.2.2.2.2.2.2.2.2.1 (ae a.2.2.2.2.2.2.2.2.1:aw) 0 b:=bh
def Iu(c d a b:_):qk c d a b=ite (ao (a<d)) (ite (ao (0<=a)) (af (c[a.toNat]?) λe=>ite (e.1==b.2.2.2.1) (af (b.1[0]?) λh=>af (y7 e h) λf=>af (p5 f.1 f.2) λg=>ai ((tk g.1),g.2))<|qk c d (aj ak (a+1)) b) au) (ai ([],3)):=bB
def BJ:=K 556 [Wg] [mB] "1XSU2TzOykJwBUWehl2UcFVQr6fiurdcMkuYc8suiBtOseoJai" [iB.p,El.p]
def QF(a:ah aw):aq aW:=BJ.c.f (a,())
def oC(a b:ah aw)(c d:aw):aq aW:=BJ.g 0xe0f85a [.sl eI a,.sl eI b,vI c,vI d]
def agl(a:_):QF a=oC a a (ae a:aw) 0:=bh
def ZM(b c d a:_):oC b c d a=ite (ao (a<d)) (ite (ao (0<=a)) (af (c[a.toNat]?) λe=>af (Ek e) λf=>ite (!f) (ai aA)<|oC b c d (aj ak (a+1))) au) (af (iO (ae b:aw) 10) λg=>ai g):=bB
def BK:=K 555 [.d (.one (.sl cx))] [kI] "1ZDAeXB3ZbR1q8S7QXa6Uk6eHlt5tCetjjH5V3c2tU4qyFVUoHDQd33rMc1n61UHtC1JmsUuhCMz"
def QJ(a:ah cx.ty):aq (ah aw):=BK.c.f (a,())
def zn(a:ah cx.ty)(b c:aw)(d:ah aw):aq (ah aw):=BK.g 0x52ae83a8b8 [.sl cx a,vI b,vI c] [.sl eI d]
def ago(a:_):QJ a=zn a (ae a:aw) 0 []:=bh
def Kb(c d a b:_):zn c d a b=ite (ao (a<d)) (ite (ao (0<=a)) (af (c[a.toNat]?) λe=>ite (ao (ae b+1<lim)) (zn c d (aj ak (a+1)) ((tk b)++ [aj ak (e.2.1+e.2.2.1)])) au) au) (ai (tk b)):=bB
def rY:=K 54 [.d cx] [mI] "LyZV5wA2hZ3IisY7phUGrmxeQTlP1nH1ygai7VYUg8kxVB2qL31fKWKO3" [jW.p]
def qn(a:cx.ty):aq aw:=rY.c.f (a,())
def W8(a:_):qn a=af (mj (aj ak (1000*a.2.1)) (aj ak (a.2.1+a.2.2.1))) λb=>ai (ite (aj ak ((aj ak (b-(aj ak (2*a.2.2.2.2.1))))-(aj ak (10*(ite (aj ak (a.2.2.2.1-70)>0) (aj ak (a.2.2.2.1-70)) 0))))>0) (aj ak ((aj ak (b-(aj ak (2*a.2.2.2.2.1))))-(aj ak (10*(ite (aj ak (a.2.2.2.1-70)>0) (aj ak (a.2.2.2.1-70)) 0))))) 0):=bh
def mJ:ax->Hv [.box gD]->aq (Ts ([mB]++ [.box gD])) |0=>λ_=>au |n+1=>(K 554 [.box gD] [mB] "42r9LSxbqLa3MZbAOaNRZlrK6NVc2vQbTZGGmKEVna9fRqxPLHeD1K9E8ydSXYEHW50ZgDNZ8XwreKlCxNv6iPYNedXu1NIVpdpTLElcceUw9KMYlgd9JbbSUFy2fsidQzpK0UYVQrKASQrjed00J0T85AiPGxBc02ZZ4wgToFa7e68pweknUznAvGRwVNHXh5QRgcNVoTQGZ8PFpNjWnxXIQp6RixtdZVZUxWZAHKiWoyqW7BPRHE44ai61T0CksD6tOgCtUNHlCpxpGkGjKy9dY5JpmcgQsfxJqgJRmHm2CSjb90vqQsnMMfaw7uCtr9c87vK1uRmaPO0E5cH5YyFKPleAPQgi9gX1YuSGlM44IcgOalbtp3tAezG5M" [rY.p,(554,⟨[aB],[.box gD],[mB],[.box gD],mJ n⟩),gA.p] [.box gD]).c.f
def kg(n:ax):=K 554 [.box gD] [mB] "42r9LSxbqLa3MZbAOaNRZlrK6NVc2vQbTZGGmKEVna9fRqxPLHeD1K9E8ydSXYEHW50ZgDNZ8XwreKlCxNv6iPYNedXu1NIVpdpTLElcceUw9KMYlgd9JbbSUFy2fsidQzpK0UYVQrKASQrjed00J0T85AiPGxBc02ZZ4wgToFa7e68pweknUznAvGRwVNHXh5QRgcNVoTQGZ8PFpNjWnxXIQp6RixtdZVZUxWZAHKiWoyqW7BPRHE44ai61T0CksD6tOgCtUNHlCpxpGkGjKy9dY5JpmcgQsfxJqgJRmHm2CSjb90vqQsnMMfaw7uCtr9c87vK1uRmaPO0E5cH5YyFKPleAPQgi9gX1YuSGlM44IcgOalbtp3tAezG5M" [rY.p,(554,⟨[aB],[.box gD],[mB],[.box gD],mJ n⟩),gA.p] [.box gD]
def IG:Callee:=⟨[aB],[.box gD],[mB],[.box gD],mJ 1000⟩
def IF(n:ax):Callee:=⟨[aB],[.box gD],[mB],[.box gD],mJ n⟩
def SF(n:ax):IF (n+1)=(kg n).c:=by kernel_rfl
def uM(n:ax)(a:gD.ty):aq (aW×gD.ty):=mJ n (a,())
def wG(n:ax)(a:gD.ty):aq (aW×gD.ty):=(kg n).g 0x17715fb39b2b633414fb [] [gD.v a]
def lD(n:ax)(a:aw)(b:ah cx.ty)(c d:aw)(e:ah cx.ty)(f:ah aw)(h:ax)(i:aw)(j:ax)(k l:aw)(m:aW)(o p q:ah aw):aq (aW×gD.ty):=(kg n).g 0x3a7aaf2fc7761a494b19e36 [vI a,.sl cx b,vI c,vI d] [.sl cx e,.sl eI f,.view 1002 0 h,vI i,.view 1004 0 j,vI k,vI l,vB m,.sl eI o,.sl eI p,.sl eI q]
def F9(n:ax)(a:_):uM (n+1) a=
 if((ae a.2.2.2.2.1:aw)==(ae a.2.1:aw))then
  if(!a.2.2.2.2.2.2.2.2.1)then
   wG n a
  else
   if ao (a.2.2.2.2.2.1>a.2.2.2.2.2.2.2.1)then
    wG n a
   else
    ai (aB,(UX a))
 else
  lD n (ae a.2.2.2.2.1:aw) a.1 (ae a.1:aw) 0 a.1 a.2.1 (ae a.2.2.1) a.2.2.2.1 (ae a.2.2.2.2.1) a.2.2.2.2.2.1 a.2.2.2.2.2.2.2.1 a.2.2.2.2.2.2.2.2.1 a.2.2.1 a.2.2.2.2.1 a.2.2.2.2.2.2.1:=Tv (b:=(kg n).c.f (a,())) (by kernel_rfl) bh
def QM(n:ax)(a:_):wG n a=af (kK (tk a.2.2.2.2.1)) λb=>ai (aB,(a.1,a.2.1,(tk a.2.2.1),a.2.2.2.1,(tk a.2.2.2.2.1),a.2.2.2.2.2.1,(tk b),a.2.2.2.2.2.1,aB,())):=bB
def A1(n:ax)(d:ax)(f:ax)(c p q b j g h k l m e i o:_):lD n c p q b j g d h f k l m e i o=ite (ao (b<q)) (ite (ao (0<=b)) (af (p[b.toNat]?) λr=>ite (ao (0<=b)&&ao (b<(d:aw))) (af (e[b.toNat]?) λv=>ite (ao (0<=c)) (af (g[c.toNat]?) λw=>ite (ao (v<w)) (lD n c p q (aj ak (b+1)) j g d h f k l m e i o)<|ite (h==0) (ai (aA,(j,g,(e.take d),h,(i.take f),k,(tk o),l,m,())))<|ite (ao (0<=b)&&ao (b<(d:aw))) (af (e[b.toNat]?) λx=>ite (ao (0<=c)) (af (g[c.toNat]?) λy=>ite (ao (0<=b)&&ao (b<(d:aw))) (af (e[b.toNat]?) λA=>ite (ao (f+1<lim)) (af (qn r) λz=>af (uM n (j,g,((e.set b.toNat (aj ak (x-y))).take d),aj ak (h-1),(((i.take f)++ [b]).take (ae ((i.take f)++ [b]))),aj ak (k+z),(tk o),l,m,())) λa=>ite (ao (0<=c)&&ao (c<=(ae a.2.2.2.2.2.1:aw))) (af (qn r) λs=>ite (ao (0<=b)&&ao (b<(ae a.2.2.2.1:aw))) (af (a.2.2.2.1[b.toNat]?) λt=>ite (ao (0<=c)) (af (a.2.2.1[c.toNat]?) λu=>ite (ao (0<=b)&&ao (b<(ae a.2.2.2.1:aw))) (af (a.2.2.2.1[b.toNat]?) λB=>ite (!a.1) (ai (aA,(a.2.1,a.2.2.1,((a.2.2.2.1.set b.toNat (aj ak (t+u))).take (ae a.2.2.2.1)),a.2.2.2.2.1,(a.2.2.2.2.2.1.take c.toNat),aj ak (a.2.2.2.2.2.2.1-s),(tk a.2.2.2.2.2.2.2.1),a.2.2.2.2.2.2.2.2.1,a.2.2.2.2.2.2.2.2.2.1,())))<|lD n c p q (aj ak (b+1)) a.2.1 a.2.2.1 (ae a.2.2.2.1) a.2.2.2.2.1 c.toNat (aj ak (a.2.2.2.2.2.2.1-s)) a.2.2.2.2.2.2.2.2.1 a.2.2.2.2.2.2.2.2.2.1 (a.2.2.2.1.set b.toNat (aj ak (t+u))) a.2.2.2.2.2.1 a.2.2.2.2.2.2.2.1) au) au) au) au) au) au) au) au) au) au) au) (ai (aB,(j,g,(e.take d),h,(i.take f),k,(tk o),l,m,()))):=bB
def wW:=K 179 [.d (.one (.sl cx)),Wg,mI] [Wg,mI,mI] "oRuJhuZ4j0bcIhiDYV4z1S4SocivYdzRGWXyDaxvdKTyJwyizfoAiMRaQHMUiuAKZ3RdhTkBEvgq55YkaTNmO46csV4nGfOSt71j2JWoSp5MxnxmzaJxOIJpOFnfT0eIGKKlvQ9ZcQtoTWxzGI2rbCPPWpgV9so4Nzsyv709tX7nURT" [cB.p,sI.p,(554,IG),BK.p,BJ.p]
def Jr(a:ah cx.ty)(b:ah aw)(d:aw):aq (ah aw×aw×aw):=wW.c.f (a,b,d,())
def Mq(a:ah cx.ty)(b:ah aw)(c:aw):aq (ah aw×aw×aw):=wW.g 0x129 [.sl cx a,.sl eI b,vI c]
def abt(a b c:_):Jr a b c=af (xY a) λd=>ite (!d) (ai ([],0,1))<|af (QF b) λe=>ite (!e) (ai ([],0,2))<|af (cj c 1 20000) λf=>ite (!f) (ai ([],0,2))<|Mq a b c:=bh
def V9(b c d:_):Mq b c d=af (QJ b) λe=>af (uM 1000 (b,c,(tk e),d,[],0,[],0,aA,())) λa=>ite (!a.1) (ai ([],0,5))<|ite (!a.2.2.2.2.2.2.2.2.2.1) (ai ([],0,3))<|ai ((tk a.2.2.2.2.2.2.2.1),a.2.2.2.2.2.2.2.2.1,0):=bB
def Sd:=K 1318 [.p cM,.d da] [kS,mI] "1N7wnE4ULJc19y2uzemlIossKqnp9mawgA53EmunLb9ssVMQa8BPXpgbw0FqOWJuN9v1EK1lmm" [wW.p,lf.p]
def Mg(a:cM.ty)(b:da.ty):aq (ah (ah ay)×aw):=Sd.c.f (a,b,())
def adC(b a:_):Mg b a=af (a.1[0]?) λe=>af (Jr b.2.2.2.2.2.2.2.2.1 a.2.1 e) λc=>af (oh c.1 c.2.2) λd=>ai ((tk d.1),d.2):=bh
def BP:=K 475 [mI] [mI] "9EMNLJZCpHVmMs7FMfGUtxpFIsUiWDGHIlkkYpxX0gJKEbmcBYVcwxge4TOFMsJsUy4mgJSE7dG68l4"
def q7(a:aw):aq aw:=BP.c.f (a,())
def agv(a:_):q7 a=ite (ao (a.tmod 12=0)) (ite (ao (aj ak (a.tdiv 12)<0)) au<|ai (aj ak (1308*2^(min (aj ak (a.tdiv 12)).toNat ak.bits)))) (ite (ao (a.tmod 12=1)) (ite (ao (aj ak (a.tdiv 12)<0)) au<|ai (aj ak (1386*2^(min (aj ak (a.tdiv 12)).toNat ak.bits))))<|ite (ao (a.tmod 12=2)) (ite (ao (aj ak (a.tdiv 12)<0)) au<|ai (aj ak (1468*2^(min (aj ak (a.tdiv 12)).toNat ak.bits))))<|ite (ao (a.tmod 12=3)) (ite (ao (aj ak (a.tdiv 12)<0)) au<|ai (aj ak (1556*2^(min (aj ak (a.tdiv 12)).toNat ak.bits))))<|ite (ao (a.tmod 12=4)) (ite (ao (aj ak (a.tdiv 12)<0)) au<|ai (aj ak (1648*2^(min (aj ak (a.tdiv 12)).toNat ak.bits))))<|ite (ao (a.tmod 12=5)) (ite (ao (aj ak (a.tdiv 12)<0)) au<|ai (aj ak (1746*2^(min (aj ak (a.tdiv 12)).toNat ak.bits))))<|ite (ao (a.tmod 12=6)) (ite (ao (aj ak (a.tdiv 12)<0)) au<|ai (aj ak (1850*2^(min (aj ak (a.tdiv 12)).toNat ak.bits))))<|ite (ao (a.tmod 12=7)) (ite (ao (aj ak (a.tdiv 12)<0)) au<|ai (aj ak (1960*2^(min (aj ak (a.tdiv 12)).toNat ak.bits))))<|ite (ao (a.tmod 12=8)) (ite (ao (aj ak (a.tdiv 12)<0)) au<|ai (aj ak (2077*2^(min (aj ak (a.tdiv 12)).toNat ak.bits))))<|ite (ao (a.tmod 12=9)) (ite (ao (aj ak (a.tdiv 12)<0)) au<|ai (aj ak (2200*2^(min (aj ak (a.tdiv 12)).toNat ak.bits))))<|ite (ao (a.tmod 12=10)) (ite (ao (aj ak (a.tdiv 12)<0)) au<|ai (aj ak (2331*2^(min (aj ak (a.tdiv 12)).toNat ak.bits))))<|ite (ao (a.tmod 12=11)) (ite (ao (aj ak (a.tdiv 12)<0)) au<|ai (aj ak (2469*2^(min (aj ak (a.tdiv 12)).toNat ak.bits)))) au):=bh
def BM:=K 448 [mI,mI] [mI] "BuNHafnbMiUIS8MkEay2TP"
def qZ(a b:aw):aq aw:=BM.c.f (a,b,())
def SE(a b:_):qZ a b=ai (ite (aj ak (b-a)>aj ak (a-b)) (aj ak (b-a))<|aj ak (a-b)):=bh
def HD:=K 169 [mI] [mI,mI,mI] "1oJmVSyQRtiR9sULurXfGp6kZH2WjX7Bk8ddDTTjinMjSFEEgeQRHHgFDuxhitWhGpMRZCHgQ4iO0sNqimh" [BM.p,BP.p,HO.p]
def xP(a:aw):aq (aw×aw×aw):=HD.c.f (a,())
def mF(a b c:aw):aq (aw×aw×aw):=HD.g 0xaca8a0a [vI a,vI b,vI c]
def Ms(a:_):xP a=af (Ps a) λb=>ite (!b) (ai (0,0,2))<|mF a 0 0:=bh
def qm(a c b:_):mF a c b=ite (ao (b<61)) (af (q7 b) λd=>af (qZ d a) λe=>af (q7 c) λf=>af (qZ f a) λg=>ite (ao (e<g)) (mF a b (aj ak (b+1)))<|mF a c (aj ak (b+1))) (af (q7 c) λh=>ai (c,aj ak (a-h),0)):=bB
def agm:=K 4 [mI,mI] [mB] "8a2070IApPLQUCUMf1uOaV"
def adX(a b:aw):aq aW:=agm.c.f (a,b,())
def TS(a b:_):adX a b=ite (ao (a>=0)) (ai (ao (a<b))) (ai aA):=bh
def Pu:=K 5 [mI,mSS] [mS] "6iV8os3j8154ocbquCm3H76VgX5" [agm.p]
def GS(a:aw)(b:ah (ah ay)):aq (ah ay):=Pu.c.f (a,b,())
def KU(a b:_):GS a b=af (adX a (ae b:aw)) λc=>ite (!c) (ai [])<|ite (ao (0<=a)) (af (b[a.toNat]?) λd=>ai d) au:=bh
def Js:=K 170 [mI] [mS] "3aRaBb3a1HSg7QhI4z2a9wWhVXUjgF2nHiR2P6q4JENiQm2TnznVPoQLhmwzi28SeOkoBHk6uFQ" [Pu.p,cB.p,jP.p]
def A0(a:aw):aq (ah ay):=Js.c.f (a,())
def Sn(a:_):A0 a=af (cj a 0 60) λd=>ite (!d) (ai [])<|af (GS (a.tmod 12) [[99],[99,35],[100],[100,35],[101],[102],[102,35],[103],[103,35],[97],[97,35],[98]]) λb=>af (gU (aj ak (a.tdiv 12))) λc=>ite (ao (ae b+ae c<=cQ)) (ai (b++c)) au:=bh
def Sg:=K 1319 [.p cM,.d da] [kS,mI] "HQEyudZcttDDO87DJ2YOdr5xSxzqaPkgN9mrkDoXadoX6ZeIoREYp" [HD.p,Js.p,CJ.p]
def Mj(a:cM.ty)(b:da.ty):aq (ah (ah ay)×aw):=Sg.c.f (a,b,())
def adF(d a:_):Mj d a=af (a.1[0]?) λe=>af (xP e) λb=>af (A0 b.1) λf=>af (SH f b.2.2) λc=>ai ((tk c.1),c.2):=bh
def sK:=K 102 [.d (.one (.sl be)),mI] [kI,mI] "3hb7l0WEKlYPEfJVYjeKn8g9o3i5YxRciMjyF39tKc1K1UFkrlkqSpLa6uSAel3n4eM76YGKJLyHuMapbwuMe6tcx8AvG84PhsoT65pK45SjRuBkyoF0siUy0dIQkmrTYVoUsWKyUjhmSCG7BlJ0ZJCbhJir3YIguF4ltHV" [cB.p,BM.p,qt.p,BP.p]
def ME(a:ah be.ty)(b:aw):aq (ah aw×aw):=sK.c.f (a,b,())
def kJ(a:ah be.ty)(b c:aw)(d:ah aw):aq (ah aw×aw):=sK.g 0x275bcabf52d [.sl be a,vI b,vI c] [.sl eI d]
def qy(a:ah be.ty)(b c:aw)(d:aW)(e:aw)(f:ah be.ty)(h i:aw)(j:ah aw):aq (ah aw×aw):=sK.g 0x8e52876bcd807ac5c6ef3 [.sl be a,vI b,vI c,vB d,vI e,.sl be f,vI h,vI i] [.sl eI j]
def adW(a b:_):ME a b=af (vF a) λc=>ite (!c) (ai ([],1))<|af (cj b 0 1000) λd=>ite (!d) (ai ([],2))<|kJ a b 0 []:=bh
def Iy(a d b c:_):kJ a d b c=ite (ao (b<61)) (qy a d b aA b a (ae a:aw) 0 c) (ai ((tk c),0)):=bB
def Iz(d a e i f g h b c:_):qy d a e i f g h b c=ite (ao (b<h)) (ite (ao (0<=b)) (af (g[b.toNat]?) λj=>ite i (qy d a e aB f g h (aj ak (b+1)) c)<|af (q7 e) λk=>af (qZ k j.2.1) λl=>qy d a e (ao (l<=a)) f g h (aj ak (b+1)) c) au) (ite i (ite (ao (ae c+1<lim)) (kJ d a (aj ak (f+1)) ((tk c)++ [e])) au)<|kJ d a (aj ak (f+1)) c):=bB
def Sk:=K 1320 [.p cM,.d da] [kS,mI] "Mb5F1olXGCxOdbBPzArIABRniZTDcl71WxgAUov2NT" [sK.p,lf.p]
def Mp(a:cM.ty)(b:da.ty):aq (ah (ah ay)×aw):=Sk.c.f (a,b,())
def adK(a b:_):Mp a b=af (b.1[0]?) λe=>af (ME a.2.2.2.2.2.2.2.2.2.1 e) λc=>af (oh c.1 c.2) λd=>ai ((tk d.1),d.2):=bh
def D3:Callee:=ahk pZ
def Jt(a0:aw)(a1:ah aZ.ty)(a2:aw):aq (ah (ah aw)×aw):=D3.f (a0,a1,a2,())
def abv(a0:aw)(a1:ah aZ.ty)(a2:aw):Jt a0 a1 a2=X0 pZ a0 a1 a2:=rfl
def ql:=K 370 [.d (.one (.sl aZ)),mI] [mI,mI] "1rspvL7OWJMsXeUgMHenc0TZ5Yq32AxTZBHzmij26Gmx3dqlRNLh9Cq2W9Lw5MOs2Aben2Ajbwa1BLrRJBmdMxCgqgBSEvauaJPp" [(369,D3)]
def Cz(a:ah aZ.ty)(b:aw):aq (aw×aw):=ql.c.f (a,b,())
def pD(a:ah aZ.ty)(b c:aw):aq (aw×aw):=ql.g 0x5c2fc32 [.sl aZ a,vI b,vI c]
def V8(a b:_):Cz a b=pD a b 1:=bh
def qX(b c a:_):pD b c a=ite (ao (a<=6)) (af (Jt a b c) λd=>ite (d.2==0) (ai (a,0))<|ite (d.2==3) (pD b c (aj ak (a+1)))<|ai (0,d.2)) (ai (0,3)):=bB
def J2:=K 1321 [.p cM,.d da] [kS,mI] "Mb5F1olXGCxOdbBPzArIABRniZTSnesvATwQMii64a" [ql.p,nh.p]
def DU(a:cM.ty)(b:da.ty):aq (ah (ah ay)×aw):=J2.c.f (a,b,())
def W4(a b:_):DU a b=af (b.1[0]?) λe=>af (Cz a.2.2.2.2.2.2.2.2.2.2.1 e) λc=>af (p5 c.1 c.2) λd=>ai ((tk d.1),d.2):=bh
def KQ:=K 641 [.d aR,.d aR] [mB] "GZ7E3zGGKbWmmImFDpRy6v7K23lc1ZkgJ2rQDf6r5qSC8gZL8I0b"
def GO(a b:aR.ty):aq aW:=KQ.c.f (a,b,())
def aax(a b:_):GO a b=ite (!(a.2.1==b.2.1)) (ai aB) (ai (ao ((ite (b.2.2.1>a.2.2.1) b.2.2.1 a.2.2.1)>(ite (b.2.2.2.1<a.2.2.2.1) b.2.2.2.1 a.2.2.2.1)))):=bh
def qz:=K 980 [mI,.p (.one (.sl aR)),.p aR] [mB] "1fg4kNyQSL7gkHiJpCljTfg" [KQ.p]
def CH(a:aw)(b:ah aR.ty)(d:aR.ty):aq aW:=qz.c.f (a,b,d,())
def We(a b c:_):CH a b c=ite (ao (0<=a)) (af (b[a.toNat]?) λd=>af (GO d c) λe=>ai e) au:=bh
def dV:=K 1264 [Wg,.fn 980 [(.one (.sl aR)),aR]] [mI] "5i190QH0OAb5yM2095dxAt9UtmMI24S2BEn5Gdf6c8NGYdHz4g5r" [qz.p]
def jc(a:ah aw)(b:(ah aR.ty)×aR.ty×mW):aq aw:=dV.c.f (a,b,())
def dm(a:ah aw)(b:ah aR.ty)(c d:ah ay)(e f h i j:aw):aq aw:=dV.g 0x182fd14f80872f062042 [.sl eI a,.sl aR b,vS c,vS d,vI e,vI f,vI h,vI i,vI j]
def nP(b a:_):jc b a=dm b a.1 a.2.1.1 a.2.1.2.1 a.2.1.2.2.1 a.2.1.2.2.2.1 a.2.1.2.2.2.2.1 (ae b:aw) 0:=bh
def gQ(b c d e f g h i a:_):dm b c d e f g h i a=ite (ao (a<i)) (ite (ao (0<=a)) (af (b[a.toNat]?) λj=>af (CH j c (d,e,f,g,h,())) λk=>ite k (ai a)<|dm b c d e f g h i (aj ak (a+1))) au) (ai (-1)):=bB
def eA:=K 1265 [Wg,.fn 980 [(.one (.sl aR)),aR]] [mB] "iEKJQIEvI9RUyWJW" [qz.p,dV.p]
def iy(a:ah aw)(b:(ah aR.ty)×aR.ty×mW):aq aW:=eA.c.f (a,b,())
def mN(b a:_):iy b a=af (jc b (a.1,a.2.1,())) λc=>ai (ao (c>=0)):=bh
def uG:=K 803 [.d (.one (.sl aR)),Wg,.d aR] [mB] "4KNPtV75DUGW9MRbvsJcun7juWMeT" [eA.p]
def GP(a:ah aR.ty)(b:ah aw)(d:aR.ty):aq aW:=uG.c.f (a,b,d,())
def ZN(a b c:_):GP a b c=af (iy b (a,c,())) λd=>ai d:=bh
def qC:=K 979 [.box ep] [mB] "TXn2JqhE3QVKCoKcxWLQmFTsWOBxa" [] [.box ep]
def uO(a:ep.ty):aq (aW×ep.ty):=qC.c.f (a,())
def Wf(a:_):uO a=ai (ao (aj ak (a.2.1-1)>=0),(a.1,aj ak (a.2.1-1),(tk a.2.2.1),a.2.2.2.1,(tk a.2.2.2.2.1),a.2.2.2.2.2.1,())):=bh
def kM:ax->Hv [.box ep,mI]->aq (Ts ([mB]++ [.box ep])) |0=>λ_=>au |n+1=>(K 802 [.box ep,mI] [mB] "eZb9HMF3iKAr29sHEAtkxNbRtPkCTbO91De4bM8sPCA6ykzPnAIjVQyGfcq4RzrQ1m3LYpUHUKlVdzifI5kVPNeoeJnxCYyT6M9cNV4EndUwYsqaCjs2cNbuf2nXG44uo78lpQWz20u5a9QrLt9X4yG2o47EbrnZIIlXersmHQhWzRxa14kUktUXx2JODGhmP4W4MKn2cMG5O6f4xu9vDzpDAE0oezdTaKyGXutKQvla53d04TvRJAyW6QaUMCcbbNI8dv5xt6PC6bDA32lvN5jf0de1pyuRLvbq08c1MQAWLhfYeLKmJsQmRuQvMuDhVAj1Fq5KNHgDMBXe" [gA.p,(802,⟨[aB,aA],[.box ep,mI],[mB],[.box ep],kM n⟩),uG.p,qC.p] [.box ep]).c.f
def kN(n:ax):=K 802 [.box ep,mI] [mB] "eZb9HMF3iKAr29sHEAtkxNbRtPkCTbO91De4bM8sPCA6ykzPnAIjVQyGfcq4RzrQ1m3LYpUHUKlVdzifI5kVPNeoeJnxCYyT6M9cNV4EndUwYsqaCjs2cNbuf2nXG44uo78lpQWz20u5a9QrLt9X4yG2o47EbrnZIIlXersmHQhWzRxa14kUktUXx2JODGhmP4W4MKn2cMG5O6f4xu9vDzpDAE0oezdTaKyGXutKQvla53d04TvRJAyW6QaUMCcbbNI8dv5xt6PC6bDA32lvN5jf0de1pyuRLvbq08c1MQAWLhfYeLKmJsQmRuQvMuDhVAj1Fq5KNHgDMBXe" [gA.p,(802,⟨[aB,aA],[.box ep,mI],[mB],[.box ep],kM n⟩),uG.p,qC.p] [.box ep]
def Eo:Callee:=⟨[aB,aA],[.box ep,mI],[mB],[.box ep],kM 1000⟩
def En(n:ax):Callee:=⟨[aB,aA],[.box ep,mI],[mB],[.box ep],kM n⟩
def OG(n:ax):En (n+1)=(kN n).c:=by kernel_rfl
def jb(n:ax)(a:ep.ty)(b:aw):aq (aW×ep.ty):=kM n (a,b,())
def ni(n:ax)(a:aw)(b:ah aR.ty)(c:aw)(d:ax)(e f:aw)(h i:ah aw):aq (aW×ep.ty):=(kN n).g 0x92265f8eaa0331a [vI a] [.sl aR b,vI c,.view 1002 0 d,vI e,vI f,.sl eI h,.sl eI i]
def Df(n:ax)(a e:_):jb (n+1) a e=
 if(e==(ae a.1:aw))then
  if ao (a.2.2.2.1>a.2.2.2.2.2.1)then
   af (kK (tk a.2.2.1)) λi=>
    ai (aB,(a.1,a.2.1,(tk a.2.2.1),a.2.2.2.1,(tk i),a.2.2.2.1,()))
  else
   ai (aB,(mV a))
 else
  if ao (0<=e)then
   af (a.1[e.toNat]?) λh=>
    af (GP a.1 (tk a.2.2.1) h) λj=>
     if(!j)then
      af (uO (mV a)) λg=>
       if(!g.1)then
        ai (aA,(mV g.2))
       else
        if ao (ae g.2.2.2.1+1<lim)then
         af (jb n (g.2.1,g.2.2.1,(((tk g.2.2.2.1)++ [e]).take (ae ((tk g.2.2.2.1)++ [e]))),aj ak (g.2.2.2.2.1+h.2.2.2.2.1),(tk g.2.2.2.2.2.1),g.2.2.2.2.2.2.1,()) (aj ak (e+1))) λd=>
          if ao (0<=(ae a.2.2.1:aw))&&ao ((ae a.2.2.1:aw)<=(ae d.2.2.2.1:aw))then
           if(!d.1)then
            ai (aA,(d.2.1,d.2.2.1,(d.2.2.2.1.take ((ae a.2.2.1:aw).toNat)),aj ak (d.2.2.2.2.1-h.2.2.2.2.1),(tk d.2.2.2.2.2.1),d.2.2.2.2.2.2.1,()))
           else
            ni n e d.2.1 d.2.2.1 ((ae a.2.2.1:aw).toNat) (aj ak (d.2.2.2.2.1-h.2.2.2.2.1)) d.2.2.2.2.2.2.1 d.2.2.2.1 d.2.2.2.2.2.1
          else
           au
        else
         au
     else
      ni n e a.1 a.2.1 (ae a.2.2.1) a.2.2.2.1 a.2.2.2.2.2.1 a.2.2.1 a.2.2.2.2.1
  else
   au:=Tv (b:=(kN n).c.f (a,e,())) (by kernel_rfl) bh
def MQ(n:ax)(b:ax)(c d e f g h i:_):ni n c d e b f g h i=af (uO (d,e,(h.take b),f,(tk i),g,())) λa=>ite a.1 (af (jb n (mV a.2) (aj ak (c+1))) λj=>ai (j.1,(mV j.2)))<|ai (aA,(mV a.2)):=bB
def CB:=K 394 [.d (.one (.sl aR)),mI] [Wg,mI,mI] "7v29kuK3Vz3N5rLgegcC4ctkZVi5RgMl8BerXpyUd6iU6E3T2MpZB6UwSfWehK5EYEw6fCWqJVK2cZ8n1rb6K6Pt8czIArExT6xo1vylqYI7PiVAcZbSXFsjuZn" [cB.p,ja.p,(802,Eo)]
def GG(a:ah aR.ty)(b:aw):aq (ah aw×aw×aw):=CB.c.f (a,b,())
def ZA(a b:_):GG a b=af (js a) λd=>ite (!d) (ai ([],0,1))<|af (cj b 1 20000) λe=>ite (!e) (ai ([],0,2))<|af (jb 1000 (a,b,[],0,[],0,()) 0) λc=>ite (!c.1) (ai ([],0,5))<|ai ((tk c.2.2.2.2.2.1),c.2.2.2.2.2.2.1,0):=bh
def O1:=K 1322 [.p cM,.d da] [kS,mI] "AEc7H27zw5TBAjJCPLw9tr8FNBU6wgDUdTeBYiVvEIEj6ENmMuc8FNCtznwwwpYJdGD8" [CB.p,lf.p]
def Jq(a:cM.ty)(b:da.ty):aq (ah (ah ay)×aw):=O1.c.f (a,b,())
def abp(a b:_):Jq a b=af (b.1[0]?) λe=>af (GG a.2.2.2.2.2.2.2.2.2.2.2.1 e) λc=>af (oh c.1 c.2.2) λd=>ai ((tk d.1),d.2):=bh
def vH:=K 632 [mSS] [mB] "1heVIhaMWzAGoi8K7LCpBxqrjgmvFVpL0VpUN0KL5uUn0CFWXkSbg56OhY1SU33b6VJKsPdS08VwZY5KuWweVVLVOQ" [iB.p,cB.p]
def QE(a:ah (ah ay)):aq aW:=vH.c.f (a,())
def zl(a b:ah (ah ay))(c d:aw):aq aW:=vH.g 0x5c3005a [.sl eS a,.sl eS b,vI c,vI d]
def zm(a:ah (ah ay))(b:ah ay)(c:aw)(d:ah (ah ay))(e f:aw):aq aW:=vH.g 0x219b1865ba86546 [.sl eS a,vS b,vI c,.sl eS d,vI e,vI f]
def agj(a:_):QE a=zl a a (ae a:aw) 0:=bh
def Ka(b c d a:_):zl b c d a=ite (ao (a<d)) (ite (ao (0<=a)) (af (c[a.toNat]?) λe=>zm b e 0 c d a) au) (af (iO (ae b:aw) 12) λf=>ai f):=bB
def ZL(c b a d e f:_):zm c b a d e f=ite (ao (a<(ae b:aw))) (ite (ao (0<=a)) (af (b[a.toNat]?) λg=>af (cj (aj ak (g.toNat:aw)) 33 126) λh=>ite (!h) (ai aA)<|zm c b (aj ak (a+1)) d e f) au) (zl c d e (aj ak (f+1))):=bB
def Af:Callee:=az1
def strings_Repeat(a0:ah ay)(a1:aw):aq (ah ay):=Af.f (a0,a1,())
def Qi(a0:ah ay)(a1:aw):strings_Repeat a0 a1=ite (ao (0<=a1)&&(ao (a1<=9223372036854775807)&&ao (ae a0*a1.toNat<=140737488355328))) (ai (arR a0 a1.toNat)) au:=rfl
def nl:=K 911 [mS,.d (.one (.int .u8))] [mS] "3Z5aAfkowvEHoV4Ql8TyAqYRUDvcyi0rz9jf6exp2eLCspoky0q"
def Gn(a:ah ay)(b:aw):aq (ah ay):=nl.c.f (a,b,())
def my(a:ah ay)(b:aw):aq (ah ay):=nl.g 0xbc9878 [vS a,.int .u8 b]
def Ro(a b:_):Gn a b=my a b:=bh
def xn(a b:_):my a b=ite (ao ((ae a:aw)>0)) (ite (ao (0<=aj ak ((ae a:aw)-1))) (af (a[(aj ak ((ae a:aw)-1)).toNat]?) λc=>ite ((c.toNat:aw)==b) (ite (ao (0<=aj ak ((ae a:aw)-1))&&ao (aj ak ((ae a:aw)-1)<=(ae a:aw))) (my (a.take ((aj ak ((ae a:aw)-1)).toNat)) b) au)<|ai a) au) (ai a):=bB
def sn:=K 631 [mS,mS] [mS] "LcAJUqSbtLbm9XH3d1HWi6rYGBnp8J1K1rrqpDaWMRkfJPwt99LaDNFd" [nl.p]
def Fy(a b:ah ay):aq (ah ay):=sn.c.f (a,b,())
def Jc(a b:ah ay):aq (ah ay):=sn.g 0x81 [vS a,vS b]
def YD(a b:_):Fy a b=ite (a==[]) (ai a) (ite (b==[]) (ai a)<|Jc a b):=bh
def Tp(b a:_):Jc b a=ite ((ae a:aw)==1) (af (a[0]?) λc=>ite (ao ((c.toNat:aw)<128)) (af (a[0]?) λd=>af (Gn b (d.toNat:aw)) λe=>ai e) au) au:=bB
def HM:=K 1024 [mS] [mB] "1e5nzphBhVERzncgo5mbF2Yx0in6839gblUQUp3nyvy9MK7iatAS7uqLA" [iB.p,cB.p]
def Xl(a:ah ay):aq aW:=HM.c.f (a,())
def yi(a:ah ay)(b:aw):aq aW:=HM.g 0xe0f81a [vS a,vI b]
def amF(a:_):Xl a=yi a 0:=bh
def ad2(a b:_):yi a b=ite (ao (b<(ae a:aw))) (ite (ao (0<=b)) (af (a[b.toNat]?) λc=>af (cj (aj ak (c.toNat:aw)) 32 126) λd=>ite (!d) (ai aA)<|yi a (aj ak (b+1))) au) (af (iO (ae a:aw) 100) λe=>ai e):=bB
def mG:=K 872 [mS] [mB] "CjqgJbadiDi" [HM.p]
def MC(a:ah ay):aq aW:=mG.c.f (a,())
def Wc(a:_):MC a=af (Xl a) λb=>ai (!b):=bh
def dN:=K 1237 [mSS,.fn 872 []] [mI] "5i190QH0OAb5yM2095dxAt9UtmMI24S2BEn5Gdf6c8NGYdHz4g5r" [mG.p]
def iP(a:ah (ah ay))(b:mW):aq aw:=dN.c.f (a,b,())
def de(a:ah (ah ay))(b c:aw):aq aw:=dN.g 0xeb0ebfcf866 [.sl eS a,vI b,vI c]
def mY(a b:_):iP a b=de a (ae a:aw) 0:=bh
def gH(b c a:_):de b c a=ite (ao (a<c)) (ite (ao (0<=a)) (af (b[a.toNat]?) λd=>af (MC d) λe=>ite e (ai a)<|de b c (aj ak (a+1))) au) (ai (-1)):=bB
def ew:=K 1238 [mSS,.fn 872 []] [mB] "iEKJQIEvI9RUyWJW" [mG.p,dN.p]
def gZ(a:ah (ah ay))(b:mW):aq aW:=ew.c.f (a,b,())
def lW(a b:_):gZ a b=af (iP a ()) λc=>ai (ao (c>=0)):=bh
def CD:=K 566 [mSS] [mB] "1jMClqaZdqyNLglZTfN8sJa1" [iB.p,mG.p,ew.p]
def GN(a:ah (ah ay)):aq aW:=CD.c.f (a,())
def ZI(a:_):GN a=af (iO (ae a:aw) 200) λb=>ite b (af (gZ a ()) λc=>ai (!c))<|ai aA:=bh
def QT:=K 517 [.l7 (.one .str)] [kS,mI] "1bbscoReGRPjDbpr41xNZ39NpRzvMmD" [CD.p] [.gone]
def Py(a:ah (ah ay)):aq (ah (ah ay)×aw×mW):=QT.c.f (a,())
def amN(a:_):Py a=af (GN (tk a)) λb=>ite (!b) (ai ([],5,()))<|ai ((tk a),0,()):=bh
def kG:=K 219 [.d (.one (.sl (.one (.sl (.one .str)))))] [kS,mI] "7E35O5TxC0SLcjzthC2pmnIhjjpS4webAtXmnWX584WakYx2xJx1x94Qfxv0wAjX6idbWnGZX3kSMbrr8FHjs516irwnmSyNJX4bq7I5pQrjpZr8voavX58h1hpYrrGk8DXjcbQJlH83owhonuNVRGw0XKwFaht0fA9dZgkRZpfvThqTmRAU3uPOOtf3osqSRPqhAEzemojPKGTtfr7b1HKHXd6cBa5tnzi4ieEaCBiOdumGpbRXnly0lF458jQXvN4MjBaPlEh8PUBYaqGY0ofosXl" [QT.p,(518,Af),(630,yQ),sn.p,vH.p]
def vE(a:ah (ah (ah ay))):aq (ah (ah ay)×aw):=kG.c.f (a,())
def uE(a b:ah (ah (ah ay)))(c d e f h i j k l m o p q r:aw):aq (ah (ah ay)×aw):=kG.g 0x7c5f1e715ce2d4d8 [.sl eSS a,.sl eSS b,vI c,vI d] [vI e,vI f,vI h,vI i,vI j,vI k,vI l,vI m,vI o,vI p,vI q,vI r]
def oX(a b:ah (ah (ah ay)))(c d:aw)(e:ah (ah ay))(f h i j k l m o p q r s t u:aw):aq (ah (ah ay)×aw):=kG.g 0x3c2e0354bdba24913cdc5b2ce [.sl eSS a,.sl eSS b,vI c,vI d,.sl eS e,vI f,vI h] [vI i,vI j,vI k,vI l,vI m,vI o,vI p,vI q,vI r,vI s,vI t,vI u]
def uF(a:ah (ah (ah ay)))(b c d e f h i j k l m o p q:aw)(r:ah (ah ay)):aq (ah (ah ay)×aw):=kG.g 0x69ee6650f20bef4877f95 [.sl eSS a,vI b,vI c] [vI d,vI e,vI f,vI h,vI i,vI j,vI k,vI l,vI m,vI o,vI p,vI q,.sl eS r]
def oY(a:ah (ah (ah ay)))(b c:aw)(d:ah (ah ay))(e f h i j k l m o p q r s t:aw)(u v:ah (ah ay)):aq (ah (ah ay)×aw):=kG.g 0x4ed18de433e25fd5b2d4402420ca6774ecde7b9 [.sl eSS a,vI b,vI c,.sl eS d,vI e,vI f] [vI h,vI i,vI j,vI k,vI l,vI m,vI o,vI p,vI q,vI r,vI s,vI t,.sl eS u,.sl eS v]
def abx(a:_):vE a=uE a a (ae a:aw) 0 0 0 0 0 0 0 0 0 0 0 0 0:=bh
def FT(b c d a e f g h i j k l m o p q:_):uE b c d a e f g h i j k l m o p q=ite (ao (a<d)) (ite (ao (0<=a)) (af (c[a.toNat]?) λr=>af (QE r) λs=>ite (!s) (ai ([],2))<|oX b c d a r (ae r:aw) 0 e f g h i j k l m o p q) au) (uF b (ae b:aw) 0 e f g h i j k l m o p q []):=bB
def FU(o p q r s t a b c d e f g h i j k l m:_):oX o p q r s t a b c d e f g h i j k l m=ite (ao (a<t)) (ite (ao (0<=a)) (af (s[a.toNat]?) λu=>Oe a (λm2=>(λy3:aw=>Oe a (λm4=>(λW5:ah aw=>oX o p q r s t (aj ak (a+1)) (nth 0 W5 0) (nth 0 W5 1) (nth 0 W5 2) (nth 0 W5 3) (nth 0 W5 4) (nth 0 W5 5) (nth 0 W5 6) (nth 0 W5 7) (nth 0 W5 8) (nth 0 W5 9) (nth 0 W5 10) (nth 0 W5 11)) ([b,c,d,e,f,g,h,i,j,k,l,m].set (m4) (ite ((ae u:aw)>y3) (ae u:aw) y3))) 12 0) (nth 0 [b,c,d,e,f,g,h,i,j,k,l,m] (m2))) 12 0) au) (uE o p q (aj ak (r+1)) b c d e f g h i j k l m):=bB
def FV(c d a e f g h i j k l m o p q b:_):uF c d a e f g h i j k l m o p q b=ite (ao (a<d)) (ite (ao (0<=a)) (af (c[a.toNat]?) λr=>oY c d a r (ae r:aw) 0 e f g h i j k l m o p q b []) au) (ite (ao (ae b=ae b)) (af (Py b) λs=>ai ((tk s.1),s.2.1)) au):=bB
def FW(q r s t u a b c d e f g h i j k l m o p:_):oY q r s t u a b c d e f g h i j k l m o p=ite (ao (a<u)) (ite (ao (0<=a)) (af (t[a.toNat]?) λv=>Oe a (λm2=>(λy3:aw=>af (strings_Repeat [32] (aj ak (y3-(ae v:aw)))) λw=>ite (ao (ae v+ae w<=cQ)) (ite (ao (ae p+1<lim)) (oY q r s t u (aj ak (a+1)) b c d e f g h i j k l m o ((tk p)++ [v++w])) au) au) (nth 0 [b,c,d,e,f,g,h,i,j,k,l,m] (m2))) 12 0) au) (af (strings_Join (tk p) [32,32]) λx=>af (Fy x [32]) λy=>ite (ao (ae o+1<lim)) (uF q r (aj ak (s+1)) b c d e f g h i j k l m ((tk o)++ [y])) au):=bB
def uz:=K 296 [.d (.one (.sl aR))] [kS,mI] "1boijZgOwWdX1rmZeSt47J9EWjdvRd3nKomufBPdRmLKQuXJSdPJPMboZap3LJeU3hLcDsjesCVzPynXAxvADRJIkVs1lXWWCLf6Fow9q38m10pVURzN93Wlaz0t9o7RVxAD7ObVRGACD6UsNHeT444x6gojFtpvpgvIV" [kG.p,jP.p,ja.p]
def y9(a:ah aR.ty):aq (ah (ah ay)×aw):=uz.c.f (a,())
def iq(a:ah aR.ty)(b c:aw)(d:ah (ah (ah ay))):aq (ah (ah ay)×aw):=uz.g 0x9b710b6671 [.sl aR a,vI b,vI c] [.sl eSS d]
def J6(a:_):y9 a=af (js a) λb=>ite (!b) (ai ([],1))<|iq a (ae a:aw) 0 [[[112,97,112,101,114],[109,97,107,101,114],[121,101,97,114,115],[116,114,117,115,116]]]:=bh
def DZ(d e a c:_):iq d e a c=ite (ao (a<e)) (ite (ao (0<=a)) (af (d[a.toNat]?) λb=>af (gU b.2.2.1) λf=>ite (ao (ae f+ [45].length<=cQ)) (af (gU b.2.2.2.1) λg=>ite (ao (ae (f++ [45])+ae g<=cQ)) (af (gU b.2.2.2.2.1) λi=>ite (ao (ae c+1<lim)) (iq d e (aj ak (a+1)) ((tk c)++ [[b.1,b.2.1,(f++ [45])++g,i]])) au) au) au) au) (af (vE (tk c)) λh=>ai ((tk h.1),h.2)):=bB
def Ml:=K 1323 [.p cM,.d da] [kS,mI] "OtViz5jrnDTsb6BVar9i5tm" [uz.p]
def GC(a:cM.ty)(b:da.ty):aq (ah (ah ay)×aw):=Ml.c.f (a,b,())
def Zz(a c:_):GC a c=af (y9 a.2.2.2.2.2.2.2.2.2.2.2.1) λb=>ai ((tk b.1),b.2):=bh
def AD:=K 810 [mS,mI] [mS] "3ShsNlxE1tplsBy9wa6" [jP.p]
def gK(a:ah ay)(b:aw):aq (ah ay):=AD.c.f (a,b,())
def W3(a b:_):gK a b=ite (ao (ae a+ [32].length<=cQ)) (af (gU b) λc=>ite (ao (ae (a++ [32])+ae c<=cQ)) (ai ((a++ [32])++c)) au) au:=bh
def DT:=K 396 [.d cM] [kS,mI] "OzOQwdQlObBg7bVUcCoKlLbw15hsHw5yQ9lgLKUqQWoROyeTAO9yfNb7f7kYLKPZH5Jkk0Rj4L3728ZdmplisoJ8O1B0TyftV2zWGTe5RVK1afijN2CtUUaAfVNhETOqvhKmCznKdi8afkF8hzn1mQMyPJBYhOlem9JhWqachgjWGturfsb6vmMti6SAEhZBvFEINEwyi4PJ6YVc3VAHX2T" [zj.p,jP.p,AD.p]
def Jo(a:cM.ty):aq (ah (ah ay)×aw):=DT.c.f (a,())
def abn(a:_):Jo a=af (Ec a) λc=>ite (!c) (ai ([],1))<|af (gK [115,116,97,99,107,115] (ae a.1:aw)) λd=>af (gK [114,105,98,115] (ae a.2.1:aw)) λe=>af (gK [114,111,119,115] (ae a.2.2.1:aw)) λf=>af (gU a.2.2.2.1) λb=>ite (ao ([115,116,111,112,32].length+ae b<=cQ)) (af (gK [112,101,103,115] (ae a.2.2.2.2.2.2.2.1:aw)) λg=>af (gK [112,111,116,115] (ae a.2.2.2.2.2.2.2.2.1:aw)) λh=>af (gK [109,111,100,101,115] (ae a.2.2.2.2.2.2.2.2.2.1:aw)) λi=>af (gK [119,111,114,107,115] (ae a.2.2.2.2.2.2.2.2.2.2.1:aw)) λj=>af (gK [112,97,112,101,114,115] (ae a.2.2.2.2.2.2.2.2.2.2.2.1:aw)) λk=>ai ([d,e,f,[115,116,111,112,32]++b,g,h,i,j,k],0)) au:=bh
def Sj:=K 1324 [.p cM,.d da] [kS,mI] "JIr1j1zbjvacuulpLidmBLCot" [DT.p]
def Mn(a:cM.ty)(b:da.ty):aq (ah (ah ay)×aw):=Sj.c.f (a,b,())
def adI(a c:_):Mn a c=af (Jo a) λb=>ai ((tk b.1),b.2):=bh
def AB:Callee:=aEL AV
def OV:aq (ah (ah ay)):=AB.f (())
def WZ:OV=ai AV:=rfl
def Se:=K 1325 [.p cM,.d da] [kS,mI] "1HmVv8jo5NhioAv1Hh" [(432,AB)]
def Mh(a:cM.ty)(b:da.ty):aq (ah (ah ay)×aw):=Se.c.f (a,b,())
def adD(a b:_):Mh a b=af (OV) λc=>ai ((tk c),0):=bh
def Xg:=K 774 [mI] [mB] "3Yz7Sm95zeDrgV" [cB.p]
def agt(a:aw):aq aW:=Xg.c.f (a,())
def asw(a:_):agt a=af (cj a 0 200) λb=>ai b:=bh
def MH:=K 773 [mI] [mB] "DZz0CvUWL84oyv" [cB.p]
def TV(a:aw):aq aW:=MH.c.f (a,())
def ajn(a:_):TV a=af (cj a 1 200) λb=>ai b:=bh
def MP:=K 971 [mI,mI,mI] [mI] "3EKOuh6dOgXBHDwTAq7mYHk"
def Ua(a b d:aw):aq aw:=MP.c.f (a,b,d,())
def ajA(a b c:_):Ua a b c=ai (ite ((ite (c>aj ak (a-b)) c<|aj ak (a-b))<a) (ite (c>aj ak (a-b)) c<|aj ak (a-b)) a):=bh
def GU:=K 967 [.d nb,.p (.one (.sl (.one (.sl (.one (.int .i64)))))),.p (.one (.int .i64)),.p (.one (.int .i64))] [mI] "5PAWFtpvlOF3iDZ64cgpBIrmnvjkgf" [BQ.p,MP.p]
def MN(a:nb.ty)(b:ah (ah aw))(d e:aw):aq aw:=GU.c.f (a,b,d,e,())
def ad7(a b c d:_):MN a b c d=af (HP a b) λe=>af (Ua e c d) λf=>ai f:=bh
def ie:=K 1270 [.d (.one (.sl (.one (.sl (.one (.int .i64)))))),.fn 967 [(.one (.sl (.one (.sl (.one (.int .i64)))))),(.one (.int .i64)),(.one (.int .i64))]] [.d (.one (.sl (.one (.sl (.one (.int .i64))))))] "3dhEepRq3arnmCWsMQlQQlgOPgwCjBcRo58dZmFkeIpy6rqs7H6Zs4yfYD0Qns32i2m4r4rGb3kx1dfpj3nCwAvhAnzuWpo3GwuGgvkBD0RgrwF8YDzCstzUB3XxN7TmKqu19Q0wuVslT" [GU.p]
def yj(a:ah (ah aw))(b:(ah (ah aw))×aw×aw×mW):aq (ah (ah aw)):=ie.c.f (a,b,())
def gP(a:ah (ah aw))(b c:aw)(d:ah (ah aw))(e f:aw)(h:ah (ah aw)):aq (ah (ah aw)):=ie.g 0x3e47ad10215297cb41499eb28f8 [.sl eII a,vI b,vI c,.sl eII d,vI e,vI f] [.sl eII h]
def jH(a:ah (ah aw))(b c d:aw)(e:ah (ah aw))(f h i j:aw)(k:ah (ah aw))(l:ah aw):aq (ah (ah aw)):=ie.g 0xad6bc482849a0a5ce58d85d0b3a6e444ffad637 [.sl eII a,vI b,vI c,vI d,.sl eII e,vI f,vI h,vI i,vI j] [.sl eII k,.sl eI l]
def II(b a:_):yj b a=gP a.1 a.2.1 a.2.2.1 b (ae b:aw) 0 []:=bh
def qA(e f g b c a d:_):gP e f g b c a d=ite (ao (a<c)) (ite (ao (0<=a)) (af (b[a.toNat]?) λh=>jH e f g a b c a (h.length:aw) 0 d []) au) (ai (tk d)):=bB
def qB(a b c g h i j k d e f:_):jH a b c g h i j k d e f=ite (ao (d<k)) (af (MN (g,d,()) a b c) λl=>ite (ao (ae f+1<lim)) (jH a b c g h i j k (aj ak (d+1)) e ((tk f)++ [l])) au) (ite (ao (ae e+1<lim)) (gP a b c h i (aj ak (j+1)) ((tk e)++ [(tk f)])) au):=bB
def MO:=K 770 [.d (.one (.sl (.one (.sl (.one (.int .i64)))))),mI,mI] [.d (.one (.sl (.one (.sl (.one (.int .i64))))))] "9VKNzCHaFRqAEYKGD4nPTFzhntzbSocKcwWuX35cA4n44JOZf3eD4lPfX" [ie.p]
def T9(a:ah (ah aw))(b d:aw):aq (ah (ah aw)):=MO.c.f (a,b,d,())
def ajy(a b c:_):T9 a b c=af (yj a (a,b,c,())) λd=>ai d:=bh
def Eb:=K 363 [.d (.one (.sl (.one (.sl (.one (.int .i64)))))),mI,mI] [.d (.one (.sl (.one (.sl (.one (.int .i64)))))),mI] "BTMYKDQQ4THpwQ5UtATMdTaYk5eq1VHBYj2vcUQsfcbjZAUsbrJq5Dsq1" [kH.p,MO.p,MH.p,Xg.p]
def Ea(a:ah (ah aw))(b d:aw):aq (ah (ah aw)×aw):=Eb.c.f (a,b,d,())
def Vw(a:ah (ah aw))(b c:aw):aq (ah (ah aw)×aw):=Eb.g 0x129 [.sl eII a,vI b,vI c]
def BI(a b c:_):Ea a b c=af (nA a) λd=>ite (!d) (ai ([],1))<|af (agt b) λe=>ite (!e) (ai ([],2))<|af (TV c) λf=>ite (!f) (ai ([],2))<|Vw a b c:=bh
def aby(a b c:_):Vw a b c=af (T9 a b c) λd=>ai (d,0):=bB
def zc:=K 353 [.d (.one (.sl (.one (.sl (.one (.int .i64))))))] [mS] "5dF4jl8B6htqr6ZxA0NY0WQ4BMu0nhghaUfmSNNcdIarfMuRAMDMLwyB9LfOhoCZ5B3pdbRnPllo" [pY.p,(630,yQ),kH.p]
def oV(a:ah (ah aw)):aq (ah ay):=zc.c.f (a,())
def wY(a:ah (ah aw))(b c:aw)(d:ah (ah ay)):aq (ah ay):=zc.g 0x4bc4196a32 [.sl eII a,vI b,vI c] [.sl eS d]
def O7(a:_):oV a=af (nA a) λb=>ite (!b) (ai [])<|wY a (ae a:aw) 0 []:=bh
def Iv(c d a b:_):wY c d a b=ite (ao (a<d)) (ite (ao (0<=a)) (af (c[a.toNat]?) λe=>af (wk e) λf=>ite (ao (ae b+1<lim)) (wY c d (aj ak (a+1)) ((tk b)++ [f])) au) au) (af (strings_Join (tk b) [47]) λg=>ai g):=bB
def GD:=K 1326 [.box bn,.d da] [kS,mI] "2Xi9PhVNAi2LDKjOgS9NsodyVlli5fNzGsbrwfiBvKMUq23El0Kxzpm4V3EnRKPopa0hngj2CSk5uIOSeAnLv1gZe6D" [zc.p,Eb.p,CJ.p] [.box bn]
def Mo(a:bn.ty)(b:da.ty):aq (ah (ah ay)×aw×bn.ty):=GD.c.f (a,b,())
def DW(a:ah (ah aw))(b:aw)(c:bn.ty):aq (ah (ah ay)×aw×bn.ty):=GD.g 0x67d14c33569fe4731b8b9 [.sl eII a,vI b] [bn.v c]
def adJ(a c:_):Mo a c=af (c.1[0]?) λd=>af (c.1[1]?) λe=>af (Ea a.2.2.1 d e) λb=>ite (b.2==0) (DW b.1 b.2 (a.1,a.2.1,b.1,a.2.2.2.1,a.2.2.2.2.1,a.2.2.2.2.2.1,a.2.2.2.2.2.2.1,a.2.2.2.2.2.2.2.1,a.2.2.2.2.2.2.2.2.1,a.2.2.2.2.2.2.2.2.2.1,a.2.2.2.2.2.2.2.2.2.2.1,a.2.2.2.2.2.2.2.2.2.2.2.1,()))<|DW b.1 b.2 a:=bh
def W7(a b c:_):DW a b c=af (oV a) λe=>af (SH e b) λd=>ai ((tk d.1),d.2,(bI c)):=bB
def mi:=K 638 [.d (.one (.sl aR))] [.tok aR] "URHHy5vczzKEzE994UK63XXLqoTX"
def nX(a:ah aR.ty):aq (ah aR.ty):=mi.c.f (a,())
def OB(a:_):nX a=ite (ao (0<=(ae a:aw))&&ao ((ae a:aw).toNat<lim)) (ite (ao (0+ae a<lim)) (ai (([]++a).take (ae ([]++a)))) au) au:=bh
def Ep:=K 636 [.d (.one (.sl aR))] [mI] "2sg9DdEycZNHTWGr2Qq44omOLQ4FOtZqEU6R0jfAU8uYJa2cUu81aTAmDgHGinM8ZJO6JhrXA14CtwoL4rOX58kvZmgbxMqxq051naG5PljWtU9cX5vZN2SURFVbP97pEMgu14TtGDB63QbvNthZLBFyNhyG0huT" [KQ.p]
def CK(a:ah aR.ty):aq aw:=Ep.c.f (a,())
def oi(a:ah aR.ty)(b c:aw)(d:ah aR.ty)(e f:aw):aq aw:=Ep.g 0xd0a7080 [.sl aR a,vI b,vI c,.sl aR d,vI e,vI f]
def q8(a:ah aR.ty)(b c d e:aw)(f:ah aR.ty)(h i:aw)(j:ah aR.ty)(k l:aw)(m:aR.ty):aq aw:=Ep.g 0x1c92ed46d7712840217db1 [.sl aR a,vI b,vI c,vI d,vI e,.sl aR f,vI h,vI i,.sl aR j,vI k,vI l] [aR.v m]
def aaC(a:_):CK a=oi a (-1) 0 a (ae a:aw) 0:=bh
def zB(b c f d e a:_):oi b c f d e a=ite (ao (a<e)) (ite (ao (0<=a)) (af (d[a.toNat]?) λg=>q8 b c f a 0 d e a b (ae b:aw) 0 g) au) (ai c):=bB
def zC(b i c d e f g h j k a l:_):q8 b i c d e f g h j k a l=ite (ao (a<k)) (ite (ao (0<=a)) (af (j[a.toNat]?) λm=>ite (d !=a) (af (GO l m) λo=>ite o (q8 b i c d (aj ak (e+m.2.2.2.2.1)) f g h j k (aj ak (a+1)) l)<|q8 b i c d e f g h j k (aj ak (a+1)) l)<|q8 b i c d e f g h j k (aj ak (a+1)) l) au) (ite (ao (e>c)) (oi b d e f g (aj ak (h+1)))<|oi b i c f g (aj ak (h+1))):=bB
def iG:Callee:=ase aR
def fM(a0:ah aR.ty)(a1:aw)(a2:aw):aq (ah aR.ty×mW):=iG.f (a0,a1,a2,())
def lj(a0:ah aR.ty)(a1:aw)(a2:aw):fM a0 a1 a2=ite (ao (0<=a1)&&(ao (a1<a2)&&(ao (a2<=(ae a0:aw))&&ao (ae a0<1099511627776)))) (ai (a0.take a1.toNat++a0.drop a2.toNat,())) au:=rfl
def ux:=K 233 [.d (.one (.sl aR))] [.d (.one (.sl aR)),mI] "NeCdi37siTvnAaTrGMa0R7lsVD5tlaRgzg1oMAZdYDfKPKx155f3uauRAuuEfk0GVWiTBBo5zuDKg" [ja.p,Ep.p,(637,iG),mi.p]
def yZ(a:ah aR.ty):aq (ah aR.ty×aw):=ux.c.f (a,())
def nF(a:aw)(b:ah aR.ty):aq (ah aR.ty×aw):=ux.g 0x9b710b5d2f [vI a] [.sl aR b]
def J3(a:_):yZ a=af (js a) λc=>ite (!c) (ai ([],1))<|af (nX a) λb=>af (CK (tk b)) λd=>nF d b:=bh
def jr(b a:_):nF b a=ite (ao (b>=0)) (ite (ao (ae a=ae a)) (af (fM a b (aj ak (b+1))) λc=>af (CK (tk c.1)) λd=>nF d c.1) au) (ai ((tk a),0)):=bB
def OZ:=K 1327 [.box bn,.d da] [kS,mI] "1B4eLK7QfipK51GBY1Pc2eiz1feTcalvi7Uze4608tfva7OmDSo" [ux.p,CJ.p] [.box bn]
def Jp(a:bn.ty)(b:da.ty):aq (ah (ah ay)×aw×bn.ty):=OZ.c.f (a,b,())
def abo(a c:_):Jp a c=af (yZ a.2.2.2.2.2.2.2.2.2.2.2.1) λd=>af (SH [111,107] 0) λb=>ai ((tk b.1),b.2,((tk a.1),(tk a.2.1),a.2.2.1,a.2.2.2.1,a.2.2.2.2.1,a.2.2.2.2.2.1,a.2.2.2.2.2.2.1,(tk a.2.2.2.2.2.2.2.1),(tk a.2.2.2.2.2.2.2.2.1),(tk a.2.2.2.2.2.2.2.2.2.1),(tk a.2.2.2.2.2.2.2.2.2.2.1),d.1,())):=bh
def qq:=K 458 [mS] [kS] "1DcMlCQ8uTyWpRtdFC13UybdHhXiQTWjTIrGQr3KjDFMI7kxm1R8c8UtXpk1Ur9DyGwVN9hL" [(683,nC)]
def k9(a:ah ay):aq (ah (ah ay)):=qq.c.f (a,())
def lQ(a:ah (ah ay))(b c:aw)(d:ah (ah ay)):aq (ah (ah ay)):=qq.g 0x52ae8c9500 [.sl eS a,vI b,vI c] [.sl eS d]
def Mz(a:_):k9 a=af (strings_Split a [32]) λb=>lQ b (ae b:aw) 0 []:=bh
def pF(c d a b:_):lQ c d a b=ite (ao (a<d)) (ite (ao (0<=a)) (af (c[a.toNat]?) λe=>ite (!(e==[])) (ite (ao (ae b+1<lim)) (lQ c d (aj ak (a+1)) ((tk b)++ [e])) au)<|lQ c d (aj ak (a+1)) b) au) (ai (tk b)):=bB
def uA:Callee:=avN
def GJ(a0:ah ay):aq (aw×aW):=uA.f (a0,())
def kT(a0:ah ay):GJ a0=ai (cW a0):=rfl
def jV:=K 457 [mS] [kI,mB] "2izibWDCIYcY5ujJpgku7GWxhF12qL4Rbv4t3u8bWe5arGvD8BmHqn7Qj3L5LmpKXYfRMjeYvT3ylnOj6jW2OErWFjmJVVTjcdDevZbDoOqRDhBPKasyrg9T13O27YLvMrRk3bMHdhP7FSZnATR" [cB.p,(522,uA),(683,nC)]
def eE(a:ah ay):aq (ah aw×aW):=jV.c.f (a,())
def sC(a:ah (ah ay))(b c:aw)(d:ah aw):aq (ah aw×aW):=jV.g 0x18302fe3e07 [.sl eS a,vI b,vI c] [.sl eI d]
def GK(a:_):eE a=ite (a==[45]) (ai ([],aB)) (af (strings_Split a [44]) λb=>sC b (ae b:aw) 0 []):=bh
def rZ(c d a b:_):sC c d a b=ite (ao (a<d)) (ite (ao (0<=a)) (af (c[a.toNat]?) λf=>af (GJ f) λe=>ite (!e.2) (ai ([],aA))<|af (cj e.1 (-1000000000000) 1000000000000) λg=>ite (!g) (ai ([],aA))<|ite ((ae b:aw)==64) (ai ([],aA))<|ite (ao (ae b+1<lim)) (sC c d (aj ak (a+1)) ((tk b)++ [e.1])) au) au) (ai ((tk b),aB)):=bB
def vJ:=K 673 [mS] [mI,mB] "1BlmIXztXsrlYEsD64Sjnhqq7PHCrFfKtGylByOENlXyyiflY7GQmWS8GDIpsyIyNROqFgJ2KcqP3jSLkoyAaBFGMYQSq9RsE3Ak8" [Ej.p]
def QL(a:ah ay):aq (aw×aW):=vJ.c.f (a,())
def SD(a:ah ay):aq (aw×aW):=vJ.g 0x81 [vS a]
def sQ(a:ah ay)(b c:aw):aq (aw×aW):=vJ.g 0xaca9d50 [vS a,vI b,vI c]
def SC(a:_):QL a=ite (a==[]) (ai (0,aA)) (ite (ao ((ae a:aw)>18)) (ai (0,aA))<|SD a):=bh
def Kd(a:_):SD a=sQ a 0 0:=bB
def sb(b c a:_):sQ b c a=ite (ao (a<(ae b:aw))) (ite (ao (0<=a)) (af (b[a.toNat]?) λd=>af (KS (d.toNat:aw)) λe=>ite (!e) (ai (0,aA))<|ite (ao (0<=a)) (af (b[a.toNat]?) λf=>sQ b (aj ak ((aj ak (10*c))+(aj ak (aj Gq ((f.toNat:aw)-48))))) (aj ak (a+1))) au) au) (ai (c,aB)):=bB
def sU:=K 680 [mI,mI] [mI] "K7SZIaIQeYP4ePbmPwXNy8pOGSr0h9QOvL372mucdHs2uHrcd4uKAaxxT4uOHY1brBAbAphY7aWre"
def o6(a b:aw):aq aw:=sU.c.f (a,b,())
def ad3(b a:_):o6 b a=ite (a==2) (ite (b.tmod 4==0) (ai 29)<|ite (ao (aj ak (a-1)=0)) (ai 31)<|ite (ao (aj ak (a-1)=1)) (ai 28)<|ite (ao (aj ak (a-1)=2)) (ai 31)<|ite (ao (aj ak (a-1)=3)) (ai 30)<|ite (ao (aj ak (a-1)=4)) (ai 31)<|ite (ao (aj ak (a-1)=5)) (ai 30)<|ite (ao (aj ak (a-1)=6)) (ai 31)<|ite (ao (aj ak (a-1)=7)) (ai 31)<|ite (ao (aj ak (a-1)=8)) (ai 30)<|ite (ao (aj ak (a-1)=9)) (ai 31)<|ite (ao (aj ak (a-1)=10)) (ai 30)<|ite (ao (aj ak (a-1)=11)) (ai 31) au) (ite (ao (aj ak (a-1)=0)) (ai 31)<|ite (ao (aj ak (a-1)=1)) (ai 28)<|ite (ao (aj ak (a-1)=2)) (ai 31)<|ite (ao (aj ak (a-1)=3)) (ai 30)<|ite (ao (aj ak (a-1)=4)) (ai 31)<|ite (ao (aj ak (a-1)=5)) (ai 30)<|ite (ao (aj ak (a-1)=6)) (ai 31)<|ite (ao (aj ak (a-1)=7)) (ai 31)<|ite (ao (aj ak (a-1)=8)) (ai 30)<|ite (ao (aj ak (a-1)=9)) (ai 31)<|ite (ao (aj ak (a-1)=10)) (ai 30)<|ite (ao (aj ak (a-1)=11)) (ai 31) au):=bh
def BR:=K 681 [mI] [mI] "4zfx6vvzkcmu7BOTc" [sU.p]
def A4(a:aw):aq aw:=BR.c.f (a,())
def agx(a:_):A4 a=af (o6 a 2) λb=>ai (aj ak (337+b)):=bh
def oB:=K 262 [mI,mI,mI] [mI,mI] "15PxV7vTjPBo4S5axXrTgE7i6tPG0EVVjeeb7YjNCUkUiJeiqY6fztYnKaDRrXsldP0gPWs7SoYWAxsYP8QyYf8XcXcQZMFdJdd0m9YbrD1IRZCLie9wDwEraekqk23Mv6pCZ5IQljGRotBGeXKA" [cB.p,sU.p,BR.p]
def oT(a b d:aw):aq (aw×aw):=oB.c.f (a,b,d,())
def OY(a b c:aw):aq (aw×aw):=oB.g 0x81 [vI a,vI b,vI c]
def qg(a b c d:aw):aq (aw×aw):=oB.g 0x1ad79d7 [vI a,vI b,vI c,vI d]
def qi(a b c d:aw):aq (aw×aw):=oB.g 0x221fde6de [vI a,vI b,vI c,vI d]
def wV(a b c:_):oT a b c=af (cj a 2000 2099) λd=>ite (!d) (ai (0,2))<|af (cj b 1 12) λe=>ite (!e) (ai (0,2))<|af (o6 a b) λf=>af (cj c 1 f) λg=>ite (!g) (ai (0,2))<|OY a b c:=bh
def Ir(a b c:_):OY a b c=qg a b (aj ak (c-1)) 2000:=bB
def qh(a c d b:_):qg a c d b=ite (ao (b<a)) (af (A4 b) λe=>qg a c (aj ak (d+e)) (aj ak (b+1))) (qi a c d 1):=bB
def qj(b c d a:_):qi b c d a=ite (ao (a<c)) (af (o6 b a) λe=>qi b c (aj ak (d+e)) (aj ak (a+1))) (ai (d,0)):=bB
def AZ:=K 263 [mI] [mI,mI,mI,mI] "LYZetgOirQDB79N6c07IOZK57mtzAYtl3REKZgMaF4TNqqnVZBwhd4JvmciaMqBFrh81URG8b6aZAFTsMxcpOmNau3x10JIwtFIjpdRw5m" [sU.p,BR.p,Ei.p]
def Iq(a:aw):aq (aw×aw×aw×aw):=AZ.c.f (a,())
def DR(a b:aw):aq (aw×aw×aw×aw):=AZ.g 0x1d2148e [vI a,vI b]
def xL(a b c:aw):aq (aw×aw×aw×aw):=AZ.g 0x58192d31 [vI a,vI b,vI c]
def W0(a:_):Iq a=af (TT a) λb=>ite (!b) (ai (0,0,0,2))<|DR a 2000:=bh
def adA(b a:_):DR b a=af (A4 a) λc=>ite (ao (b>=c)) (af (A4 a) λd=>DR (aj ak (b-d)) (aj ak (a+1)))<|xL b a 1:=bB
def adB(c a b:_):xL c a b=af (o6 a b) λd=>ite (ao (c>=d)) (af (o6 a b) λe=>xL (aj ak (c-e)) a (aj ak (b+1)))<|ai (a,b,aj ak (c+1),0):=bB
def QS:=K 668 [mI,mI] [mS] "BXOPz0OwPgvUJz68tNgUge6BFOqdK29" [(518,Af),jP.p]
def Pt(a b:aw):aq (ah ay):=QS.c.f (a,b,())
def amK(c b:_):Pt c b=af (gU c) λa=>af (strings_Repeat [48] (ite (aj ak (b-(ae a:aw))>0) (aj ak (b-(ae a:aw))) 0)) λd=>ite (ao (ae d+ae a<=cQ)) (ai (d++a)) au:=bh
def BE:=K 260 [mI] [mS] "D6cA1x3lzwqX5Y4UAtXgKi6HsObkNm6xMXSbfPBiphfVspTb7qGrJqsUg9Md" [AZ.p,jP.p,QS.p]
def qW(a:aw):aq (ah ay):=BE.c.f (a,())
def Sb(d:_):qW d=af (Iq d) λb=>ite (b.2.2.2 !=0) (ai [])<|af (gU b.1) λa=>ite (ao (ae a+ [45].length<=cQ)) (af (Pt b.2.1 2) λc=>ite (ao (ae (a++ [45])+ae c<=cQ)) (ite (ao (ae ((a++ [45])++c)+ [45].length<=cQ)) (af (Pt b.2.2.1 2) λe=>ite (ao (ae (((a++ [45])++c)++ [45])+ae e<=cQ)) (ai ((((a++ [45])++c)++ [45])++e)) au) au) au) au:=bh
def vA:=K 261 [mS] [mI,mB] "LmvHXSamGp9nh8VPUoNv7meMExttqnvgRmDiEJTsBxhMUaSQ0qSr2Lue60Rbed48dys4p9MgMchW3x8bGajobbdP25DtPpZDpfxfOJ8e7H7dnJrpzZbVS6u28Hrhjnhjy8eSYDFwH0yx9XSXV" [BE.p,oB.p,vJ.p,(683,nC)]
def mh(a:ah ay):aq (aw×aW):=vA.c.f (a,())
def ec(a:ah ay)(b c:aw)(d:ah (ah ay))(e:T_x.ty):aq (aw×aW):=vA.g 0x6e0f4cbe8d5e81 [vS a,vI b,vI c] [.sl eS d,T_x.v e]
def Sq(a:_):mh a=af (strings_Split a [45]) λb=>ite ((ae b:aw) !=3) (ai (0,aA))<|ec a (ae b:aw) 0 b (0,0,0,()):=bh
def iu(d e a c b:_):ec d e a c b=ite (ao (a<e)) (ite (ao (0<=a)&&ao (a<(ae c:aw))) (af (c[a.toNat]?) λh=>af (QL h) λf=>ite (ao (a=0)) (ec d e (aj ak (a+1)) c (f.1,b.2.1,b.2.2.1,()))<|ite (ao (a=1)) (ec d e (aj ak (a+1)) c (b.1,f.1,b.2.2.1,()))<|ite (ao (a=2)) (ec d e (aj ak (a+1)) c (b.1,b.2.1,f.1,())) au) au) (af (oT b.1 b.2.1 b.2.2.1) λg=>ite (g.2 !=0) (ai (0,aA))<|af (qW g.1) λi=>ite (!(i==d)) (ai (0,aA))<|ai (g.1,aB)):=bB
def KT:=K 459 [mS,Wg] [mS] "3ShsNlxE1tplsBy9wa6" [pY.p]
def ML(a:ah ay)(b:ah aw):aq (ah ay):=KT.c.f (a,b,())
def aaA(a b:_):ML a b=ite (ao (ae a+ [32].length<=cQ)) (af (wk b) λc=>ite (ao (ae (a++ [32])+ae c<=cQ)) (ai ((a++ [32])++c)) au) au:=bh
def GM:=K 412 [.d aZ] [mS] "557pBZSC1G1GC9rv690RkbxbEfIivyZwCmeBcdp9qj6pbUhN7nP" [BE.p,KT.p,uD.p]
def xW(a:aZ.ty):aq (ah ay):=GM.c.f (a,())
def Pf(a:_):xW a=af (sF a) λd=>ite (!d) (ai [])<|af (ML a.1 [a.2.1,a.2.2.1]) λb=>ite (ao (ae b+ [32].length<=cQ)) (af (qW a.2.2.2.1) λc=>ite (ao (ae (b++ [32])+ae c<=cQ)) (ai ((b++ [32])++c)) au) au:=bh
def zg:=K 413 [mS] [.d aZ,mB] "LQYVWiEseLygPiR4LifoIzbsDA6oWcWcfI76aurw4HaXJyG0VjO1HVKzQASAHtWZZhsEz5ma8YXJ8uAwYMGGVDqdU1mZYpmERh0c7HRU8S7CzMAhiqpjIEsE6gt2FgJG2iNcDwfN3FzdoDX7xToJk1U9DQK1yIBrdShtgq8tE5g9gEqagoEw5QHsBUpAX7op" [vA.p,GM.p,jV.p,qq.p]
def sE(a:ah ay):aq (aZ.ty×aW):=zg.c.f (a,())
def Pe(a:ah ay)(b:aw)(c:aZ.ty)(d:ah (ah ay))(e:ah aw):aq (aZ.ty×aW):=zg.g 0x1d080916aa29 [vS a,vI b] [aZ.v c,.sl eS d,.sl eI e]
def Pd(b:_):sE b=af (k9 b) λa=>ite ((ae a:aw) !=3) (ai (([],0,0,0,()),aA))<|ite (ao (1<(ae a:aw))) (af (a[1]?) λe=>af (eE e) λc=>ite (ao (2<(ae a:aw))) (af (a[2]?) λf=>af (mh f) λd=>ite (!c.2) (ai (([],0,0,0,()),aA))<|ite (!d.2) (ai (([],0,0,0,()),aA))<|ite ((ae c.1:aw) !=2) (ai (([],0,0,0,()),aA))<|Pe b d.1 ([],0,0,0,()) a c.1) au) au:=bh
def Ix(d b h c a:_):Pe d b h c a=ite (ao (0<(ae c:aw))) (af (c[0]?) λe=>ite (ao (0<(ae a:aw))) (af (a[0]?) λf=>ite (ao (1<(ae a:aw))) (af (a[1]?) λg=>af (xW (e,f,g,b,())) λi=>ite (!(i==d)) (ai (([],0,0,0,()),aA))<|ai ((e,f,g,b,()),aB)) au) au) au:=bB
def iI:Callee:=insertC aZ
def mP(a0:ah aZ.ty)(a1:aw)(a2:ah aZ.ty):aq (ah aZ.ty×mW):=iI.f (a0,a1,a2,())
def vT(a0:ah aZ.ty)(a1:aw)(a2:ah aZ.ty):mP a0 a1 a2=ite (ao (ae a2=1)&&(ao (0<=a1)&&(ao (a1<=(ae a0:aw))&&ao (ae a0+1<1099511627776)))) (ai (a0.take a1.toNat++a2++a0.drop a1.toNat,())) au:=rfl
def zt:=K 1082 [.d aZ] [mS] "1IMmYPElqG8PePe"
def yl(a:aZ.ty):aq (ah ay):=zt.c.f (a,())
def Pz(a:_):yl a=ai a.1:=bh
def di:=K 1306 [.l7 aZ,.d aZ,mI,.fn 1082 []] [.tok aZ,mI] "79iDtYsVLRkYDrKxbzSPTjjIzrwkRj69h5L9uxYjblO0vVv3doYTKWFOPuO55r3FXqU0Um1NRWaiNEygVyD5m8G7kuyWjgbG82djIDmbc5isIxjvlsMcbDfm20huRJf62A6s4f5aUY6jG88BCwKdUVJHDuRUwU0yC7Kc" [zt.p,(1083,iI)] [.gone]
def fG(a:ah aZ.ty)(b:aZ.ty)(d:aw)(e:mW):aq (ah aZ.ty×aw×mW):=di.c.f (a,b,d,e,())
def eR(a:ax)(b c:aw)(d:ah aZ.ty)(e:aZ.ty):aq (ah aZ.ty×aw×mW):=di.g 0x2926216733dd0316386a [vI b,vI c] [.sl aZ d,aZ.v e] [a]
def eT(a:ax)(b c:aw)(d:ah aZ.ty)(e:aZ.ty):aq (ah aZ.ty×aw×mW):=di.g 0x24432c2cc14ef283 [vI b,vI c] [.sl aZ d,aZ.v e] [a]
def eU(a:ax)(b c:aw)(d:ah aZ.ty)(e:aZ.ty):aq (ah aZ.ty×aw×mW):=di.g 0xbcdfb49619c6 [vI b,vI c] [.sl aZ d,aZ.v e] [a]
def gV(a:ax)(b:aw)(c:ah aZ.ty)(d:aZ.ty):aq (ah aZ.ty×aw×mW):=di.g 0x621b446ed [vI b] [.sl aZ c,aZ.v d] [a]
def uN(a b c d:_):fG a b c d=eR (ae a) c 0 a b:=bh
def rR(d:ax)(e a b c:_):eR d e a b c=ite (ao (a<(ae b:aw))) (ite (ao (0<=a)&&ao (a<(ae b:aw))) (af (b[a.toNat]?) λf=>af (yl f) λg=>af (yl c) λh=>ite (dB g h) (eR d e (aj ak (a+1)) b c)<|eT d e a b c) au) (eT d e a b c):=bB
def rS(d:ax)(e a b c:_):eT d e a b c=ite (ao (a<(ae b:aw))) (ite (ao (0<=a)&&ao (a<(ae b:aw))) (af (b[a.toNat]?) λf=>af (yl f) λg=>af (yl c) λh=>ite (g==h) (ai ((tk b),4,()))<|eU d e a b c) au) (eU d e a b c):=bB
def rT(b:ax)(c d a e:_):eU b c d a e=ite (ao ((ae a:aw)>=c)) (ai ((tk a),5,())) (gV b d a e):=bB
def rU(d:ax)(b a c:_):gV d b a c=ite (ao (ae a=ae a)) (af (mP a b [c]) λe=>ai ((tk e.1),0,())) au:=bB
def Xp:=K 1328 [.box bn,mS] [mB,mI] "KKteXIl8gPRkPbVdZRUJs9FoTvuveJfUCJZvXUODoXbEMKQuJ9utFg0ecl1ePLzG98jHAnBIbfSDoNWiusDp" [zg.p,zt.p,di.p] [.box bn]
def TZ(a:bn.ty)(b:ah ay):aq (aW×aw×bn.ty):=Xp.c.f (a,b,())
def ajp(a c:_):TZ a c=af (sE c) λb=>ite b.2 (ite (ao (ae a.1=ae a.1)) (af (fG a.1 b.1 12 ()) λd=>ai (b.2,d.2.1,((tk d.1),(tk a.2.1),a.2.2.1,a.2.2.2.1,a.2.2.2.2.1,a.2.2.2.2.2.1,a.2.2.2.2.2.2.1,(tk a.2.2.2.2.2.2.2.1),(tk a.2.2.2.2.2.2.2.2.1),(tk a.2.2.2.2.2.2.2.2.2.1),(tk a.2.2.2.2.2.2.2.2.2.2.1),a.2.2.2.2.2.2.2.2.2.2.2.1,()))) au)<|ai (b.2,0,(bI a)):=bh
def Rn:Callee:=aDH
def strings_Cut(a0:ah ay)(a1:ah ay):aq (ah ay×ah ay×aW):=Rn.f (a0,a1,())
def Oa(a0:ah ay)(a1:ah ay):strings_Cut a0 a1=ite (ao (ae a0<4294967281)) (ai (TA a0 a1)) au:=rfl
def lS:=K 747 [mS,mI] [mS,kI,mB] "piAep0T5NOenlNIzyasxhBMHbfXpTwdb9ab8xdpB074iU7tIdD8AYg6ie6yARN37JQqCQXAtRZHGIAo" [jV.p,(523,Rn)]
def kL(a:ah ay)(b:aw):aq (ah ay×ah aw×aW):=lS.c.f (a,b,())
def Px(c d:_):kL c d=af (strings_Cut c [32]) λa=>af (eE a.2.1) λb=>ite a.2.2 (ite b.2 (ai (a.1,(tk b.1),((ae b.1:aw)==d)))<|ai (a.1,(tk b.1),aA))<|ai (a.1,(tk b.1),aA):=bh
def Mw:=K 340 [mS] [.d be,mB] "1XE7CIZb4oYUKm9HKBMC0LHjG8smuXStZ0Od37S7cznNga9wyoTDfcyqjYNWAyjgH7nvWy2DiQiCJBoYnJKTvxaYcWoP5idEA6kc7Pz9n035hHl" [lS.p,zh.p]
def KO(a:ah ay):aq (be.ty×aW):=Mw.c.f (a,())
def Vs(b:_):KO b=af (kL b 2) λa=>ite (!a.2.2) (ai (([],0,0,()),aA))<|ite (ao (0<(ae a.2.1:aw))) (af (a.2.1[0]?) λc=>ite (ao (1<(ae a.2.1:aw))) (af (a.2.1[1]?) λd=>af (xT (a.1,c,d,())) λe=>ite (!e) (ai (([],0,0,()),aA))<|ai ((a.1,c,d,()),aB)) au) au:=bh
def jD:Callee:=insertC be
def ph(a0:ah be.ty)(a1:aw)(a2:ah be.ty):aq (ah be.ty×mW):=jD.f (a0,a1,a2,())
def zK(a0:ah be.ty)(a1:aw)(a2:ah be.ty):ph a0 a1 a2=ite (ao (ae a2=1)&&(ao (0<=a1)&&(ao (a1<=(ae a0:aw))&&ao (ae a0+1<1099511627776)))) (ai (a0.take a1.toNat++a2++a0.drop a1.toNat,())) au:=rfl
def zu:=K 1085 [.d be] [mS] "11l6Red2plNkNCj"
def ym(a:be.ty):aq (ah ay):=zu.c.f (a,())
def PB(a:_):ym a=ai a.1:=bh
def dA:=K 1307 [.l7 be,.d be,mI,.fn 1085 []] [.tok be,mI] "1eRFDiS78O2JAz7OtmzcoMx4xPTshZk5iVX3KpEpgsBNfzSENdH5wRszWEgMfS205WPFNQgCWdgdtWUEUK0hDTbnvhhlxkcECFgJ9zzLvSQ9edPjHkVCX8lT9SeCodQt4gnychPuo0d8GlfIuzybMunMq8z85zumldGo" [zu.p,(1086,jD)] [.gone]
def fW(a:ah be.ty)(b:be.ty)(d:aw)(e:mW):aq (ah be.ty×aw×mW):=dA.c.f (a,b,d,e,())
def fB(a:ax)(b c:aw)(d:ah be.ty)(e:be.ty):aq (ah be.ty×aw×mW):=dA.g 0x2beb28c1f4156555043a [vI b,vI c] [.sl be d,be.v e] [a]
def fC(a:ax)(b c:aw)(d:ah be.ty)(e:be.ty):aq (ah be.ty×aw×mW):=dA.g 0x26b4008a4ff8ea31 [vI b,vI c] [.sl be d,be.v e] [a]
def fD(a:ax)(b c:aw)(d:ah be.ty)(e:be.ty):aq (ah be.ty×aw×mW):=dA.g 0xc9908e5f3e7f [vI b,vI c] [.sl be d,be.v e] [a]
def iF(a:ax)(b:aw)(c:ah be.ty)(d:be.ty):aq (ah be.ty×aw×mW):=dA.g 0x68ae8bb3b [vI b] [.sl be c,be.v d] [a]
def wJ(a b c d:_):fW a b c d=fB (ae a) c 0 a b:=bh
def ue(d:ax)(e a b c:_):fB d e a b c=ite (ao (a<(ae b:aw))) (ite (ao (0<=a)&&ao (a<(ae b:aw))) (af (b[a.toNat]?) λf=>af (ym f) λg=>af (ym c) λh=>ite (dB g h) (fB d e (aj ak (a+1)) b c)<|fC d e a b c) au) (fC d e a b c):=bB
def uf(d:ax)(e a b c:_):fC d e a b c=ite (ao (a<(ae b:aw))) (ite (ao (0<=a)&&ao (a<(ae b:aw))) (af (b[a.toNat]?) λf=>af (ym f) λg=>af (ym c) λh=>ite (g==h) (ai ((tk b),4,()))<|fD d e a b c) au) (fD d e a b c):=bB
def ug(b:ax)(c d a e:_):fD b c d a e=ite (ao ((ae a:aw)>=c)) (ai ((tk a),5,())) (iF b d a e):=bB
def uh(d:ax)(b a c:_):iF d b a c=ite (ao (ae a=ae a)) (af (ph a b [c]) λe=>ai ((tk e.1),0,())) au:=bB
def Xq:=K 1329 [.box bn,mS] [mB,mI] "1zA53XQIZT36x3X2pmrVUyO9JlRqiNNUr0JH6qxKCnb6iUeR4xLji34cxijTphQw9AcZoTgF7nqjFb1qZriN" [Mw.p,zu.p,dA.p] [.box bn]
def T0(a:bn.ty)(b:ah ay):aq (aW×aw×bn.ty):=Xq.c.f (a,b,())
def ajq(a c:_):T0 a c=af (KO c) λb=>ite b.2 (ite (ao (ae a.2.1=ae a.2.1)) (af (fW a.2.1 b.1 8 ()) λd=>ai (b.2,d.2.1,((tk a.1),(tk d.1),a.2.2.1,a.2.2.2.1,a.2.2.2.2.1,a.2.2.2.2.2.1,a.2.2.2.2.2.2.1,(tk a.2.2.2.2.2.2.2.1),(tk a.2.2.2.2.2.2.2.2.1),(tk a.2.2.2.2.2.2.2.2.2.1),(tk a.2.2.2.2.2.2.2.2.2.2.1),a.2.2.2.2.2.2.2.2.2.2.2.1,()))) au)<|ai (b.2,0,(bI a)):=bh
def zf:=K 354 [mS] [.d (.one (.sl (.one (.sl (.one (.int .i64)))))),mB] "4LXq6qz30u2u2bgDrMwNnOis5BpsMWlxtUVO1sVZVUEnVHN8iwvyEHOOSAI3xXdrpYTzt7nEOGsBLvwr1SiYwiLMx0lFgyEmK8YIWQEfsQBIGDdsj1gImZn7vrg9h" [jV.p,(683,nC),kH.p]
def D5(a:ah ay):aq (ah (ah aw)×aW):=zf.c.f (a,())
def qo(a:ah (ah ay))(b c:aw)(d:ah (ah aw)):aq (ah (ah aw)×aW):=zf.g 0x1a65665c8b0 [.sl eS a,vI b,vI c] [.sl eII d]
def Pc(a:_):D5 a=af (strings_Split a [47]) λb=>qo b (ae b:aw) 0 []:=bh
def qp(c d b a:_):qo c d b a=ite (ao (b<d)) (ite (ao (0<=b)) (af (c[b.toNat]?) λf=>af (eE f) λe=>ite (!e.2) (ai ([],aA))<|ite ((ae a:aw)==10) (ai ([],aA))<|ite (ao (ae a+1<lim)) (qo c d (aj ak (b+1)) ((tk a)++ [(tk e.1)])) au) au) (af (nA (tk a)) λg=>ite (!g) (ai ([],aA))<|ai ((tk a),aB)):=bB
def Xr:=K 1330 [.box bn,mS] [mB,mI] "l9SAazCeuJ8XEG1MjfJnfSqrMv2iBtm4e1f9uVoCBBpYKteQanR" [zf.p] [.box bn]
def T1(a:bn.ty)(b:ah ay):aq (aW×aw×bn.ty):=Xr.c.f (a,b,())
def ajr(a c:_):T1 a c=af (D5 c) λb=>ite b.2 (ai (b.2,0,((tk a.1),(tk a.2.1),b.1,a.2.2.2.1,a.2.2.2.2.1,a.2.2.2.2.2.1,a.2.2.2.2.2.2.1,(tk a.2.2.2.2.2.2.2.1),(tk a.2.2.2.2.2.2.2.2.1),(tk a.2.2.2.2.2.2.2.2.2.1),(tk a.2.2.2.2.2.2.2.2.2.2.1),a.2.2.2.2.2.2.2.2.2.2.2.1,())))<|ai (b.2,0,(bI a)):=bh
def BG:=K 311 [mS] [.d iZ,mB] "dgRmSUzwkSYQhAtX2F715JsY7Rdna4ZEf2yrbsNtI90DIyMI4zKARFKwbLQ4F6s79m6navbq8c3xoGVBJ2WdDJcQclN2lWSBKXsoZCnhVtravTwyBNGEaOjvk6VCXzLC3SWGFM6" [sG.p,jV.p]
def HF(a:ah ay):aq (iZ.ty×aW):=BG.c.f (a,())
def Su(a:iZ.ty)(b:ah aw):aq (iZ.ty×aW):=BG.g 0x818102cdb [] [iZ.v a,.sl eI b]
def Ss(b:_):HF b=af (eE b) λa=>ite (!a.2) (ai ((0,0,0,0,()),aA))<|ite ((ae a.1:aw) !=4) (ai ((0,0,0,0,()),aA))<|Su (0,0,0,0,()) a.1:=bh
def J7(f a:_):Su f a=ite (ao (0<(ae a:aw))) (af (a[0]?) λb=>ite (ao (1<(ae a:aw))) (af (a[1]?) λc=>ite (ao (2<(ae a:aw))) (af (a[2]?) λd=>ite (ao (3<(ae a:aw))) (af (a[3]?) λe=>af (xX (b,c,d,e,())) λg=>ite (!g) (ai ((0,0,0,0,()),aA))<|ai ((b,c,d,e,()),aB)) au) au) au) au:=bB
def Xs:=K 1331 [.box bn,mS] [mB,mI] "A8k8gLTUCLKF118ZJld8dPMpsbU5Xgfpxewn6cBKrchekzgEgLFlgv0Jz" [BG.p] [.box bn]
def T3(a:bn.ty)(b:ah ay):aq (aW×aw×bn.ty):=Xs.c.f (a,b,())
def ajs(a c:_):T3 a c=af (HF c) λb=>ite b.2 (ai (b.2,0,((tk a.1),(tk a.2.1),a.2.2.1,b.1.1,b.1.2.1,b.1.2.2.1,b.1.2.2.2.1,(tk a.2.2.2.2.2.2.2.1),(tk a.2.2.2.2.2.2.2.2.1),(tk a.2.2.2.2.2.2.2.2.2.1),(tk a.2.2.2.2.2.2.2.2.2.2.1),a.2.2.2.2.2.2.2.2.2.2.2.1,())))<|ai (b.2,0,(bI a)):=bh
def Mu:=K 376 [mS] [.d aZ,mB] "UomWIoi36XpBb4o4VjWydg8XcerXBYi7WGMKSXmLZvk0A0QktuCiqbQHoAKk2XXxwe2I1biAp5gzZliJ5kcbuLaCQDFsKchV8mMzbEqw9GMvJvNt3ZVUM0Q9tsRYM" [lS.p,za.p]
def KM(a:ah ay):aq (aZ.ty×aW):=Mu.c.f (a,())
def Vq(b:_):KM b=af (kL b 3) λa=>ite (!a.2.2) (ai (([],0,0,0,()),aA))<|ite (ao (0<(ae a.2.1:aw))) (af (a.2.1[0]?) λc=>ite (ao (1<(ae a.2.1:aw))) (af (a.2.1[1]?) λd=>ite (ao (2<(ae a.2.1:aw))) (af (a.2.1[2]?) λe=>af (xR (a.1,c,d,e,())) λf=>ite (!f) (ai (([],0,0,0,()),aA))<|ai ((a.1,c,d,e,()),aB)) au) au) au:=bh
def jB:Callee:=insertC aZ
def pf(a0:ah aZ.ty)(a1:aw)(a2:ah aZ.ty):aq (ah aZ.ty×mW):=jB.f (a0,a1,a2,())
def zI(a0:ah aZ.ty)(a1:aw)(a2:ah aZ.ty):pf a0 a1 a2=ite (ao (ae a2=1)&&(ao (0<=a1)&&(ao (a1<=(ae a0:aw))&&ao (ae a0+1<1099511627776)))) (ai (a0.take a1.toNat++a2++a0.drop a1.toNat,())) au:=rfl
def zw:=K 1088 [.d aZ] [mS] "1IMmYPElqG8PePe"
def yn(a:aZ.ty):aq (ah ay):=zw.c.f (a,())
def PD(a:_):yn a=ai a.1:=bh
def dy:=K 1308 [.l7 aZ,.d aZ,mI,.fn 1088 []] [.tok aZ,mI] "79iDtYsVLRkYDrKxbzSPTjjIzrwkRj69h5L9uxYjblO0vVv3doYTKWFOPuO55r3FXqU0Um1NRWaiNEygVyD5m8G7kuyWjgbG82djIDmbc5isIxjvlsMcbDfm20huRJf62A6s4f5aUY6jG88BCwKdUVJHDuRUwU0yC7Kc" [zw.p,(1089,jB)] [.gone]
def fU(a:ah aZ.ty)(b:aZ.ty)(d:aw)(e:mW):aq (ah aZ.ty×aw×mW):=dy.c.f (a,b,d,e,())
def ft(a:ax)(b c:aw)(d:ah aZ.ty)(e:aZ.ty):aq (ah aZ.ty×aw×mW):=dy.g 0x292621932093f766a02e [vI b,vI c] [.sl aZ d,aZ.v e] [a]
def fv(a:ax)(b c:aw)(d:ah aZ.ty)(e:aZ.ty):aq (ah aZ.ty×aw×mW):=dy.g 0x24432c5376ae7604 [vI b,vI c] [.sl aZ d,aZ.v e] [a]
def fw(a:ax)(b c:aw)(d:ah aZ.ty)(e:aZ.ty):aq (ah aZ.ty×aw×mW):=dy.g 0xbcdfb49619c6 [vI b,vI c] [.sl aZ d,aZ.v e] [a]
def iC(a:ax)(b:aw)(c:ah aZ.ty)(d:aZ.ty):aq (ah aZ.ty×aw×mW):=dy.g 0x621b446ed [vI b] [.sl aZ c,aZ.v d] [a]
def wH(a b c d:_):fU a b c d=ft (ae a) c 0 a b:=bh
def tV(d:ax)(e a b c:_):ft d e a b c=ite (ao (a<(ae b:aw))) (ite (ao (0<=a)&&ao (a<(ae b:aw))) (af (b[a.toNat]?) λf=>af (yn f) λg=>af (yn c) λh=>ite (dB g h) (ft d e (aj ak (a+1)) b c)<|fv d e a b c) au) (fv d e a b c):=bB
def tX(d:ax)(e a b c:_):fv d e a b c=ite (ao (a<(ae b:aw))) (ite (ao (0<=a)&&ao (a<(ae b:aw))) (af (b[a.toNat]?) λf=>af (yn f) λg=>af (yn c) λh=>ite (g==h) (ai ((tk b),4,()))<|fw d e a b c) au) (fw d e a b c):=bB
def tY(b:ax)(c d a e:_):fw b c d a e=ite (ao ((ae a:aw)>=c)) (ai ((tk a),5,())) (iC b d a e):=bB
def tZ(d:ax)(b a c:_):iC d b a c=ite (ao (ae a=ae a)) (af (pf a b [c]) λe=>ai ((tk e.1),0,())) au:=bB
def Xt:=K 1332 [.box bn,mS] [mB,mI] "E3Ibb6vhJ0XgbGLhEC3IXihX1PqhpkKJSieOA48WLwDYKGkDD8b6dkrivAC9bttD645q4F7QFZiWBMuedmTXh" [Mu.p,zw.p,dy.p] [.box bn]
def T4(a:bn.ty)(b:ah ay):aq (aW×aw×bn.ty):=Xt.c.f (a,b,())
def ajt(a c:_):T4 a c=af (KM c) λb=>ite b.2 (ite (ao (ae a.2.2.2.2.2.2.2.1=ae a.2.2.2.2.2.2.2.1)) (af (fU a.2.2.2.2.2.2.2.1 b.1 8 ()) λd=>ai (b.2,d.2.1,((tk a.1),(tk a.2.1),a.2.2.1,a.2.2.2.1,a.2.2.2.2.1,a.2.2.2.2.2.1,a.2.2.2.2.2.2.1,(tk d.1),(tk a.2.2.2.2.2.2.2.2.1),(tk a.2.2.2.2.2.2.2.2.2.1),(tk a.2.2.2.2.2.2.2.2.2.2.1),a.2.2.2.2.2.2.2.2.2.2.2.1,()))) au)<|ai (b.2,0,(bI a)):=bh
def Mv:=K 326 [mS] [.d cx,mB] "o1ftZJwSoRNPVcsIVaLTfe7WmjSMo7i4W2ojViSasNRNB1769z4GS3O7u5JF0cIB94kWIU8Hebk1pg4oDVmTZIyklI745FG3l0nWFMLRQCOtClzbGOzht11Cj8JLKGvPOzp21IaCuqUM" [sB.p,lS.p]
def KN(a:ah ay):aq (cx.ty×aW):=Mv.c.f (a,())
def Vr(b:_):KN b=af (kL b 4) λa=>ite (!a.2.2) (ai (([],0,0,0,0,()),aA))<|ite (ao (0<(ae a.2.1:aw))) (af (a.2.1[0]?) λc=>ite (ao (1<(ae a.2.1:aw))) (af (a.2.1[1]?) λd=>ite (ao (2<(ae a.2.1:aw))) (af (a.2.1[2]?) λe=>ite (ao (3<(ae a.2.1:aw))) (af (a.2.1[3]?) λf=>af (sA (a.1,c,d,e,f,())) λg=>ite (!g) (ai (([],0,0,0,0,()),aA))<|ai ((a.1,c,d,e,f,()),aB)) au) au) au) au:=bh
def jC:Callee:=insertC cx
def pg(a0:ah cx.ty)(a1:aw)(a2:ah cx.ty):aq (ah cx.ty×mW):=jC.f (a0,a1,a2,())
def zJ(a0:ah cx.ty)(a1:aw)(a2:ah cx.ty):pg a0 a1 a2=ite (ao (ae a2=1)&&(ao (0<=a1)&&(ao (a1<=(ae a0:aw))&&ao (ae a0+1<1099511627776)))) (ai (a0.take a1.toNat++a2++a0.drop a1.toNat,())) au:=rfl
def zx:=K 1091 [.d cx] [mS] "1IMmYPElqG8PePi"
def yo(a:cx.ty):aq (ah ay):=zx.c.f (a,())
def PE(a:_):yo a=ai a.1:=bh
def dz:=K 1309 [.l7 cx,.d cx,mI,.fn 1091 []] [.tok cx,mI] "Nz6kxDd8yL9KEcNbeDmI7DnZzMWbU5ImtnyMQAFldpS81dwUeAwJmLrx3sasI1O6sCBET9p1TJ56YnXW9kWp2rZgjmcXkFm1rcjXmpn1DTGTfajyhJcuDYDSncVB2tyXqlqL8Hyuxb7HDNvCniFsIOQLiYJ8OKadiUOZ" [zx.p,(1092,jC)] [.gone]
def fV(a:ah cx.ty)(b:cx.ty)(d:aw)(e:mW):aq (ah cx.ty×aw×mW):=dz.c.f (a,b,d,e,())
def fx(a:ax)(b c:aw)(d:ah cx.ty)(e:cx.ty):aq (ah cx.ty×aw×mW):=dz.g 0x29262193b4033d386452 [vI b,vI c] [.sl cx d,cx.v e] [a]
def fy(a:ax)(b c:aw)(d:ah cx.ty)(e:cx.ty):aq (ah cx.ty×aw×mW):=dz.g 0x24432c53f89b8a39 [vI b,vI c] [.sl cx d,cx.v e] [a]
def fA(a:ax)(b c:aw)(d:ah cx.ty)(e:cx.ty):aq (ah cx.ty×aw×mW):=dz.g 0xbcdfb49c61c8 [vI b,vI c] [.sl cx d,cx.v e] [a]
def iD(a:ax)(b:aw)(c:ah cx.ty)(d:cx.ty):aq (ah cx.ty×aw×mW):=dz.g 0x621b4470d [vI b] [.sl cx c,cx.v d] [a]
def wI(a b c d:_):fV a b c d=fx (ae a) c 0 a b:=bh
def ua(d:ax)(e a b c:_):fx d e a b c=ite (ao (a<(ae b:aw))) (ite (ao (0<=a)&&ao (a<(ae b:aw))) (af (b[a.toNat]?) λf=>af (yo f) λg=>af (yo c) λh=>ite (dB g h) (fx d e (aj ak (a+1)) b c)<|fy d e a b c) au) (fy d e a b c):=bB
def ub(d:ax)(e a b c:_):fy d e a b c=ite (ao (a<(ae b:aw))) (ite (ao (0<=a)&&ao (a<(ae b:aw))) (af (b[a.toNat]?) λf=>af (yo f) λg=>af (yo c) λh=>ite (g==h) (ai ((tk b),4,()))<|fA d e a b c) au) (fA d e a b c):=bB
def uc(b:ax)(c d a e:_):fA b c d a e=ite (ao ((ae a:aw)>=c)) (ai ((tk a),5,())) (iD b d a e):=bB
def ud(d:ax)(b a c:_):iD d b a c=ite (ao (ae a=ae a)) (af (pg a b [c]) λe=>ai ((tk e.1),0,())) au:=bB
def Xu:=K 1333 [.box bn,mS] [mB,mI] "iHwq6jA7wWrcrOZiZwQtrSChvablLKRiBRypNYbbrd8pu1aOYcQo7APb8bDv9zhwrMuH3msyzSokg0E992O9k" [Mv.p,zx.p,dz.p] [.box bn]
def T5(a:bn.ty)(b:ah ay):aq (aW×aw×bn.ty):=Xu.c.f (a,b,())
def aju(a c:_):T5 a c=af (KN c) λb=>ite b.2 (ite (ao (ae a.2.2.2.2.2.2.2.2.1=ae a.2.2.2.2.2.2.2.2.1)) (af (fV a.2.2.2.2.2.2.2.2.1 b.1 8 ()) λd=>ai (b.2,d.2.1,((tk a.1),(tk a.2.1),a.2.2.1,a.2.2.2.1,a.2.2.2.2.1,a.2.2.2.2.2.1,a.2.2.2.2.2.2.1,(tk a.2.2.2.2.2.2.2.1),(tk d.1),(tk a.2.2.2.2.2.2.2.2.2.1),(tk a.2.2.2.2.2.2.2.2.2.2.1),a.2.2.2.2.2.2.2.2.2.2.2.1,()))) au)<|ai (b.2,0,(bI a)):=bh
def Jv:=K 1095 [mS] [.d be,mB] "1XE7CIZb4oYUKm9HKBMAo8GDAZTGMftoogAeE92eXeyOkUz4NnyncKftzBwwjgFcgbXnOoRiwcAmC5WtROhiyX9vTSclljmOEG3diOZ2NLQKClp" [wX.p,lS.p]
def HE(a:ah ay):aq (be.ty×aW):=Jv.c.f (a,())
def Sr(b:_):HE b=af (kL b 2) λa=>ite (!a.2.2) (ai (([],0,0,()),aA))<|ite (ao (0<(ae a.2.1:aw))) (af (a.2.1[0]?) λc=>ite (ao (1<(ae a.2.1:aw))) (af (a.2.1[1]?) λd=>af (vz (a.1,c,d,())) λe=>ite (!e) (ai (([],0,0,()),aA))<|ai ((a.1,c,d,()),aB)) au) au:=bh
def jd:Callee:=insertC be
def nQ(a0:ah be.ty)(a1:aw)(a2:ah be.ty):aq (ah be.ty×mW):=jd.f (a0,a1,a2,())
def xt(a0:ah be.ty)(a1:aw)(a2:ah be.ty):nQ a0 a1 a2=ite (ao (ae a2=1)&&(ao (0<=a1)&&(ao (a1<=(ae a0:aw))&&ao (ae a0+1<1099511627776)))) (ai (a0.take a1.toNat++a2++a0.drop a1.toNat,())) au:=rfl
def zy:=K 1094 [.d be] [mS] "11l6Red2plNkNCj"
def yq(a:be.ty):aq (ah ay):=zy.c.f (a,())
def PF(a:_):yq a=ai a.1:=bh
def dt:=K 1310 [.l7 be,.d be,mI,.fn 1094 []] [.tok be,mI] "1eRFDiS78O2JAz7OtmzcoMx4xPTshZk5iVX3KpEpgsBNfzSENdH5wRszWEgMfS205WPFNQgCWdgdtWUEUK0hDTbnvhhlxkcECFgJ9zzLvSQ9edPjHkVCX8lT9SeCodQt4gnychPuo0d8GlfIuzybMunMq8z85zumldGo" [zy.p,(1096,jd)] [.gone]
def fK(a:ah be.ty)(b:be.ty)(d:aw)(e:mW):aq (ah be.ty×aw×mW):=dt.c.f (a,b,d,e,())
def eY(a:ax)(b c:aw)(d:ah be.ty)(e:be.ty):aq (ah be.ty×aw×mW):=dt.g 0x2beb28c2940fc064142a [vI b,vI c] [.sl be d,be.v e] [a]
def eZ(a:ax)(b c:aw)(d:ah be.ty)(e:be.ty):aq (ah be.ty×aw×mW):=dt.g 0x26b4008adcf3d1bb [vI b,vI c] [.sl be d,be.v e] [a]
def fe(a:ax)(b c:aw)(d:ah be.ty)(e:be.ty):aq (ah be.ty×aw×mW):=dt.g 0xc9908e5f3e7f [vI b,vI c] [.sl be d,be.v e] [a]
def ig(a:ax)(b:aw)(c:ah be.ty)(d:be.ty):aq (ah be.ty×aw×mW):=dt.g 0x68ae8bb3b [vI b] [.sl be c,be.v d] [a]
def vK(a b c d:_):fK a b c d=eY (ae a) c 0 a b:=bh
def sV(d:ax)(e a b c:_):eY d e a b c=ite (ao (a<(ae b:aw))) (ite (ao (0<=a)&&ao (a<(ae b:aw))) (af (b[a.toNat]?) λf=>af (yq f) λg=>af (yq c) λh=>ite (dB g h) (eY d e (aj ak (a+1)) b c)<|eZ d e a b c) au) (eZ d e a b c):=bB
def sW(d:ax)(e a b c:_):eZ d e a b c=ite (ao (a<(ae b:aw))) (ite (ao (0<=a)&&ao (a<(ae b:aw))) (af (b[a.toNat]?) λf=>af (yq f) λg=>af (yq c) λh=>ite (g==h) (ai ((tk b),4,()))<|fe d e a b c) au) (fe d e a b c):=bB
def sX(b:ax)(c d a e:_):fe b c d a e=ite (ao ((ae a:aw)>=c)) (ai ((tk a),5,())) (ig b d a e):=bB
def sY(d:ax)(b a c:_):ig d b a c=ite (ao (ae a=ae a)) (af (nQ a b [c]) λe=>ai ((tk e.1),0,())) au:=bB
def Xv:=K 1334 [.box bn,mS] [mB,mI] "1ydP9mvv91vP6bD7z9ofLM1jNAHRDLSp54ybfcLjuztxEg223lEYZJaF2dq8kzDK2AYUp0U9fy3EGwxj0q2kA" [zy.p,Jv.p,dt.p] [.box bn]
def T6(a:bn.ty)(b:ah ay):aq (aW×aw×bn.ty):=Xv.c.f (a,b,())
def ajv(a c:_):T6 a c=af (HE c) λb=>ite b.2 (ite (ao (ae a.2.2.2.2.2.2.2.2.2.1=ae a.2.2.2.2.2.2.2.2.2.1)) (af (fK a.2.2.2.2.2.2.2.2.2.1 b.1 10 ()) λd=>ai (b.2,d.2.1,((tk a.1),(tk a.2.1),a.2.2.1,a.2.2.2.1,a.2.2.2.2.1,a.2.2.2.2.2.1,a.2.2.2.2.2.2.1,(tk a.2.2.2.2.2.2.2.1),(tk a.2.2.2.2.2.2.2.2.1),(tk d.1),(tk a.2.2.2.2.2.2.2.2.2.2.1),a.2.2.2.2.2.2.2.2.2.2.2.1,()))) au)<|ai (b.2,0,(bI a)):=bh
def Jw:=K 367 [mS] [.d aZ,mB] "UomWIoi36XpBb4o4VjWydg8XcerXBYi7WGMKSXmLZvk0A0QktuCiqbQHoAKk2XXxwe2I1biAp5gzZliJ5kcbuLaCQDFsKchV8mMzbEqw9GMvJvNt3ZVUM0Q9tsRYM" [lS.p,w9.p]
def HG(a:ah ay):aq (aZ.ty×aW):=Jw.c.f (a,())
def Sv(b:_):HG b=af (kL b 3) λa=>ite (!a.2.2) (ai (([],0,0,0,()),aA))<|ite (ao (0<(ae a.2.1:aw))) (af (a.2.1[0]?) λc=>ite (ao (1<(ae a.2.1:aw))) (af (a.2.1[1]?) λd=>ite (ao (2<(ae a.2.1:aw))) (af (a.2.1[2]?) λe=>af (vG (a.1,c,d,e,())) λf=>ite (!f) (ai (([],0,0,0,()),aA))<|ai ((a.1,c,d,e,()),aB)) au) au) au:=bh
def je:Callee:=insertC aZ
def nR(a0:ah aZ.ty)(a1:aw)(a2:ah aZ.ty):aq (ah aZ.ty×mW):=je.f (a0,a1,a2,())
def xu(a0:ah aZ.ty)(a1:aw)(a2:ah aZ.ty):nR a0 a1 a2=ite (ao (ae a2=1)&&(ao (0<=a1)&&(ao (a1<=(ae a0:aw))&&ao (ae a0+1<1099511627776)))) (ai (a0.take a1.toNat++a2++a0.drop a1.toNat,())) au:=rfl
def zA:=K 1098 [.d aZ] [mS] "1IMmYPElqG8PePe"
def yr(a:aZ.ty):aq (ah ay):=zA.c.f (a,())
def PG(a:_):yr a=ai a.1:=bh
def du:=K 1311 [.l7 aZ,.d aZ,mI,.fn 1098 []] [.tok aZ,mI] "79iDtYsVLRkYDrKxbzSPTjjIzrwkRj69h5L9uxYjblO0vVv3doYTKWFOPuO55r3FXqU0Um1NRWaiNEygVyD5m8G7kuyWjgbG82djIDmbc5isIxjvlsMcbDfm20huRJf62A6s4f5aUY6jG88BCwKdUVJHDuRUwU0yC7Kc" [zA.p,(1099,je)] [.gone]
def fL(a:ah aZ.ty)(b:aZ.ty)(d:aw)(e:mW):aq (ah aZ.ty×aw×mW):=du.c.f (a,b,d,e,())
def ff(a:ax)(b c:aw)(d:ah aZ.ty)(e:aZ.ty):aq (ah aZ.ty×aw×mW):=du.g 0x29262193b6aec1604426 [vI b,vI c] [.sl aZ d,aZ.v e] [a]
def fg(a:ax)(b c:aw)(d:ah aZ.ty)(e:aZ.ty):aq (ah aZ.ty×aw×mW):=du.g 0x24432c53faf5f1e3 [vI b,vI c] [.sl aZ d,aZ.v e] [a]
def fh(a:ax)(b c:aw)(d:ah aZ.ty)(e:aZ.ty):aq (ah aZ.ty×aw×mW):=du.g 0xbcdfb49619c6 [vI b,vI c] [.sl aZ d,aZ.v e] [a]
def ij(a:ax)(b:aw)(c:ah aZ.ty)(d:aZ.ty):aq (ah aZ.ty×aw×mW):=du.g 0x621b446ed [vI b] [.sl aZ c,aZ.v d] [a]
def vL(a b c d:_):fL a b c d=ff (ae a) c 0 a b:=bh
def sZ(d:ax)(e a b c:_):ff d e a b c=ite (ao (a<(ae b:aw))) (ite (ao (0<=a)&&ao (a<(ae b:aw))) (af (b[a.toNat]?) λf=>af (yr f) λg=>af (yr c) λh=>ite (dB g h) (ff d e (aj ak (a+1)) b c)<|fg d e a b c) au) (fg d e a b c):=bB
def s9(d:ax)(e a b c:_):fg d e a b c=ite (ao (a<(ae b:aw))) (ite (ao (0<=a)&&ao (a<(ae b:aw))) (af (b[a.toNat]?) λf=>af (yr f) λg=>af (yr c) λh=>ite (g==h) (ai ((tk b),4,()))<|fh d e a b c) au) (fh d e a b c):=bB
def tc(b:ax)(c d a e:_):fh b c d a e=ite (ao ((ae a:aw)>=c)) (ai ((tk a),5,())) (ij b d a e):=bB
def te(d:ax)(b a c:_):ij d b a c=ite (ao (ae a=ae a)) (af (nR a b [c]) λe=>ai ((tk e.1),0,())) au:=bB
def Xw:=K 1335 [.box bn,mS] [mB,mI] "JWGH71decVCTCXEA92VT9r5oUAio1Ej5ilAINGs2eTKAgoJRItp87qg1MWRYwDurQvWf8Hy2bt8cpeu01RVdo" [Jw.p,zA.p,du.p] [.box bn]
def T7(a:bn.ty)(b:ah ay):aq (aW×aw×bn.ty):=Xw.c.f (a,b,())
def ajw(a c:_):T7 a c=af (HG c) λb=>ite b.2 (ite (ao (ae a.2.2.2.2.2.2.2.2.2.2.1=ae a.2.2.2.2.2.2.2.2.2.2.1)) (af (fL a.2.2.2.2.2.2.2.2.2.2.1 b.1 8 ()) λd=>ai (b.2,d.2.1,((tk a.1),(tk a.2.1),a.2.2.1,a.2.2.2.1,a.2.2.2.2.1,a.2.2.2.2.2.1,a.2.2.2.2.2.2.1,(tk a.2.2.2.2.2.2.2.1),(tk a.2.2.2.2.2.2.2.2.1),(tk a.2.2.2.2.2.2.2.2.2.1),(tk d.1),a.2.2.2.2.2.2.2.2.2.2.2.1,()))) au)<|ai (b.2,0,(bI a)):=bh
def GH:=K 387 [.d aR] [mS] "4GM8hsewajE2dFqqMTRyh3XjfneF72Ftd0OYlQhhvEbpuwNjNjWtNlN0" [KT.p,oU.p]
def xQ(a:aR.ty):aq (ah ay):=GH.c.f (a,())
def O5(a:_):xQ a=af (lP a) λc=>ite (!c) (ai [])<|ite (ao (ae a.1+ [32].length<=cQ)) (af (ML a.2.1 [a.2.2.1,a.2.2.2.1,a.2.2.2.2.1]) λb=>ite (ao (ae (a.1++ [32])+ae b<=cQ)) (ai ((a.1++ [32])++b)) au) au:=bh
def ze:=K 388 [mS] [.d aR,mB] "5Vwv7dCOrwIRWn9LI8DCKCZ3ZW1L1rshkz8KnBXmljkxr0Chgz9DCuwV7lNeijuPOhVnqzlazDGDj66WVZZV5PGmG2TWSTMduPFkB88fTiJbWvsaR9SJeL9i7OYmfrYBwOXCz12BLTYr22aYF41oFYG1KKFILRxge3lwYCQ3KUZDYyFrwGy3vYNausw" [GH.p,jV.p,qq.p]
def sD(a:ah ay):aq (aR.ty×aW):=ze.c.f (a,())
def Pb(a:ah ay)(b:aR.ty)(c:ah (ah ay))(d:ah aw):aq (aR.ty×aW):=ze.g 0x1d080916aa37 [vS a] [aR.v b,.sl eS c,.sl eI d]
def O9(b:_):sD b=af (k9 b) λa=>ite ((ae a:aw) !=3) (ai (([],[],0,0,0,()),aA))<|ite (ao (2<(ae a:aw))) (af (a[2]?) λd=>af (eE d) λc=>ite (!c.2) (ai (([],[],0,0,0,()),aA))<|ite ((ae c.1:aw) !=3) (ai (([],[],0,0,0,()),aA))<|Pb b ([],[],0,0,0,()) a c.1) au:=bh
def Iw(c i b a:_):Pb c i b a=ite (ao (0<(ae b:aw))) (af (b[0]?) λd=>ite (ao (1<(ae b:aw))) (af (b[1]?) λe=>ite (ao (0<(ae a:aw))) (af (a[0]?) λf=>ite (ao (1<(ae a:aw))) (af (a[1]?) λg=>ite (ao (2<(ae a:aw))) (af (a[2]?) λh=>af (xQ (d,e,f,g,h,())) λj=>ite (!(j==c)) (ai (([],[],0,0,0,()),aA))<|ai ((d,e,f,g,h,()),aB)) au) au) au) au) au:=bB
def iH:Callee:=insertC aR
def fN(a0:ah aR.ty)(a1:aw)(a2:ah aR.ty):aq (ah aR.ty×mW):=iH.f (a0,a1,a2,())
def ll(a0:ah aR.ty)(a1:aw)(a2:ah aR.ty):fN a0 a1 a2=ite (ao (ae a2=1)&&(ao (0<=a1)&&(ao (a1<=(ae a0:aw))&&ao (ae a0+1<1099511627776)))) (ai (a0.take a1.toNat++a2++a0.drop a1.toNat,())) au:=rfl
def pX:=K 389 [.d (.one (.sl aR)),.d aR] [.d (.one (.sl aR)),mI] "bJg47csr8E2OmuUlZhDx3iniemScPQcZcf5QglBTDMNzzTXiM573i7EWLpAEqQ0YqTeXC5r6fAqy23afoOeCCKMnyyTIlW4oxPjIIlVXWBQ9wyiUGQmTZmN81WRWPHDcjLQkTTu4f8Bagrg9voaBzJ7Jkf1olx6yJ2Qt" [ja.p,mi.p,(808,iH),oU.p]
def HC(a:ah aR.ty)(b:aR.ty):aq (ah aR.ty×aw):=pX.c.f (a,b,())
def sx(a:ah aR.ty)(b:aw)(c:aR.ty):aq (ah aR.ty×aw):=pX.g 0xe954f730980 [.sl aR a,vI b] [aR.v c]
def sy(a:ah aR.ty)(b:aw)(c:aR.ty):aq (ah aR.ty×aw):=pX.g 0x6de16c4 [.sl aR a,vI b] [aR.v c]
def oA(a:ah aR.ty)(b:aw)(c:aR.ty):aq (ah aR.ty×aw):=pX.g 0x6de16d4 [.sl aR a,vI b] [aR.v c]
def R9(a b:_):HC a b=af (js a) λc=>ite (!c) (ai ([],1))<|af (lP b) λd=>ite (!d) (ai ([],2))<|sx a 0 b:=bh
def rX(b a c:_):sx b a c=ite (ao (a<(ae b:aw))) (ite (ao (0<=a)) (af (b[a.toNat]?) λd=>ite (dB d.1 c.1) (sx b (aj ak (a+1)) c)<|sy b a c) au) (sy b a c):=bB
def J0(a b c:_):sy a b c=ite (ao (b<(ae a:aw))) (ite (ao (0<=b)) (af (a[b.toNat]?) λd=>ite (d.1==c.1) (ai ([],4))<|ite ((ae a:aw)==12) (ai ([],5))<|oA a b c) au) (ite ((ae a:aw)==12) (ai ([],5))<|oA a b c):=bB
def J1(b c d:_):oA b c d=af (nX b) λa=>ite (ao (ae a=ae a)) (af (fN a c [d]) λe=>ai ((tk e.1),0)) au:=bB
def Xx:=K 1336 [.box bn,mS] [mB,mI] "FrIFIFZjoi5rtNtbJOzApZl7waEQY3njYGDj0NsUWPJSv7BjTrhpvW1rNVsnpuAbk0uhKDayRwgoHFmghiM4pBXNsSXpOazG" [ze.p,pX.p] [.box bn]
def T8(a:bn.ty)(b:ah ay):aq (aW×aw×bn.ty):=Xx.c.f (a,b,())
def ajx(a c:_):T8 a c=af (sD c) λd=>ite (!d.2) (ai (aA,0,(bI a)))<|af (HC a.2.2.2.2.2.2.2.2.2.2.2.1 d.1) λb=>ite (b.2==0) (ai (aB,b.2,((tk a.1),(tk a.2.1),a.2.2.1,a.2.2.2.1,a.2.2.2.2.1,a.2.2.2.2.2.1,a.2.2.2.2.2.2.1,(tk a.2.2.2.2.2.2.2.1),(tk a.2.2.2.2.2.2.2.2.1),(tk a.2.2.2.2.2.2.2.2.2.1),(tk a.2.2.2.2.2.2.2.2.2.2.1),b.1,())))<|ai (aB,b.2,(bI a)):=bh
def FX:=K 1007 [.box yW,.d (.one (.int .u8)),mS] [mB] "2I6Ik24hWTWRtrhrTF6T1t0xHbMiXDxZNjxizDNpD4mZuqpAoJRNqEEOT6TxVVpLjAI4RkJALfdgGmQRBuLCSUzx4FVJgSw2oB9y72s2RmzWesIqnKRQ7MrgdNsJk7wZIZskczEes3ftmEeB3y0a7K8Y" [vA.p,jV.p,(522,uA)] [.box yW]
def dG(a:yW.ty)(b:aw)(d:ah ay):aq (aW×yW.ty):=FX.c.f (a,b,d,())
def nW(a c b:_):dG a c b=ite (c==78) (af (GJ b) λd=>ite (ao (ae a.1+1<lim)) (ai (d.2,((((tk a.1)++ [d.1]).take (ae ((tk a.1)++ [d.1]))),(tk a.2.1),a.2.2.1,a.2.2.2.1,()))) au) (ite (c==76) (af (eE b) λe=>ai (e.2,((tk a.1),(tk e.1),a.2.2.1,a.2.2.2.1,())))<|ite (c==68) (af (mh b) λf=>ai (f.2,((tk a.1),(tk a.2.1),f.1,a.2.2.2.1,())))<|ai (aB,((tk a.1),(tk a.2.1),a.2.2.1,b,()))):=bh
def cP:ExF:=⟨strings_Cut,strings_Split,dG,[([115,116,97,99,107],TZ),([114,105,98],T0),([112,108,97,116,101],T1),([110,101,99,107],T3),([112,101,103],T4),([112,111,116],T5),([109,111,100,101],T6),([119,111,114,107],T7),([112,97,112,101,114],T8)],[([100,114,121],[78,68,78],qV QB),([99,117,116],[78,78,78],qV QA),([116,104,105,110],[78,78],Mo),([109,97,115,115],[78,78],qV Mi),([115,104,105,109],[78,78],qV Mm),([102,105,116],[76,78],qV QC),([111,112,101,110],[65,78],qV Mk),([103,108,117,101],[76,78],qV Mg),([110,111,116,101],[78],qV Mj),([119,111,108,102],[78],qV Mp),([98,101,110,99,104,101,115],[78],qV DU),([116,114,117,115,116],[78],qV Jq),([99,108,101,97,110],[],Jp),([114,101,112,111,114,116],[],qV GC),([115,104,111,119],[],qV Mn),([104,101,108,112],[],qV Mh)]⟩
def AE:Callee:=exC cP
def DV(a0:bn.ty)(a1:ah ay):aq (ah (ah ay)×aw×aW×bn.ty):=AE.f (a0,a1,())
def W6(a0:bn.ty)(a1:ah ay):DV a0 a1=exF cP a0 a1:=rfl
def Jn:=K 838 [mI] [mS] "b2aEEWgx2GH5uYmijlhDBcIo8Gjdi8ygRw0wLBLcWDHPBzPUV7J9a1Zlget9byKe6pTUhDBevDrT0nsmqiVm4WSPstFafIYjUh" [Pu.p]
def wj(a:aw):aq (ah ay):=Jn.c.f (a,())
def Sa(a:_):wj a=af (GS a [[111,107],[105,110,118,97,108,105,100],[114,97,110,103,101],[110,111,116,45,102,111,117,110,100],[101,120,105,115,116,115],[102,117,108,108],[115,116,97,116,101],[111,114,100,101,114],[115,121,110,116,97,120],[102,111,114,109,97,116],[99,104,101,99,107,115,117,109],[116,114,117,110,99,97,116,101,100]]) λb=>ai b:=bh
def KV:=K 836 [mSS] [kS] "5kLcWtIKUkFkP2OGnvYwmRBUbFdawVnSE4cnU2SQphL0UrEYgeqn4mNWmeIDLCD7XwexMl6v6c8zO9QS4ZfVCg6RsQjJ"
def abF(a:ah (ah ay)):aq (ah (ah ay)):=KV.c.f (a,())
def A3(a:ah (ah ay))(b c:aw)(d:ah (ah ay)):aq (ah (ah ay)):=KV.g 0xbca41871c4 [.sl eS a,vI b,vI c] [.sl eS d]
def apz(a:_):abF a=ite ((ae a:aw)==0) (ai [[110,111,110,101]]) (A3 a (ae a:aw) 0 []):=bh
def SI(c d a b:_):A3 c d a b=ite (ao (a<d)) (ite (ao (0<=a)) (af (c[a.toNat]?) λe=>ite (e==[]) (ite (ao (ae b+1<lim)) (A3 c d (aj ak (a+1)) ((tk b)++ [[110,111,110,101]])) au)<|ite (ao (ae b+1<lim)) (A3 c d (aj ak (a+1)) ((tk b)++ [e])) au) au) (ai (tk b)):=bB
def Cy:=K 434 [.d cM,mS] [.d cM,kS,mI] "582GicIoXVXJgiRicC2k72hvyQ8Ub1T53jYgQX0yUXUxoxbNxE3uebFCNAhobCoIhWG2t13GzxBTq3BGvEDAhgi0ENMh1WEk5JThbyywq2uak5BxqDRCcXFTbQ2qQbMnPJaQdVUpNHfBgxGXSDQ5ToE6Q6MeubFyJaabaHdgfUhFlzVqHlyYRsBOieHgAiA9LVeKqulqjlLZUbJGkOrfPvGIs5zxn11IrUShWLGWNDIgViA5oKa0cPA84R5bxEPjQd6THSWTmzEviuEaiLtp8KVrMy" [iB.p,zj.p,KV.p,Jx.p,Jn.p,(839,AE)]
def Gz(a:cM.ty)(b:ah ay):aq (cM.ty×ah (ah ay)×aw):=Cy.c.f (a,b,())
def Zy(c d:_):Gz c d=af (Ec c) λf=>ite (!f) (ai (([],[],[],0,0,0,0,[],[],[],[],[],()),[],1))<|af (iO (ae d:aw) 400) λg=>ite (!g) (ai (([],[],[],0,0,0,0,[],[],[],[],[],()),[],8))<|af (HI c) λh=>af (DV (bI h) d) λa=>ite (!a.2.2.1) (ai (([],[],[],0,0,0,0,[],[],[],[],[],()),[],8))<|ite (a.2.1 !=0) (af (HI c) λb=>af (wj a.2.1) λe=>ite (ao ([101,114,114,111,114,32].length+ae e<=cQ)) (ai (((tk b.1),(tk b.2.1),b.2.2.1,b.2.2.2.1,b.2.2.2.2.1,b.2.2.2.2.2.1,b.2.2.2.2.2.2.1,(tk b.2.2.2.2.2.2.2.1),(tk b.2.2.2.2.2.2.2.2.1),(tk b.2.2.2.2.2.2.2.2.2.1),(tk b.2.2.2.2.2.2.2.2.2.2.1),b.2.2.2.2.2.2.2.2.2.2.2.1,()),[[101,114,114,111,114,32]++e],0)) au)<|af (abF a.1) λi=>ai (((tk a.2.2.2.1),(tk a.2.2.2.2.1),a.2.2.2.2.2.1,a.2.2.2.2.2.2.1,a.2.2.2.2.2.2.2.1,a.2.2.2.2.2.2.2.2.1,a.2.2.2.2.2.2.2.2.2.1,(tk a.2.2.2.2.2.2.2.2.2.2.1),(tk a.2.2.2.2.2.2.2.2.2.2.2.1),(tk a.2.2.2.2.2.2.2.2.2.2.2.2.1),(tk a.2.2.2.2.2.2.2.2.2.2.2.2.2.1),a.2.2.2.2.2.2.2.2.2.2.2.2.2.2.1,()),(tk i),0):=bh
def xc:=K 825 [mSS] [mS] "qNMvAHvrgFdqCXcgYlCN3fdGF445tmrflqMIP3hY7Xgze8goRP4W"
def Jy(a:ah (ah ay)):aq (ah ay):=xc.c.f (a,())
def uK(a:ah ay)(b:ah (ah ay))(c d:aw):aq (ah ay):=xc.g 0x1d204c8 [vS a,.sl eS b,vI c,vI d]
def abD(a:_):Jy a=uK [] a (ae a:aw) 0:=bh
def F5(b c d a:_):uK b c d a=ite (ao (a<d)) (ite (ao (0<=a)) (af (c[a.toNat]?) λe=>ite (ao (ae e+ [10].length<=cQ)) (ite (ao (ae b+ae (e++ [10])<=cQ)) (uK (b++(e++ [10])) c d (aj ak (a+1))) au) au) au) (ai b):=bB
def xU:=K 435 [mS] [mS,mI] "NA13F4ZKzYyQSlbT3Xh8GCncneKVa4g0xXgHeqRhmz32m9DireznEpbLEjYzjqryz8GaGX390OoNrmNc6A0z5gnmdI1G2x0uSexTkUKn2UyWqz4T1cBTDiXAWM8vlLQFsspMAJMWqPx6mAIn82pCurT2XGjUnJcaXMs1h1Gza6bw2jVL2Q5qntvytOZ0X95WL5bVMMMgYQi8m3HYiogi7K2BtkmFr2" [iB.p,Mr.p,Cy.p,(683,nC),xc.p]
def TP(a:ah ay):aq (ah ay×aw):=xU.c.f (a,())
def BH(a:ax)(b:ah (ah ay)):aq (ah ay×aw):=xU.g 0x28b1 [.view 4 0 a] [.sl eS b]
def vC(a:ah ay)(b:ax)(c d:aw)(e:ah (ah ay))(f:cM.ty):aq (ah ay×aw):=xU.g 0x4c3452930caa05267 [vS a,.view 4 0 b,vI c,vI d] [.sl eS e,cM.v f]
def ajk(b:_):TP b=af (strings_Split b [10]) λa=>ite (ao (0<=aj ak ((ae a:aw)-1))&&ao (aj ak ((ae a:aw)-1)<(ae a:aw))) (af (a[(aj ak ((ae a:aw)-1)).toNat]?) λc=>ite (c==[]) (ite (ao (0<=aj ak ((ae a:aw)-1))&&ao (aj ak ((ae a:aw)-1)<=(ae a:aw))) (BH ((aj ak ((ae a:aw)-1)).toNat) a) au)<|BH (ae a) a) au:=bh
def abw(a:ax)(b:_):BH a b=af (iO (a:aw) 60) λc=>ite (!c) (ai ([],5))<|af (adM) λd=>vC [] a (a:aw) 0 b d:=bB
def Mx(c:ax)(b d a e f:_):vC b c d a e f=ite (ao (a<d)) (ite (ao (0<=a)&&ao (a<(c:aw))) (af (e[a.toNat]?) λi=>af (Gz f i) λg=>ite (g.2.2 !=0) (ite (ao (ae b+ [63,10].length<=cQ)) (vC (b++ [63,10]) c d (aj ak (a+1)) e f) au)<|af (Jy (tk g.2.1)) λh=>ite (ao (ae b+h.length<=cQ)) (vC (b++h) c d (aj ak (a+1)) e g.1) au) au) (ai (b,0)):=bB
def lE:=K 1338 [mS] [mB] "W9sD6RvlX9q24snH2b8SFu5b5hOOCJKj1zTEhHA9UYK8b0bHwbTsGc9bzdhjtQy8QIK3u" [xU.p,th.p]
def Kf(a:ah ay):aq aW:=lE.c.f (a,())
def Ub(a:_):Kf a=ite (ao ((ae a:aw)>1048576)) (ai aB) (af (Uy a) λb=>af (TP a) λc=>ite (!(c.1==b.1)) (ai aA)<|ite (c.2 !=b.2) (ai aA)<|ai aB):=bh
end
end Go.Ab.P

