/- The law FnExactRunDesk answers true for every input, whatever it is, and leaves its arguments as they were. Conditions: none. -/
import Derived.Test.YtoifpbonojhjfaaGreatDoorG8
import Derived.Test.YtoifpbonojhjfaaGreatDoorRows
import Derived.Test.YtoifpbonojhjfaaGreatDoorG7
import Derived.Test.YtoifpbonojhjfaaGreatDoorG4
import Derived.Carry
import Derived.Deep.RegionHeld3
import Derived.Deep.RegionLaw
import Derived.Shelf.RegionOpenPlain
import Derived.Shelf.Spec.SlicesInsert
import Derived.StillTailTactics
import Derived.Laws.IdiomStrings
import Derived.LoopTactic
import Derived.Deep.QuietTactic
import Derived.BigQuiet
import Derived.DeepKeys4
import Derived.Maps.Own
import Derived.Maps.OwnSet
import Derived.Maps.RangeWalk
import Derived.Maps.AppendAt
import Derived.Sort.KeysCollected
import Derived.Sort.OwnSorted
import Derived.OwnWalk
import Derived.Shelf.Abstract
import Derived.Laws.EntriesVeiled
import Derived.Sort.EveryDepth
import Derived.Shelf.Slices.In.SortAlone
import Derived.Test.YtoifpbonojhjfaaGreatDoorCards
import Derived.Test.YtoifpbonojhjfaaGreatDoorTie
import Derived.LaidMore
import Derived.Lay
import Derived.SevenTiedAt
import Derived.Stop.Joined
import Derived.WalkKit
import Derived.ProofKit
import Derived.OpenShut
import Derived.JoinedOf
import Derived.Handed
set_option linter.unusedVariables false
set_option maxRecDepth 100000
set_option linter.defProp false
open Array renaming getElem?_eq_some_iff->RA
open Bool renaming false->aA,true->aB
open Go renaming Program->bV
open Go.Func renaming goes->at0
open Go.OpenSpec renaming ofChange->Zo
open Go.Proofs.Tryz renaming checked->aqb,f3->j9,prog->aO
open Go.Proofs.YtoifpbonojhjfaaGreatDoor.Rows renaming FnExactRunDeskCardSaid->apc,fnExactRunDeskRow->bD,fnExactRunDeskSpec->dj
open List renaming all_eq_true->bz,any_eq_false->LP
open Option renaming some->ai
open Option.some renaming inj->cA
open _root_ renaming Bool->aW
namespace Go.Proofs.YtoifpbonojhjfaaGreatDoor.fnExactRunDesk
open Go.Ab Go.Ab.P
open Go.ChangeShapes Go.WideShapes Go.ChangeAt Go.RowKit
def g0:aqb.prog.funcs.any at0=aA:=by kernel_rfl
def g1{P:bV}(h:P.funcs.any at0=aA)(f:FuncId):P.goes f=aA:=by
 have h2:∀(g:FuncId) (fn:Func),P.funcs[g]? =ai fn->at0 fn=aA:=λg fn e=>by have:=Array.any_eq_false.1 h;obtain⟨hi,e2⟩:=RA.1 e;have:=this g hi;rw[e2]at this;simpa using this
 unfold Program.goes;rw[h,Bool.and_false,Bool.or_false,LP];intro g _;cases e:P.funcs[g]? with|none=>simp|some fn=>simp[h2 g fn e]
def g2{P:bV}(h:P.funcs.any at0=aA)(c:OpenClaim)(hs:c.start=.entering):aA=c.goesBy P:=by unfold OpenClaim.goesBy Program.goesAt Program.goesFrom;rw[hs];cases P.funcNamed c.func with|none=>rfl|some f=>simp[g1 h f]
def cw:bD.wfByText (Zo dj)=aB:=by kernel_rfl
def cm:aqb.prog.mainIs=ai (((aB,"34d098c64b0a63e46bb9d12cfcdc43a7faf5b15356274557bcdb097e87960959"):aW×String).1,((aB,"34d098c64b0a63e46bb9d12cfcdc43a7faf5b15356274557bcdb097e87960959"):aW×String).2.toList):=by kernel_rfl
def cl:aB=aO.looks []:=by kernel_rfl
def aQl:apc:=
 Claim7.holds_tied_plain_at .later [] [.data,.data,.data,.data,.sentinel,.sentinel,.pinned] aB (aB,"34d098c64b0a63e46bb9d12cfcdc43a7faf5b15356274557bcdb097e87960959") aB over (fun _ h=>by cases h) cw (fun _ h=>by cases h) fnExactRunDesk_row_tie rfl ⟨rfl,rfl⟩ cm rfl
  (λf fn hf hq=>by obtain rfl:f=3:=cA (hfn.symm.trans hf)|>.symm;obtain rfl:fn=j9:=(cA (Tryz.func3.symm.trans hq)).symm;exact⟨cl,λj t ht=>by(have hm:t∈j9.params.toList:=by simpa using Array.mem_of_getElem? ht);(have lO:(j9.params.toList.all λu=> !aO.wantsStandIn u)=aB:=by kernel_rfl);exact(show aO.wantsStandIn t=aA by simpa using bz.1 lO t hm)⟩)
  (g2 g0 _ rfl)
theorem proved:apc:=aQl
end Go.Proofs.YtoifpbonojhjfaaGreatDoor.fnExactRunDesk

