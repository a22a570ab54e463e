/- The law FnConsole answers true for every input, whatever it is, and leaves its arguments as they were. Conditions: none. -/
import Derived.Test.YtohijocnlnmlpaaGreatDoorG8
import Derived.Test.YtohijocnlnmlpaaGreatDoorRows
import Derived.Test.YtohijocnlnmlpaaGreatDoorG7
import Derived.Test.YtohijocnlnmlpaaGreatDoorG4
import Derived.Carry
import Derived.Deep.RegionHeld3
import Derived.Deep.RegionLaw
import Derived.Shelf.RegionOpenPlain
import Derived.Shelf.Spec.SlicesInsert
import Derived.Laws.IdiomStrings
import Derived.LoopTactic
import Derived.DeepKeys4
import Derived.Maps.Own
import Derived.Maps.OwnSet
import Derived.Maps.RangeWalk
import Derived.Maps.AppendAt
import Derived.Sort.KeysCollected
import Derived.Sort.OwnSorted
import Derived.OwnWalk
import Derived.Shelf.Abstract
import Derived.Laws.EntriesVeiled
import Derived.Sort.EveryDepth
import Derived.Shelf.Slices.In.SortAlone
import Derived.Test.YtohijocnlnmlpaaGreatDoorCards
import Derived.Test.YtohijocnlnmlpaaGreatDoorTie
import Derived.LaidMore
import Derived.Lay
import Derived.SevenTiedAt
import Derived.Stop.Joined
import Derived.WalkKit
import Derived.ProofKit
import Derived.OpenShut
import Derived.JoinedOf
import Derived.Handed
set_option linter.unusedVariables false
set_option maxRecDepth 100000
set_option linter.defProp false
open Array renaming getElem?_eq_some_iff->I5
open Bool renaming false->aw,true->ar
open Go.Func renaming goes->ahO
open Go.OpenSpec renaming ofChange->PT
open Go.Proofs.Tryz renaming checked->aeJ,f3->iM,prog->aF
open Go.Proofs.YtohijocnlnmlpaaGreatDoor.Rows renaming FnConsoleCardSaid->aj8,fnConsoleRow->bp,fnConsoleSpec->dA
open List renaming all_eq_true->aG,any_eq_false->CI
open Option renaming some->ae
open Option.some renaming inj->cq
namespace Go.Proofs.YtohijocnlnmlpaaGreatDoor.fnConsole
open Go.Ab Go.Ab.P
open Go.ChangeShapes Go.WideShapes Go.ChangeAt Go.RowKit
def g0:aeJ.prog.funcs.any ahO=aw:=by kernel_rfl
def g1{P:Program}(h:P.funcs.any ahO=aw)(f:FuncId):P.goes f=aw:=by
 have h2:∀(g:FuncId) (fn:Func),P.funcs[g]? =ae fn->ahO fn=aw:=λg fn e=>by have:=Array.any_eq_false.1 h;obtain⟨hi,e2⟩:=I5.1 e;have:=this g hi;rw[e2]at this;simpa using this
 unfold Program.goes;rw[h,Bool.and_false,Bool.or_false,CI];intro g _;cases e:P.funcs[g]? with|none=>simp|some fn=>simp[h2 g fn e]
def g2{P:Program}(h:P.funcs.any ahO=aw)(c:OpenClaim)(hs:c.start=.entering):aw=c.goesBy P:=by unfold OpenClaim.goesBy Program.goesAt Program.goesFrom;rw[hs];cases P.funcNamed c.func with|none=>rfl|some f=>simp[g1 h f]
def cw:bp.wfByText (PT dA)=ar:=by kernel_rfl
def cm:aeJ.prog.mainIs=ae (((ar,"683ddbc796d6d74fd76c0ccc66c5b7d54a1cc9902f35df6c05f2062760526109"):Bool×String).1,((ar,"683ddbc796d6d74fd76c0ccc66c5b7d54a1cc9902f35df6c05f2062760526109"):Bool×String).2.toList):=by kernel_rfl
def cl:ar=aF.looks []:=by kernel_rfl
def ax0:aj8:=
 Claim7.holds_tied_plain_at .later [] [.data,.data,.data,.data,.sentinel,.sentinel,.pinned] ar (ar,"683ddbc796d6d74fd76c0ccc66c5b7d54a1cc9902f35df6c05f2062760526109") ar over (fun _ h=>by cases h) cw (fun _ h=>by cases h) fnConsole_row_tie rfl ⟨rfl,rfl⟩ cm rfl
  (λf fn hf hq=>by
    obtain rfl:f=3:=cq (hfn.symm.trans hf)|>.symm
    obtain rfl:fn=iM:=(cq (Tryz.func3.symm.trans hq)).symm
    exact⟨cl,λj t ht=>by
     have hm:t∈iM.params.toList:=by simpa using Array.mem_of_getElem? ht
     have hall:(iM.params.toList.all λu=> !aF.wantsStandIn u)=ar:=by kernel_rfl
     exact(show aF.wantsStandIn t=aw by simpa using aG.1 hall t hm)⟩)
  (g2 g0 _ rfl)
theorem proved:aj8:=ax0
end Go.Proofs.YtohijocnlnmlpaaGreatDoor.fnConsole
