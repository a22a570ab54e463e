/- The law FnConsole answers true for every input, whatever it is, and leaves its arguments as they were. Conditions: none. -/
import Derived.Test.YtohijocnlnmlpaaGreatDoorG7
import Derived.Test.YtohijocnlnmlpaaGreatDoorRows
import Derived.Test.YtohijocnlnmlpaaGreatDoorG4
import Derived.Carry
import Derived.Deep.RegionHeld3
import Derived.Deep.RegionLaw
import Derived.Shelf.RegionOpenPlain
import Derived.Shelf.Spec.SlicesInsert
import Derived.Laws.IdiomStrings
import Derived.LoopTactic
import Derived.DeepKeys4
import Derived.Maps.Own
import Derived.Maps.OwnSet
import Derived.Maps.RangeWalk
import Derived.Maps.AppendAt
import Derived.Sort.KeysCollected
import Derived.Sort.OwnSorted
import Derived.OwnWalk
import Derived.Shelf.Abstract
import Derived.Laws.EntriesVeiled
import Derived.Sort.EveryDepth
import Derived.Shelf.Slices.In.SortAlone
import Derived.Test.YtohijocnlnmlpaaGreatDoorCards
import Derived.Test.YtohijocnlnmlpaaGreatDoorTie
import Derived.LaidMore
import Derived.Lay
import Derived.SevenTiedAt
import Derived.Stop.Joined
import Derived.WalkKit
import Derived.ProofKit
import Derived.OpenShut
import Derived.JoinedOf
import Derived.Handed
set_option linter.unusedVariables false
set_option maxRecDepth 100000
set_option linter.defProp false
open Bool renaming true->ar
open Decidable renaming decide->ah
open Go.OpenSpec renaming ofChange->PT
open Go.Proofs.Tryz renaming checked->aeJ,f3->iM,prog->aF
open Go.Proofs.YtohijocnlnmlpaaGreatDoor.Rows renaming fnConsoleRow->bp,fnConsoleSpec->dA
open Option renaming none->ai,some->ae
namespace Go.Proofs.YtohijocnlnmlpaaGreatDoor.fnConsole
open Go.Ab Go.Ab.P
open Go.ChangeShapes Go.WideShapes Go.ChangeAt Go.RowKit
def ma{a b:Bool}(h:a=ar)(h2:b=ar):(a&&b)=ar:=by rw[h,h2];rfl
def jf0:(bp.wf (PT dA))=ar:=by kernel_rfl
def jf1:(laidOutB aF)=ar:=by kernel_rfl
def jf2:(mapsRowed aF)=ar:=by kernel_rfl
def jf3:(iM.params.all (aF.readableRec ·))=ar:=by kernel_rfl
def jf4:(namedTie aF bp.named dA.vars)=ar:=by kernel_rfl
def jf5:((bp.stops==[]))=ar:=by kernel_rfl
def jf6:((aF.stops==[]))=ar:=by kernel_rfl
def jf7:((bp.knobs==[]))=ar:=by kernel_rfl
def jf8:((aF.stopKnobs==[]))=ar:=by kernel_rfl
def jf9:((bp.inPlace==aF.inPlace 3))=ar:=by kernel_rfl
def ax4:((bp.unfollowed==aF.unfollowed 3))=ar:=by kernel_rfl
def ax5:((bp.recurses==aF.recurses 3))=ar:=by kernel_rfl
def ax6:((bp.named==aF.varsNamed 3))=ar:=by kernel_rfl
def ax7:((bp.maps==(iM.params.toList++dA.plain.varTypes aF).any (aF.mapsRec ·)))=ar:=by kernel_rfl
def ax8:((bp.ifaces==(iM.params.toList++dA.plain.varTypes aF).any (aF.ifacesRec ·)))=ar:=by kernel_rfl
def ax9:((bp.mapsOut==aF.mapsAmong iM.resultTypes.toList))=ar:=by kernel_rfl
def aya:((bp.loops==(iM.params.toList++dA.plain.varTypes aF).any (aF.loopsFrom ·)))=ar:=by kernel_rfl
def ayb:((bp.wideKeys==(iM.params.toList++dA.plain.varTypes aF++iM.resultTypes.toList).any (aF.wideKeysFrom ·)))=ar:=by kernel_rfl
def ayc:(dA.vars.all (aF.varReadable ·))=ar:=by kernel_rfl
def ayd:(iM.resultTypes.all (λt=>aF.readableRec t&&ah (t<aF.types.size)))=ar:=by kernel_rfl
def aye:((bp.ifacesOut==iM.resultTypes.toList.any (aF.ifacesRec ·)))=ar:=by kernel_rfl
def ayf:((bp.loopsOut==iM.resultTypes.toList.any (aF.loopsFrom ·)))=ar:=by kernel_rfl
def ayg:((bp.plainKeys==aF.plainKeys))=ar:=by kernel_rfl
def ayh:(bp.shortTexts.isNone)=ar:=by kernel_rfl
def ayi:(aF.stopsHeard)=ar:=by kernel_rfl
def ayj:(aF.mayEnter)=ar:=by kernel_rfl
def ayk:((bp.lifted==aF.liftsFinal))=ar:=by kernel_rfl
def ayl:((aF.make==ae bp.make))=ar:=by kernel_rfl
def aym:((bp.kinds==(if bp.domain.isEmpty then []else iM.params.toList.map λt=>match aF.underlying t with|some (.int k)=>ae k|_=>ai)))=ar:=by kernel_rfl
def ayn:((bp.pinned==bp.pinnedBy))=ar:=by kernel_rfl
def ayo:((bp.veiled==(iM.params.toList++dA.plain.varTypes aF++iM.resultTypes.toList).any (aF.veiledRec ·)))=ar:=by kernel_rfl
def ayp:(bp.veiledFits aF iM.params.toList (iM.params.toList++dA.plain.varTypes aF++iM.resultTypes.toList))=ar:=by kernel_rfl
def jf:joinedFacts aF 3 iM dA bp=ar:=(ma (ma (ma (ma (ma (ma (ma (ma (ma (ma (ma (ma (ma (ma (ma (ma (ma (ma (ma (ma (ma (ma (ma (ma (ma (ma (ma (ma (ma (ma (ma jf0 jf1) jf2) jf3) jf4) jf5) jf6) jf7) jf8) jf9) ax4) ax5) ax6) ax7) ax8) ax9) aya) ayb) ayc) ayd) aye) ayf) ayg) ayh) ayi) ayj) ayk) ayl) aym) ayn) ayo) ayp)
def hfn:aeJ.prog.funcNamed bp.func=ae 3:=by kernel_rfl
def over:bp.holds Tryz.pinned (PT dA):=
 OpenClaim.holds_of_wide 3 iM rfl rfl rfl rfl rfl rfl rfl ⟨rfl,rfl,rfl,rfl,rfl⟩ rfl rfl rfl rfl rfl hfn Tryz.func3 jf
  (cd (by kernel_rfl)) (by unfold Func.isWrapper;first|(rw[aJ (by decide+kernel)];kernel_rfl)|(rw[aO (by decide+kernel)];exact⟨rfl,rfl⟩))
  (λos started H enc _=>lifted os started H enc)
end Go.Proofs.YtohijocnlnmlpaaGreatDoor.fnConsole
