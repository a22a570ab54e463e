/- The law FnExactRunDesk answers true for every input, whatever it is, and leaves its arguments as they were. Conditions: none. -/
import Derived.Test.YtoifpbonojhjfaaGreatDoorG7
import Derived.Test.YtoifpbonojhjfaaGreatDoorRows
import Derived.Test.YtoifpbonojhjfaaGreatDoorG4
import Derived.Carry
import Derived.Deep.RegionHeld3
import Derived.Deep.RegionLaw
import Derived.Shelf.RegionOpenPlain
import Derived.Shelf.Spec.SlicesInsert
import Derived.StillTailTactics
import Derived.Laws.IdiomStrings
import Derived.LoopTactic
import Derived.Deep.QuietTactic
import Derived.BigQuiet
import Derived.DeepKeys4
import Derived.Maps.Own
import Derived.Maps.OwnSet
import Derived.Maps.RangeWalk
import Derived.Maps.AppendAt
import Derived.Sort.KeysCollected
import Derived.Sort.OwnSorted
import Derived.OwnWalk
import Derived.Shelf.Abstract
import Derived.Laws.EntriesVeiled
import Derived.Sort.EveryDepth
import Derived.Shelf.Slices.In.SortAlone
import Derived.Test.YtoifpbonojhjfaaGreatDoorCards
import Derived.Test.YtoifpbonojhjfaaGreatDoorTie
import Derived.LaidMore
import Derived.Lay
import Derived.SevenTiedAt
import Derived.Stop.Joined
import Derived.WalkKit
import Derived.ProofKit
import Derived.OpenShut
import Derived.JoinedOf
import Derived.Handed
set_option linter.unusedVariables false
set_option maxRecDepth 100000
set_option linter.defProp false
open Bool renaming true->aB
open Decidable renaming decide->ao
open Go.OpenSpec renaming ofChange->Zo
open Go.Proofs.Tryz renaming checked->aqb,f3->j9,prog->aO
open Go.Proofs.YtoifpbonojhjfaaGreatDoor.Rows renaming fnExactRunDeskRow->bD,fnExactRunDeskSpec->dj
open Option renaming none->au,some->ai
open _root_ renaming Bool->aW
namespace Go.Proofs.YtoifpbonojhjfaaGreatDoor.fnExactRunDesk
open Go.Ab Go.Ab.P
open Go.ChangeShapes Go.WideShapes Go.ChangeAt Go.RowKit
def oS{a b:aW}(h:a=aB)(h2:b=aB):(a&&b)=aB:=by rw[h,h2];rfl
def jf0:(bD.wf (Zo dj))=aB:=by kernel_rfl
def jf1:(laidOutB aO)=aB:=by kernel_rfl
def jf2:(mapsRowed aO)=aB:=by kernel_rfl
def jf3:(j9.params.all (aO.readableRec ·))=aB:=by kernel_rfl
def jf4:(namedTie aO bD.named dj.vars)=aB:=by kernel_rfl
def jf5:((bD.stops==[]))=aB:=by kernel_rfl
def jf6:((aO.stops==[]))=aB:=by kernel_rfl
def jf7:((bD.knobs==[]))=aB:=by kernel_rfl
def jf8:((aO.stopKnobs==[]))=aB:=by kernel_rfl
def jf9:((bD.inPlace==aO.inPlace 3))=aB:=by kernel_rfl
def aS1:((bD.unfollowed==aO.unfollowed 3))=aB:=by kernel_rfl
def aS2:((bD.recurses==aO.recurses 3))=aB:=by kernel_rfl
def aS3:((bD.named==aO.varsNamed 3))=aB:=by kernel_rfl
def aS4:((bD.maps==(j9.params.toList++dj.plain.varTypes aO).any (aO.mapsRec ·)))=aB:=by kernel_rfl
def aS5:((bD.ifaces==(j9.params.toList++dj.plain.varTypes aO).any (aO.ifacesRec ·)))=aB:=by kernel_rfl
def aS6:((bD.mapsOut==aO.mapsAmong j9.resultTypes.toList))=aB:=by kernel_rfl
def aS7:((bD.loops==(j9.params.toList++dj.plain.varTypes aO).any (aO.loopsFrom ·)))=aB:=by kernel_rfl
def aS8:((bD.wideKeys==(j9.params.toList++dj.plain.varTypes aO++j9.resultTypes.toList).any (aO.wideKeysFrom ·)))=aB:=by kernel_rfl
def aS9:(dj.vars.all (aO.varReadable ·))=aB:=by kernel_rfl
def aTa:(j9.resultTypes.all (λt=>aO.readableRec t&&ao (t<aO.types.size)))=aB:=by kernel_rfl
def aTb:((bD.ifacesOut==j9.resultTypes.toList.any (aO.ifacesRec ·)))=aB:=by kernel_rfl
def aTc:((bD.loopsOut==j9.resultTypes.toList.any (aO.loopsFrom ·)))=aB:=by kernel_rfl
def aTd:((bD.plainKeys==aO.plainKeys))=aB:=by kernel_rfl
def aTe:(bD.shortTexts.isNone)=aB:=by kernel_rfl
def aTf:(aO.stopsHeard)=aB:=by kernel_rfl
def aTg:(aO.mayEnter)=aB:=by kernel_rfl
def aTh:((bD.lifted==aO.liftsFinal))=aB:=by kernel_rfl
def aTi:((aO.make==ai bD.make))=aB:=by kernel_rfl
def aTj:((bD.kinds==(if bD.domain.isEmpty then []else j9.params.toList.map λt=>match aO.underlying t with|some (.int k)=>ai k|_=>au)))=aB:=by kernel_rfl
def aTk:((bD.pinned==bD.pinnedBy))=aB:=by kernel_rfl
def aTl:((bD.veiled==(j9.params.toList++dj.plain.varTypes aO++j9.resultTypes.toList).any (aO.veiledRec ·)))=aB:=by kernel_rfl
def aTm:(bD.veiledFits aO j9.params.toList (j9.params.toList++dj.plain.varTypes aO++j9.resultTypes.toList))=aB:=by kernel_rfl
def jf:joinedFacts aO 3 j9 dj bD=aB:=(oS (oS (oS (oS (oS (oS (oS (oS (oS (oS (oS (oS (oS (oS (oS (oS (oS (oS (oS (oS (oS (oS (oS (oS (oS (oS (oS (oS (oS (oS (oS jf0 jf1) jf2) jf3) jf4) jf5) jf6) jf7) jf8) jf9) aS1) aS2) aS3) aS4) aS5) aS6) aS7) aS8) aS9) aTa) aTb) aTc) aTd) aTe) aTf) aTg) aTh) aTi) aTj) aTk) aTl) aTm)
def hfn:aqb.prog.funcNamed bD.func=ai 3:=by kernel_rfl
def over:bD.holds Tryz.pinned (Zo dj):=
 OpenClaim.holds_of_wide 3 j9 rfl rfl rfl rfl rfl rfl rfl ⟨rfl,rfl,rfl,rfl,rfl⟩ rfl rfl rfl rfl rfl hfn Tryz.func3 jf
  (dY (by kernel_rfl)) (by unfold Func.isWrapper;first|(rw[aQ (by decide+kernel)];kernel_rfl)|(rw[aP (by decide+kernel)];exact⟨rfl,rfl⟩))
  (λos afy H enc _=>lifted os afy H enc)
end Go.Proofs.YtoifpbonojhjfaaGreatDoor.fnExactRunDesk

