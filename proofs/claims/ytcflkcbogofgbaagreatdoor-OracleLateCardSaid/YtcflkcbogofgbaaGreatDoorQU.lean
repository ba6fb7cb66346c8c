import Derived.Test.YtcflkcbogofgbaaGreatDoorQT
import Derived.WalkLawsBesides
import Derived.Sort.Walk0
import Derived.Test.YtcflkcbogofgbaaGreatDoorQH
namespace Go.Proofs.YtcflkcbogofgbaaGreatDoor
open Go.RowKit Go.Proofs
variable {tt:TypeId} {tl:List Value}
variable {tt:TypeId} {tl:List Value}
theorem ar.take{w:World}{A:Option Addr}{l:List af}(h:ar w A (l.map aX))(k:Nat):ar w A ((l.take k).map aX):=by
 intro j u hj;refine h j u ?_;rw [List.map_take,List.getElem?_take] at hj;split at hj
 ·exact hj
 ·cases hj
theorem ar.drop{w:World}{bb off:Nat}{l:List af}(h:ar w (some ⟨bb,off,none⟩) (l.map aX))(k:Nat):ar w (some ⟨bb,off+k,none⟩) ((l.drop k).map aX):=by
 intro j u hj;rw [List.map_drop,List.getElem?_drop] at hj;obtain⟨b2,o2,hA,hb,hc⟩:=h (k+j) u hj
 cases hA
 exact⟨_,_,rfl,hb,by rw [Nat.add_assoc];exact hc⟩
variable {tt:TypeId} {tl:List Value}
variable {tt:TypeId} {tl:List Value}
end Go.Proofs.YtcflkcbogofgbaaGreatDoor
