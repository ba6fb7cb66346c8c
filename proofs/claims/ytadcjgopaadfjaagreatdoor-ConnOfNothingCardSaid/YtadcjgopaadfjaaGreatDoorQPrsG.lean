import Derived.Test.YtadcjgopaadfjaaGreatDoorQP
import Derived.Test.YtadcjgopaadfjaaGreatDoorQC
namespace Go.Proofs.YtadcjgopaadfjaaGreatDoor
open Go.RowKit Go.Proofs
theorem Bk.all{w:World}{g:Nat}{t:TypeId}{cs:Array Value}(h:Bk w g t cs)(i:Nat):w.cell? ⟨g,i,none⟩=cs[i]?:=cell_of_row w g i cs t (0,0) h
theorem bq.code{t:Tg}{c d:Int}{w w':World}{e:Ending}(h:bq (some t) c w e w'):bq (some t) d w e w':=h
end Go.Proofs.YtadcjgopaadfjaaGreatDoor
