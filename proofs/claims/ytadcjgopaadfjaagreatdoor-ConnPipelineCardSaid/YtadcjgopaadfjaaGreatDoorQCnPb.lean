import Derived.Test.YtadcjgopaadfjaaGreatDoorQCG
set_option maxRecDepth 1000000
namespace Go.Proofs.YtadcjgopaadfjaaGreatDoor
open Go.RowKit Go.Proofs
theorem J7:IT 11=true:=by decide+kernel
theorem J5:IT 12=true:=by decide+kernel
theorem J9:IT 13=true:=by decide+kernel
theorem Kd:IT 14=true:=by decide+kernel
theorem Ke:IT 15=true:=by decide+kernel
theorem J3:IT 16=true:=by decide+kernel
theorem Kc:IT 17=true:=by decide+kernel
theorem Kb:IT 18=true:=by decide+kernel
theorem Kf:IT 19=true:=by decide+kernel
theorem Ka:IT 20=true:=by decide+kernel
end Go.Proofs.YtadcjgopaadfjaaGreatDoor
