import Derived.Test.YtadcjgopaadfjaaGreatDoorQCG
set_option maxRecDepth 1000000
namespace Go.Proofs.YtadcjgopaadfjaaGreatDoor
open Go.RowKit Go.Proofs
theorem Ki:IT 1=true:=by decide+kernel
theorem Kg:IT 2=true:=by decide+kernel
theorem Kt:IT 3=true:=by decide+kernel
theorem Kk:IT 4=true:=by decide+kernel
theorem Ku:IT 5=true:=by decide+kernel
theorem Ko:IT 6=true:=by decide+kernel
theorem Kr:IT 7=true:=by decide+kernel
theorem Kq:IT 8=true:=by decide+kernel
theorem Kh:IT 9=true:=by decide+kernel
theorem J4:IT 10=true:=by decide+kernel
end Go.Proofs.YtadcjgopaadfjaaGreatDoor
