import Derived.Test.YtadcjgopaadfjaaGreatDoorQZ
import Derived.Test.YtadcjgopaadfjaaGreatDoorQT
import Derived.Test.YtadcjgopaadfjaaGreatDoorQN
import Derived.Deep.DrawnRows
namespace Go.Proofs.YtadcjgopaadfjaaGreatDoor
open Go.RowKit Go.Proofs
attribute [local go_sem ↓] Go.wp_at_zero Go.wp_at_succ
theorem Dh{w:World}{B n c:Nat}{A:Option Addr}{l:List aM}(h:w.ownsRow B 143 2 (.slice A n c) l.length (av l)):ec w A l:=by
 rcases aK h with ⟨e,h0,_⟩|⟨b,cap,e,_,_,hb,_,hc,_⟩
 ·exact fun k hk=>absurd hk (by omega)
 ·injection e with e;subst e;exact fun k hk=>by
   obtain⟨h1,h2⟩:=eT l k hk;exact⟨b,0,rfl,hb,by simpa using hc _ _ h1,by simpa using hc _ _ h2⟩
end Go.Proofs.YtadcjgopaadfjaaGreatDoor
