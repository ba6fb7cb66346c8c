import Derived.Laws.BitsLemmas
import Derived.WalkKit
import Derived.Test.YtcflkcbogofgbaaGreatDoorQOU
import Derived.Test.YtcflkcbogofgbaaGreatDoorQOR
import Derived.Test.YtcflkcbogofgbaaGreatDoorQSpcB
import Derived.Test.YtcflkcbogofgbaaGreatDoorQG
namespace Go.Proofs.YtcflkcbogofgbaaGreatDoor
open Go.Proofs
theorem Ga(x:Int)(m:Nat)(hm:m < 4611686018427387904):∃ k:Nat,k≤m∧bits .and .i64 x m=k:=by
 have h1:(BitVec.ofInt 64 x&&& BitVec.ofInt 64 (m:Int)).toNat≤m:=by
  rw [BitVec.toNat_and];refine Nat.le_trans Nat.and_le_right ?_;simp;omega
 refine⟨(BitVec.ofInt 64 x&&& BitVec.ofInt 64 (m:Int)).toNat,h1,?_⟩;show IntKind.i64.wrap _=_;rw [IntKind.wrap_i64];have:(((BitVec.ofInt 64 x&&& BitVec.ofInt 64 (m:Int)).toNat:Nat):Int)≤m:=by exact_mod_cast h1
 show ((((BitVec.ofInt 64 x&&& BitVec.ofInt 64 (m:Int)).toNat:Nat):Int)+9223372036854775808) % 18446744073709551616-9223372036854775808=_;omega
end Go.Proofs.YtcflkcbogofgbaaGreatDoor
namespace Go.Proofs.YtcflkcbogofgbaaGreatDoor
open Go.RowKit Go.Proofs
theorem Di(T:List bE)(q:Bool)(t:af):(iW T q t).length≤t.length+1:=by
 unfold iW tC;have:=oq t;split<;>simp<;>omega
theorem sN{w:World}{A:Option Addr}{l:af}(h:ar w A (l.map aM))(k:Nat):ar w A ((l.take k).map aM):=by
 intro j u hj;rw [List.map_take,List.getElem?_take] at hj;split at hj
 ·exact h j u hj
 ·cases hj
end Go.Proofs.YtcflkcbogofgbaaGreatDoor
