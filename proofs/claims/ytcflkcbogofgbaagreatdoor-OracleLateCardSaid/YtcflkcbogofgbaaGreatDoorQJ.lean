import Derived.Test.YtcflkcbogofgbaaGreatDoorQG
import Derived.Test.YtcflkcbogofgbaaGreatDoorQD
import Derived.Test.YtcflkcbogofgbaaGreatDoorQC
namespace Go.Proofs.YtcflkcbogofgbaaGreatDoor
open Go.RowKit Go.Proofs
def GA(w:World)(v:Value)(r:gA):Prop:=
 ∃ A1 c1 A2 c2 A3 c3,v=.agg #[.int .i64 r.st,.slice A1 r.fs.length c1,.slice A2 r.body.length c2,.slice A3 r.parts.length c3]∧dM w A1 r.fs∧ar w A2 (bC r.body)∧ar w A3 (mE r.parts)
theorem GA.no{w w':World}{v:Value}{r:gA}(h:GA w v r)(hs:Sm No w w'):GA w' v r:=by
 obtain⟨A1,c1,A2,c2,A3,c3,h0,h1,h2,h3⟩:=h;exact⟨A1,c1,A2,c2,A3,c3,h0,h1.no hs,h2.no hs,h3.no hs⟩
theorem Fr{T:List bE}(h:dJ T=0):cM T=true∧fx T=true:=by
 unfold dJ at h;split at h
 ·split at h
  ·exact⟨by assumption,by assumption⟩
  ·cases h
 ·cases h
theorem DQ{T:List bE}(h:dJ T=0):T.length≤40:=by
 have:=(Fr h).1;unfold cM at this;simp only [Bool.and_eq_true,decide_eq_true_eq] at this;exact this.1
def qB:Rq:=⟨⟨#[79,80,84,73,79,78,83]⟩,1,⟨#[]⟩,⟨#[47,115,116,97,116,117,115]⟩,⟨#[]⟩,0,[],[],false,false⟩
end Go.Proofs.YtcflkcbogofgbaaGreatDoor
