import Derived.Test.YtadcjgopaadfjaaGreatDoorQG
import Derived.Test.YtadcjgopaadfjaaGreatDoorQD
import Derived.Test.YtadcjgopaadfjaaGreatDoorQC
namespace Go.Proofs.YtadcjgopaadfjaaGreatDoor
open Go.RowKit Go.Proofs
def Fj(w:World)(v:Value)(r:fQ):Prop:=
 ∃ A1 c1 A2 c2 A3 c3,v=.agg #[.int .i64 r.st,.slice A1 r.fs.length c1,.slice A2 r.body.length c2,.slice A3 r.parts.length c3]∧ec w A1 r.fs∧ax w A2 (aL r.body)∧ax w A3 (lA r.parts)
theorem Fj.no{w w':World}{v:Value}{r:fQ}(h:Fj w v r)(hs:Sm No w w'):Fj w' v r:=by
 obtain⟨A1,c1,A2,c2,A3,c3,h0,h1,h2,h3⟩:=h;exact⟨A1,c1,A2,c2,A3,c3,h0,h1.no hs,h2.no hs,h3.no hs⟩
theorem EF{T:List br}(h:cD T=0):bO T=true∧dC T=true:=by
 unfold cD at h;split at h
 ·split at h
  ·exact⟨by assumption,by assumption⟩
  ·cases h
 ·cases h
theorem AN{T:List br}(h:cD T=0):T.length≤40:=by
 have:=(EF h).1;unfold bO at this;simp only [Bool.and_eq_true,decide_eq_true_eq] at this;exact this.1
def qB:Rq:=⟨⟨#[79,80,84,73,79,78,83]⟩,1,⟨#[]⟩,⟨#[47,115,116,97,116,117,115]⟩,⟨#[]⟩,0,[],[],false,false⟩
end Go.Proofs.YtadcjgopaadfjaaGreatDoor
