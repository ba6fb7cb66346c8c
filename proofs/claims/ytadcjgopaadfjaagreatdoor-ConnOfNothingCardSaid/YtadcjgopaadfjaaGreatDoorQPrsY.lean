import Derived.Test.YtadcjgopaadfjaaGreatDoorQV
namespace Go.Proofs.YtadcjgopaadfjaaGreatDoor
open Go.RowKit Go.Proofs
theorem fS.row{w w':World}{O:Nat→Prop}{gh B:Nat}{vF v:Value}{h:Hd}{l:ah}(k:fS w O gh vF h)(hv:aG w B v l)(hs:Sm (fun x=>v.ownBlock=some x) w w'):fS w' O gh vF h:=
 k.sm hs (fun e=>am hv k.hd.bk (by decide) e) (fun x e e2=>by
  obtain⟨c1,h1⟩:=az hv e2;obtain⟨c2,h2⟩:=az k.hd.2.1 e;rw [h1] at h2;injection h2 with h2;injection h2 with _ h2;exact absurd h2 (by decide))
structure wm (h:Hd) (L:ah):Prop where
 ok:kP h
 line:L.length≤257
 whole:h.whole=false
 status:h.status=0
theorem kh.head {w w1 w5 w6:World} {O:Nat→Prop} {g gh:Nat} {vF vL v':Value} {h:Hd} {L:ah} {c:UInt8} {k l cl x vB ch cm:Value}
 (hK:nZ w1 g 1 0 (cn gh) vL k l cl x vB ch cm) (hH:fS w1 (be O w w1) gh vF h) (hL:aG w1 0 vL L) (hO:∀ y,vL.ownBlock=some y→be O w w1 y) (og:O g) (hs1:Sm O w w1)
 (hO5:aG w5 0 v' (L++[c])) (hs5:Sm (fun b=>vL.ownBlock=some b) w1 w5) (hv5:∀ b,v'.ownBlock=some b→vL.ownBlock=some b∨w1.heap.size≤b) (hw:w5.setCell ⟨g,3,none⟩ v'=w6):
 (nZ w6 g 1 0 (cn gh) v' k l cl x vB ch cm∧fS w6 (be O w w6) gh vF h∧aG w6 0 v' (L++[c])∧(∀ y,v'.ownBlock=some y→be O w w6 y))∧Sm O w w6:=by
 have hnL:vL.ownBlock≠some g:=am hL hK (by decide);have hK5:=Bk.sm hK hs5 hnL;have hs6:Sm (fun y=>y=g) w5 w6:=by rw [←hw];exact(Sm.refl _ w5).set1 3 v'
 have up:∀ y,be O w w1 y→be O w w6 y:=fun y e=>e.elim Or.inl (fun e=>Or.inr ⟨e.1,Nat.lt_of_lt_of_le e.2 (Nat.le_trans hs5.size hs6.size)⟩);have hsw:Sm O w w6:=by
  have e2:Sm (be O w w1) w1 w5:=hs5.mono (fun y _ e=>hO y e);exact((hs1.up e2).trans hs6 (fun y _ e=>e ▸ og))
 refine⟨⟨by rw [←hw];exact(Bk.set hK5 3 v').eq rfl,((hH.row hL hs5).own hK5 rfl hs6).imp up,ae hO5 hs6 (fun x e e2=>am hO5 hK5 (by decide) (by rw [e,e2])),fun y e=> ?_⟩,hsw⟩;exact(hv5 y e).elim (fun e2=>up y (hO y e2)) (fun e2=>Or.inr ⟨Nat.le_trans hs1.size e2,Nat.lt_of_lt_of_le (World.ownsRow.lt hO5 y e).2 hs6.size⟩)
end Go.Proofs.YtadcjgopaadfjaaGreatDoor
