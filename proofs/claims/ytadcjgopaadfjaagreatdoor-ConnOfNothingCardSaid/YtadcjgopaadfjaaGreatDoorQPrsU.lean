import Derived.Test.YtadcjgopaadfjaaGreatDoorQX
namespace Go.Proofs.YtadcjgopaadfjaaGreatDoor
open Go.RowKit Go.Proofs
theorem aG.slice{w:World}{B:Nat}{v:Value}{l:ah}(h:aG w B v l):∃ A c,v=.slice A l.length c∧ax w A (l.map aU)∧l.length≤c∧(A=none→c=0):=au h
theorem iK.bad{w w':World}{O:Nat→Prop}{g:Nat}{vB vT vL:Value}{left st ends:Int}{b L:ah}{ts:List aM}{c:Int}(h:ia w O g vB vT vL false 0 left b st L ends ts)(hs:Sm No w w'):
 iK w O g (.bad c) (.returned (.tuple #[])) (w'.setCell ⟨g,3,none⟩ (.int .i64 c)):=by
 have h2:=(h.no hs).upd ((Sm.refl _ w').set1 3 (.int .i64 c)) (((h.no hs).bk.set 3 _).eq rfl) (Or.inl ⟨rfl,rfl⟩);exact⟨vB,rfl,⟨_,_,_,_,_,_,_,_,h2.1.mono hs h⟩,(hs.any _).tt h2.2⟩
theorem xh.after{w w1 w2:World}{O:Nat→Prop}{g:Nat}{vB:Value}{q:eW}(h:xh w1 (be O w w1) g vB q)(hO:∀ x,O x→x < w.heap.size)(h1:w.heap.size≤w1.heap.size)(hs:Sm No w1 w2):xh w2 (be O w w2) g vB q:=by
 have k:∀ x,be O w w1 x→be O w w2 x:=fun x e=>e.elim Or.inl (fun e=>Or.inr ⟨e.1,Nat.lt_of_lt_of_le e.2 hs.size⟩);have lt:=be.lt hO (Nat.le_trans h1 hs.size)
 cases q with
 |«at» b p=>obtain⟨a,b,c,h,d⟩:=h;exact⟨a,b,c,(h.no hs).imp k lt,d⟩
 |whole b=>obtain⟨a1,a2,a3,a4,a5,a6,a7,h⟩:=h;exact⟨a1,a2,a3,a4,a5,a6,a7,(h.no hs).imp k lt⟩
 |bad s=>obtain⟨a1,a2,a3,a4,a5,a6,a7,a8,h⟩:=h;exact⟨a1,a2,a3,a4,a5,a6,a7,a8,(h.no hs).imp k lt⟩
theorem iK.after{w w1 w2:World}{O:Nat→Prop}{g:Nat}{q:eW}{e:Ending}(h:iK w O g q e w1)(hO:∀ x,O x→x < w.heap.size)(hs:Sm No w1 w2):iK w O g q e w2:=by
 obtain⟨vB,h1,h2,h3⟩:=h;exact⟨vB,h1,h2.after hO h3.size hs,h3.trans hs (fun _ _ e=>e.elim)⟩
theorem xh.up{w w1 w2:World}{O:Nat→Prop}{g:Nat}{vB:Value}{q:eW}(h:xh w2 (be (be O w w1) w1 w2) g vB q)(hO:∀ x,O x→x < w.heap.size)(h1:w.heap.size≤w1.heap.size)(h2:w1.heap.size≤w2.heap.size):xh w2 (be O w w2) g vB q:=by
 cases q with
 |«at» b p=>obtain⟨a,b,c,h,d⟩:=h;exact⟨a,b,c,h.up hO h1 h2,d⟩
 |whole b=>obtain⟨a1,a2,a3,a4,a5,a6,a7,h⟩:=h;exact⟨a1,a2,a3,a4,a5,a6,a7,h.up hO h1 h2⟩
 |bad s=>obtain⟨a1,a2,a3,a4,a5,a6,a7,a8,h⟩:=h;exact⟨a1,a2,a3,a4,a5,a6,a7,a8,h.up hO h1 h2⟩
theorem iK.up{w w1 w2:World}{O:Nat→Prop}{g:Nat}{q:eW}{e:Ending}(h:iK w1 (be O w w1) g q e w2)(hO:∀ x,O x→x < w.heap.size)(hs:Sm O w w1):iK w O g q e w2:=by
 obtain⟨vB,h1,h2,h3⟩:=h;exact⟨vB,h1,h2.up hO hs.size h3.size,hs.up h3⟩
theorem By.pre{w:World}{g:Nat}{l:ah}(h:By w g l)(n:Nat):By w g (l.take n):=⟨h.1,fun j c hj=>h.2 j c (by
 rw [List.getElem?_take] at hj;split at hj
 ·exact hj
 ·cases hj)⟩
theorem ma{w:World}{B g cap:Nat}{l:ah}(h:aG w B (.slice (some ⟨g,0,none⟩) l.length cap) l):l.length≤cap:=by
 obtain⟨A,c,hv,_,hc,_⟩:=au h;injection hv with _ _ hv;omega
end Go.Proofs.YtadcjgopaadfjaaGreatDoor
