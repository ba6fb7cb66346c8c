import Derived.Test.YtadcjgopaadfjaaGreatDoorQPA
import Derived.Test.YtadcjgopaadfjaaGreatDoorQV
set_option maxHeartbeats 16000000
set_option maxRecDepth 100000
namespace Go.Proofs.YtadcjgopaadfjaaGreatDoor
open Go.RowKit Go.Proofs
theorem aG.cut0{w:World}{B n c:Nat}{A:Option Addr}{l:ah}(h:aG w B (.slice A n c) l):aG w B (.slice A 0 c) []:=by
 refine⟨rfl,?_⟩;rcases h.2 with ⟨h1,h2⟩|⟨g,cap,cur,hv,hg,hh,hcap,hm,hcs,hcell⟩
 ·injection h1 with h1 h3 h4;subst h1 h4;exact Or.inl ⟨rfl,rfl⟩
 ·injection hv with hv h3 h4;subst hv h4;exact Or.inr ⟨g,c,cur,rfl,hg,hh,Nat.zero_le _,hm,hcs,by simp⟩
def dG.left:dG→Int→Prop
 | .data n,left=>left=n
 | .tail k,left=>left=((2-k:Nat):Int)
 |_,_=>True
def dG.lineP:dG→ah
 | .size l=>l
 | .trail l _ _=>l
 |_=>[]
structure dP (w:World) (O:Nat→Prop) (g:Nat) (vB vT vL:Value) (wh:Bool) (sta left:Int) (b:ah) (st:Int) (L:ah) (ends:Int) (ts:List aM):Prop where
 bk:Bk w g 244 #[.int .i64 st,vL,.int .i64 left,vB,vT,.int .i64 ends,.bool wh,.int .i64 sta]
 body:aG w 0 vB b
 line:aG w 0 vL L
 trail:w.ownsRow 0 143 2 vT ts.length (av ts)
 apart:∀ x,vB.ownBlock=some x→vL.ownBlock≠some x
 og:O g
 ob:∀ x,vB.ownBlock=some x→O x
 ol:∀ x,vL.ownBlock=some x→O x
 ot:∀ x,vT.ownBlock=some x→O x
 lt:∀ x,O x→x < w.heap.size
section
variable {w w' w5:World} {O S:Nat→Prop} {g:Nat} {vB vT vL vB' vL' v':Value} {wh wh':Bool} {sta left sta' left' st st' ends ends':Int} {b L L':ah} {ts:List aM} {c:UInt8}
theorem dP.sm(h:dP w O g vB vT vL wh sta left b st L ends ts)(hs:Sm S w w')(hS:∀ x,O x→¬S x):dP w' O g vB vT vL wh sta left b st L ends ts:=
 ⟨h.bk.sm hs (hS g h.og),ae h.body hs (fun x e=>hS x (h.ob x e)),ae h.line hs (fun x e=>hS x (h.ol x e)),ae h.trail hs (fun x e=>hS x (h.ot x e)),h.apart,h.og,h.ob,h.ol,h.ot,fun x hx=>Nat.lt_of_lt_of_le (h.lt x hx) hs.size⟩
theorem dP.no(h:dP w O g vB vT vL wh sta left b st L ends ts)(hs:Sm No w w'):dP w' O g vB vT vL wh sta left b st L ends ts:=h.sm hs (fun _ _ e=>e)
theorem dP.neB(h:dP w O g vB vT vL wh sta left b st L ends ts):vB.ownBlock≠some g:=am h.body h.bk (by decide)
theorem dP.neL(h:dP w O g vB vT vL wh sta left b st L ends ts):vL.ownBlock≠some g:=am h.line h.bk (by decide)
theorem dP.neT(h:dP w O g vB vT vL wh sta left b st L ends ts):vT.ownBlock≠some g:=am h.trail h.bk (by decide)
theorem dP.upd (h:dP w O g vB vT vL wh sta left b st L ends ts) (hs:Sm (fun x=>x=g) w w') (hb:Bk w' g 244 #[.int .i64 st',vL',.int .i64 left',vB,vT,.int .i64 ends',.bool wh',.int .i64 sta'])
 (hL:aG w 0 vL' L'∧∀ x,vL'.ownBlock=some x→vL.ownBlock=some x):dP w' (be O w w') g vB vT vL' wh' sta' left' b st' L' ends' ts∧Sm O w w':=by
 have n1:=h.neB;have n2:=h.neL;have n3:=h.neT;have lt:=be.lt h.lt hs.size;refine⟨?_,hs.mono (fun x _ e=>e ▸ h.og)⟩;have k1:∀ v:Value,v.ownBlock≠some g→∀ x,v.ownBlock=some x→¬(x=g):=fun v hv x e e2=>hv (e2 ▸ e);exact⟨hb,ae h.body hs (k1 _ n1),ae hL.1 hs (fun x e e2=>n2 (e2 ▸ hL.2 x e)),ae h.trail hs (k1 _ n3),fun x e e2=>h.apart x e (hL.2 x e2),Or.inl h.og,fun x e=>Or.inl (h.ob x e),fun x e=>Or.inl (h.ol x (hL.2 x e)),fun x e=>Or.inl (h.ot x e),lt⟩
theorem dP.putB (h:dP w O g vB vT vL wh sta left b st L ends ts) (hO:aG w5 0 v' (b++[c])) (hs5:Sm (fun x=>vB.ownBlock=some x) w w5) (hv:∀ x,v'.ownBlock=some x→vB.ownBlock=some x∨w.heap.size≤x)
 (hs:Sm (fun x=>x=g) w5 w') (hb:Bk w' g 244 #[.int .i64 st',vL,.int .i64 left',v',vT,.int .i64 ends',.bool wh',.int .i64 sta'])
 :dP w' (be O w w') g v' vT vL wh' sta' left' (b++[c]) st' L ends' ts∧Sm O w w':=by
 have n1:=h.neB;have n2:=h.neL;have n3:=h.neT;have hgl:=h.bk.lt;have hbg5:=h.bk.sm hs5 n1;have n4:v'.ownBlock≠some g:=am hO hbg5 (by decide);have lt:=be.lt h.lt (Nat.le_trans hs5.size hs.size);have k1:∀ v:Value,v.ownBlock≠some g→∀ x,v.ownBlock=some x→¬(x=g):=fun v hv x e e2=>hv (e2 ▸ e);have kT:∀ x,vT.ownBlock=some x→¬(vB.ownBlock=some x):=fun x e e2=>by
  obtain⟨c1,h1⟩:=az h.trail e;obtain⟨c2,h2⟩:=az h.body e2;rw [h1] at h2;injection h2 with h2;injection h2 with _ h2;exact absurd h2 (by decide)
 have hw:Sm O w w':=(hs5.mono (fun x _ e=>h.ob x e)).trans hs (fun x _ e=>e ▸ h.og);have own:∀ x,v'.ownBlock=some x→x < w'.heap.size:=fun x e=>Nat.lt_of_lt_of_le (World.ownsRow.lt hO x e).2 hs.size;have ob':∀ x,v'.ownBlock=some x→be O w w' x:=fun x e=>(hv x e).elim (fun e2=>Or.inl (h.ob x e2)) (fun e2=>Or.inr ⟨e2,own x e⟩);refine⟨?_,hw⟩;refine⟨hb,ae hO hs (k1 _ n4),ae (ae h.line hs5 (fun x e e2=>h.apart x e2 e)) hs (k1 _ n2),ae (ae h.trail hs5 kT) hs (k1 _ n3),fun x e e2=> ?_,Or.inl h.og,ob',fun x e=>Or.inl (h.ol x e),fun x e=>Or.inl (h.ot x e),lt⟩;rcases hv x e with e3|e3
 ·exact h.apart x e3 e2
 ·have:=(World.ownsRow.lt h.line x e2).2;omega
theorem dP.putL (h:dP w O g vB vT vL wh sta left b st L ends ts) (hO:aG w5 0 v' (L++[c])) (hs5:Sm (fun x=>vL.ownBlock=some x) w w5) (hv:∀ x,v'.ownBlock=some x→vL.ownBlock=some x∨w.heap.size≤x)
 (hs:Sm (fun x=>x=g) w5 w') (hb:Bk w' g 244 #[.int .i64 st',v',.int .i64 left',vB,vT,.int .i64 ends',.bool wh',.int .i64 sta'])
 :dP w' (be O w w') g vB vT v' wh' sta' left' b st' (L++[c]) ends' ts∧Sm O w w':=by
 have n1:=h.neB;have n2:=h.neL;have n3:=h.neT;have hbg5:=h.bk.sm hs5 n2;have n4:v'.ownBlock≠some g:=am hO hbg5 (by decide);have lt:=be.lt h.lt (Nat.le_trans hs5.size hs.size);have k1:∀ v:Value,v.ownBlock≠some g→∀ x,v.ownBlock=some x→¬(x=g):=fun v hv x e e2=>hv (e2 ▸ e);have kT:∀ x,vT.ownBlock=some x→¬(vL.ownBlock=some x):=fun x e e2=>by
  obtain⟨c1,h1⟩:=az h.trail e;obtain⟨c2,h2⟩:=az h.line e2;rw [h1] at h2;injection h2 with h2;injection h2 with _ h2;exact absurd h2 (by decide)
 have hw:Sm O w w':=(hs5.mono (fun x _ e=>h.ol x e)).trans hs (fun x _ e=>e ▸ h.og);have own:∀ x,v'.ownBlock=some x→x < w'.heap.size:=fun x e=>Nat.lt_of_lt_of_le (World.ownsRow.lt hO x e).2 hs.size;have ol':∀ x,v'.ownBlock=some x→be O w w' x:=fun x e=>(hv x e).elim (fun e2=>Or.inl (h.ol x e2)) (fun e2=>Or.inr ⟨e2,own x e⟩);refine⟨?_,hw⟩;refine⟨hb,ae (ae h.body hs5 (fun x e e2=>h.apart x e e2)) hs (k1 _ n1),ae hO hs (k1 _ n4),ae (ae h.trail hs5 kT) hs (k1 _ n3),fun x e e2=> ?_,Or.inl h.og,fun x e=>Or.inl (h.ob x e),ol',fun x e=>Or.inl (h.ot x e),lt⟩;rcases hv x e2 with e3|e3
 ·exact h.apart x e e3
 ·have:=(World.ownsRow.lt h.body x e).2;omega
theorem dP.putT {x:aM} (h:dP w O g vB vT vL wh sta left b st L ends ts) (hO:w5.ownsRow 0 143 2 v' (ts++[x]).length (av (ts++[x]))) (hs5:Sm (fun x=>vT.ownBlock=some x) w w5) (hv:∀ x,v'.ownBlock=some x→vT.ownBlock=some x∨w.heap.size≤x)
 (hs:Sm (fun x=>x=g) w5 w') (hb:Bk w' g 244 #[.int .i64 st',vL,.int .i64 left',vB,v',.int .i64 ends',.bool wh',.int .i64 sta']):
 dP w' (be O w w') g vB v' vL wh' sta' left' b st' L ends' (ts++[x])∧Sm O w w':=by
 have n1:=h.neB;have n2:=h.neL;have n3:=h.neT;have hbg5:=h.bk.sm hs5 n3;have n4:v'.ownBlock≠some g:=am hO hbg5 (by decide);have lt:=be.lt h.lt (Nat.le_trans hs5.size hs.size);have k1:∀ v:Value,v.ownBlock≠some g→∀ x,v.ownBlock=some x→¬(x=g):=fun v hv x e e2=>hv (e2 ▸ e);have kT:∀ (v:Value) (l:ah),aG w 0 v l→∀ x,v.ownBlock=some x→¬(vT.ownBlock=some x):=fun v l hl x e2 e=>by
  obtain⟨c1,h1⟩:=az h.trail e;obtain⟨c2,h2⟩:=az hl e2;rw [h1] at h2;injection h2 with h2;injection h2 with _ h2;exact absurd h2 (by decide)
 have hw:Sm O w w':=(hs5.mono (fun x _ e=>h.ot x e)).trans hs (fun x _ e=>e ▸ h.og);have own:∀ x,v'.ownBlock=some x→x < w'.heap.size:=fun x e=>Nat.lt_of_lt_of_le (World.ownsRow.lt hO x e).2 hs.size;refine⟨⟨hb,ae (ae h.body hs5 (kT _ _ h.body)) hs (k1 _ n1),ae (ae h.line hs5 (kT _ _ h.line)) hs (k1 _ n2),ae hO hs (k1 _ n4),h.apart,Or.inl h.og,fun x e=>Or.inl (h.ob x e),fun x e=>Or.inl (h.ol x e),fun x e=> ?_,lt⟩,hw⟩;exact(hv x e).elim (fun e2=>Or.inl (h.ot x e2)) (fun e2=>Or.inr ⟨e2,own x e⟩)
end
theorem dP.mono {w w3 w':World} {O:Nat→Prop} {g:Nat} {vB vT vL vB' vT' vL':Value} {wh wh':Bool} {sta left sta' left' st st' ends ends':Int} {b b' L L':ah} {ts ts':List aM}
 (h:dP w' (be O w3 w') g vB' vT' vL' wh' sta' left' b' st' L' ends' ts') (hs:Sm No w w3) (_:dP w O g vB vT vL wh sta left b st L ends ts):dP w' (be O w w') g vB' vT' vL' wh' sta' left' b' st' L' ends' ts':=by
 have k:∀ x,be O w3 w' x→be O w w' x:=fun x e=>e.elim Or.inl (fun e=>Or.inr ⟨Nat.le_trans hs.size e.1,e.2⟩);have lt:∀ x,be O w w' x→x < w'.heap.size:=by
  rintro x (e|⟨_,e⟩)
  ·exact h.lt x (Or.inl e)
  ·exact e
 exact⟨h.bk,h.body,h.line,h.trail,h.apart,k _ h.og,fun x e=>k x (h.ob x e),fun x e=>k x (h.ol x e),fun x e=>k x (h.ot x e),lt⟩
theorem dP.imp {w:World} {O O2:Nat→Prop} {g:Nat} {vB vT vL:Value} {wh:Bool} {sta left st ends:Int} {b L:ah} {ts:List aM}
 (h:dP w O g vB vT vL wh sta left b st L ends ts) (k:∀ x,O x→O2 x) (lt:∀ x,O2 x→x < w.heap.size):dP w O2 g vB vT vL wh sta left b st L ends ts:=
 ⟨h.bk,h.body,h.line,h.trail,h.apart,k _ h.og,fun x e=>k x (h.ob x e),fun x e=>k x (h.ol x e),fun x e=>k x (h.ot x e),lt⟩
theorem dP.up{w w4 w':World}{O:Nat→Prop}{g:Nat}{vB vT vL:Value}{wh:Bool}{sta left st ends:Int}{b L:ah}{ts:List aM}(h:dP w' (be (be O w w4) w4 w') g vB vT vL wh sta left b st L ends ts)(hO:∀ x,O x→x < w.heap.size)(h1:w.heap.size≤w4.heap.size)(h2:w4.heap.size≤w'.heap.size):
 dP w' (be O w w') g vB vT vL wh sta left b st L ends ts:=h.imp (be.up h1 h2) (be.lt hO (Nat.le_trans h1 h2))
def pu(w:World)(O:Nat→Prop)(g:Nat):eW→Prop
 | .at b p=>∃ vB vT vL left,dP w O g vB vT vL false 0 left b p.st p.lineP p.ends p.ts∧p.left left
 | .whole b=>∃ vB vT vL left st L ends ts,dP w O g vB vT vL true 0 left b st L ends ts
 | .bad s=>∃ vB vT vL left b st L ends ts,dP w O g vB vT vL false s left b st L ends ts
def aX(w:World)(O:Nat→Prop)(g:Nat)(q:eW)(e:Ending)(w':World):Prop:=
 e=.returned (.tuple #[])∧pu w' (be O w w') g q∧Sm O w w'
theorem aX.bad{w w2:World}{O:Nat→Prop}{g:Nat}{vB vT vL:Value}{left st ends:Int}{b L:ah}{ts:List aM}(h:dP w O g vB vT vL false 0 left b st L ends ts)(hs:Sm No w w2)(c:Int):
 aX w O g (.bad c) (.returned (.tuple #[])) (w2.setCell ⟨g,7,none⟩ (.int .i64 c)):=by
 have h2:=(h.no hs).upd ((Sm.refl _ w2).set1 7 (.int .i64 c)) (((h.no hs).bk.set 7 _).eq rfl) ⟨(h.no hs).line,fun _ e=>e⟩;exact⟨rfl,⟨_,_,_,_,_,_,_,_,_,h2.1.mono hs h⟩,(hs.any _).tt h2.2⟩
def fk(st:Int)(n e:Int):Int:=if st=0∧64 < n then 400 else if st=3∧(256 < n∨512 < e+n) then 431 else 0
def oA(w:World)(g:Nat)(c:Int):World:=if c=0 then w else w.setCell ⟨g,7,none⟩ (.int .i64 c)
theorem xk(w:World)(g:Nat)(st left e sta:Int)(vL vB vT:Value)(wh:Bool)(n:Int)(hb:Bk w g 244 #[.int .i64 st,vL,.int .i64 left,vB,vT,.int .i64 e,.bool wh,.int .i64 sta])(hst:st=0∨st=3)(hn:0≤n∧n≤1000)(he:0≤e∧e≤1000):
 Calls Tryz.prog 232 #[.pointer (some ⟨g,0,none⟩),.int .i64 n] w fun en w'=>en=.returned (.tuple #[])∧w'=oA w g (fk st n e):=by
 have hgl:=hb.lt;have hc:=hb.all;have hz:=hb.fz;clear hb;rcases hst with rfl|rfl
 ·by_cases h1:64 < n
  ·have E:=aa (show oA w g (fk 0 n e)=w.setCell ⟨g,7,none⟩ (.int .i64 400) from by unfold fk;rw [if_pos ⟨rfl,h1⟩];rfl);go_in;go_wp2_with fail
   go_end0
   exact⟨rfl,E.out.symm⟩
  ·have E:=aa (show oA w g (fk 0 n e)=w from by unfold fk;rw [if_neg (fun h=>h1 h.2),if_neg (fun h=>absurd h.1 (by decide))];rfl);go_in;go_wp2_with fail
   go_end0
   exact⟨rfl,E.out.symm⟩
 ·have hw:IntKind.i64.wrap (e+n)=e+n:=IntWalk.i64_in _ (by omega);by_cases h1:256 < n
  ·have E:=aa (show oA w g (fk 3 n e)=w.setCell ⟨g,7,none⟩ (.int .i64 431) from by unfold fk;rw [if_neg (fun h=>absurd h.1 (by decide)),if_pos ⟨rfl,Or.inl h1⟩];rfl);go_in;go_wp2_with fail
   go_end0
   exact⟨rfl,E.out.symm⟩
  ·by_cases h2:512 < e+n
   ·have E:=aa (show oA w g (fk 3 n e)=w.setCell ⟨g,7,none⟩ (.int .i64 431) from by unfold fk;rw [if_neg (fun h=>absurd h.1 (by decide)),if_pos ⟨rfl,Or.inr h2⟩];rfl);go_in;go_wp2_with fail
    go_end0
    exact⟨rfl,E.out.symm⟩
   ·have E:=aa (show oA w g (fk 3 n e)=w from by unfold fk;rw [if_neg (fun h=>absurd h.1 (by decide)),if_neg (fun h=>h.2.elim h1 h2)];rfl);go_in;go_wp2_with fail
    go_end0
    exact⟨rfl,E.out.symm⟩
theorem sX{l:ah}(h:l.all bQ=true)(h1:1≤l.length)(h2:l.length≤12):(fK l).2=true:=by
 have e:=jW (b:=16) l 0;have e2:(l.all fun c=>decide (0≤aJ c∧aJ c < 16))=true:=by
  rw [List.all_eq_true] at h ⊢;intro c hc;have:=h c hc;have h3:=(iU c).2;unfold bQ at this;rw [decide_eq_true_eq] at this ⊢;omega
 rw [e2] at e;unfold fK fL;rw [if_neg (by omega)]
 cases hn:dK 16 l 0 with
 |none=>rw [hn] at e;cases e
 |some n=>rfl
theorem Bd(c:UInt8):(fK [c]).2=bQ c:=by
 cases h:bQ c with
 |true=>exact sX (by simp [h]) (by simp) (by simp)
 |false=>
  unfold bQ at h;rw [decide_eq_false_iff_not] at h;unfold fK fL;rw [if_neg (by simp)];have e:dK 16 [c] 0=none:=by
   unfold dK;rw [if_pos (by omega)]
  rw [e]
theorem vH{c:UInt8}{r:ah}(h:bQ c=true):cc (c::r)=none:=by
 have hb:io c=false:=by
  cases hb:io c with
  |false=>rfl
  |true=>
   exfalso
   unfold io at hb;simp only [Bool.or_eq_true,beq_iff_eq] at hb;rcases hb with rfl|rfl
   ·exact absurd h (by decide+kernel)
   ·exact absurd h (by decide+kernel)
 have hne:c≠59:=by
  rintro rfl;exact absurd h (by decide+kernel)
 have hd:aQ (c::r)=c::r:=by
  unfold aQ;rw [List.dropWhile_cons,if_neg (by rw [hb];decide)]
 unfold cc;refine kx (by rw [hd];exact List.cons_ne_nil _ _) ?_;rw [hd];unfold cj;dsimp only;rw [if_neg hne]
theorem rh(s:ah):(cC s).all bQ=true:=by
 unfold cC;exact List.all_takeWhile
theorem Aw(b s:ah)(k:Nat)(hk:k=min (cC s).length 6):dM b s=if k < 1 then .bad 400 else if cc (s.drop k)=none then .bad 400 else
 if 2048 < (b.length:Int)+(fK (s.take k)).1 then .bad 413 else if (fK (s.take k)).1=0 then .at b (.trail [] 0 []) else .at b (.data (fK (s.take k)).1.toNat):=by
 have hp:cC s=s.take (cC s).length:=List.prefix_iff_eq_take.1 (List.takeWhile_prefix bQ);by_cases h1:(cC s).length < 1
 ·rw [oH (Or.inl h1),if_pos (by omega)]
 by_cases h6:6 < (cC s).length
 ·have hk6:k=6:=by omega
  subst hk6;rw [oH (Or.inr h6),if_neg (by decide),if_pos];have hl:6 < s.length:=Nat.lt_of_lt_of_le h6 CP;have he:bQ s[6]=true:=by
   have ha:=rh s;rw [List.all_eq_true] at ha;refine ha _ ?_;have e:(cC s)[6]'h6=s[6]:=by
    have e2:(cC s)[6]?=s[6]?:=by rw [hp,List.getElem?_take,if_pos h6]
    rw [List.getElem?_eq_getElem h6,List.getElem?_eq_getElem hl] at e2;exact Option.some.inj e2
   rw [←e];exact List.getElem_mem h6
  rw [List.drop_eq_getElem_cons hl];exact vH he
 ·have hkk:k=(cC s).length:=by omega
  rw [if_neg (by omega),hkk,←hp];by_cases h2:cc (s.drop (cC s).length)=none
  ·rw [yk (by omega) h2,if_pos h2]
  ·rw [yR (by omega) h2,if_neg h2]
theorem tn{s:ByteArray}{a:Int}{b:Bool}(h:Hid (fK (af s)=(a,b)))(hs:s.size≤1000000)(w:World):Calls Tryz.prog 252 #[.string s] w fun e w'=>e=.returned (.tuple #[.int .i64 a,.bool b])∧Sm No w w':=by
 have:=xv s hs w;rw [show fL 16 12 (af s)=(a,b) from h.out] at this;exact this
theorem Aa(c:UInt8)(w:World):Calls Tryz.prog 251 #[.int .u8 c.toNat] w fun e w'=>e=.returned (.bool (bQ c))∧Sm No w w':=by
 obtain⟨f,hf⟩:=ai (bQ c);obtain⟨n,ok,hno⟩:∃ n ok,fK [c]=(n,ok):=⟨_,_,rfl⟩;have hok:ok=f:=by have:=Bd c;rw [hno] at this;rw [←hf,←this]
 subst hok;have HN:=aa (show fK (af ⟨#[c]⟩)=(n,ok) from hno);rw [hf];clear hf hno;go_in;go_wp2_with (refine aV rfl 34 9 5 _ rfl w.heap.size 1 1 [c] rfl Tryz.underlying34 Tryz.underlying5 Tryz.underlying9 (Bk.new w 5 #[.int .u8 c.toNat]).by1 rfl ?_);refine(tn HN (by show 1≤1000000;decide) _).mono ?_;rintro e w2 ⟨rfl,hs2⟩;have HS:=aa (((Sm.refl No w).alloc _).tt hs2);clear hs2;go_wp2_with fail;go_ret;exact⟨rfl,HS.out⟩
theorem oG{c:UInt8}{f:Bool}(h:Hid (bQ c=f))(w:World):Calls Tryz.prog 251 #[.int .u8 c.toNat] w fun e w'=>e=.returned (.bool f)∧Sm No w w':=by
 rw [←h.out];exact Aa c w
def D6(p:UInt8→Bool)(s:ByteArray)(w:World)(i:Value)(wr:World):Prop:=Sm No w wr∧∃ k:Nat,k≤s.size∧k≤6∧i=.int .i64 k∧∀ c∈s.data.toList.take k,p c=true
theorem xV(w:World)(O:Nat→Prop)(g:Nat)(vB vT vL:Value)(left:Int)(b:ah)(s:ByteArray)(hI:dP w O g vB vT vL false 0 left b 0 [] 0 [])(hb:b.length≤2048)(hs:s.size≤1000):
 Calls Tryz.prog 233 #[.pointer (some ⟨g,0,none⟩),.string s] w (aX w O g (dM b (af s))):=by
 have HI:=aa hI;obtain⟨K,hK⟩:=ai (min (cC (af s)).length 6);obtain⟨R,hR⟩:=ai (dM b (af s));have HE:=aa ((Aw b (af s) K hK.symm).symm.trans hR);rw [hR];have HKK:=aa hK;have hKz:K≤s.size:=by
  rw [←hK];have h:=(List.takeWhile_prefix bQ (l:=af s)).length_le;rw [ag] at h;unfold cC;omega
 have hK6:K≤6:=by omega
 clear hI hR hK;go_in;go_upto_block 0 with fail
 go_cut [4] (fun i wx=>Sm No w wx∧i=.int .i64 K)
 case first=>
  go_wp2_with fail
  go_loopw [4] (fun i wr=>D6 bQ s w i wr) (fun i _=>s.size-(intOf i).toNat)
  case atStart=>exact⟨Sm.refl _ _,0,Nat.zero_le _,by decide,rfl,by simp⟩
  case round=>
   obtain⟨hsr,k,hk,hk6,rfl,hall⟩:=hrel;have HA:=aa (ab hall hsr);clear hall hsr;have hkl:k≤s.data.toList.length:=by rw [←aw];exact hk
   have hk1:(k:Int)≤(s.size:Int):=by omega
   have hmin:min (s.size:Int) 6=(min s.size 6:Nat):=by omega
   obtain⟨m,hm⟩:=ai (min s.size 6);rw [hm] at hmin;by_cases hgo:∃ h:k < s.size,k < 6∧bQ s[k]=true
   ·obtain⟨hlt,h6,hf⟩:=hgo;have HN:=aa (rZ HA.out.1 hlt hf);have HF:=aa hf;have i1:(k:Int) < (m:Int):=by omega
    have i2:(k:Int) < (s.size:Int):=by omega
    clear hf;go_wp2_with fail;refine(oG HF _).mono ?_;rintro e w1 ⟨rfl,hs1⟩;have HS:=aa (HA.out.2.tt hs1);clear hs1;go_wp2_with fail;exact⟨⟨HS.out,k+1,by omega,by omega,by go_num,HN.out⟩,by simp [intOf];omega⟩
   ·have hpre:(af s).take k <+:cC (af s):=by
     have hA':∀ c∈(af s).take k,bQ c=true:=HA.out.1;have h2:af s=(af s).take k++(af s).drop k:=(List.take_append_drop k _).symm;unfold cC
     conv=>rhs;rw [h2]
     rw [List.takeWhile_append_of_pos hA'];exact List.prefix_append _ _
    have hkp:k≤(cC (af s)).length:=by
     have:=hpre.length_le;rw [List.length_take,ag] at this;omega
    have hKn:K=k:=by
     have:=HKK.out;by_cases h6:k < 6
     ·have hW:=jG (p:=bQ) hkl HA.out.1 (fun h=>by
       have hlt:k < s.size:=by rw [aw];exact h
       cases hc:bQ s.data.toList[k] with
       |false=>rfl
       |true=>exact absurd ⟨hlt,h6,hc⟩ hgo)
      have hn:(cC (af s)).length=k:=by
       have:=congrArg List.length hW;rw [List.length_take] at this;unfold cC af;omega
      omega
     ·omega
    have HKn:=aa hKn;have hways:¬(k:Int) < (m:Int)∨∃ h:k < s.size,(k:Int) < (m:Int)∧bQ s[k]=false:=by
     by_cases hlt:k < m
     ·refine Or.inr ⟨by omega,by omega,?_⟩;have h2:¬bQ s[k]=true:=fun e=>hgo ⟨by omega,by omega,e⟩;simpa using h2
     ·exact Or.inl (by omega)
    clear hpre hkp hKn hgo hkl;rcases hways with he|⟨hlt,i1,hd⟩
    ·go_wp2_with fail;go_meet;exact⟨HA.out.2,by rw [HKn.out]⟩
    ·have HD:=aa hd;have i2:(k:Int) < (s.size:Int):=by omega
     clear hd;go_wp2_with fail;refine(oG HD _).mono ?_;rintro e w1 ⟨rfl,hs1⟩;have HS:=aa (HA.out.2.tt hs1);clear hs1;go_wp2_with fail;go_meet;exact⟨HS.out,by rw [HKn.out]⟩
 case rest=>
  obtain⟨hwc,rfl⟩:=hcut;have i3:(K:Int)≤(s.size:Int):=by omega
  obtain⟨pB,hpB⟩:=ai (s.extract 0 K);have hpt:af pB=(af s).take K:=by
   rw [←hpB,bz,List.drop_zero]
  have hpz:pB.size=K:=by rw [←hpB,ByteArray.size_extract];omega
  obtain⟨qB,hqB⟩:=ai (s.extract K s.size);have hqt:af qB=(af s).drop K:=by rw [←hqB,gx]
  have hqz:qB.size≤1000:=by rw [←hqB,ByteArray.size_extract];omega
  have HPQ:=aa (ab hpB hqB);obtain⟨n,ok,hno⟩:∃ n ok,fK (af pB)=(n,ok):=⟨_,_,rfl⟩;have hnb:=wS (af pB) (by rw [ag];omega);have hok:ok=decide (1≤K):=by
   by_cases h1:1≤K
   ·rw [decide_eq_true h1];have hall:(af pB).all bQ=true:=by
     have ha:=rh (af s);have hp:cC (af s)=(af s).take (cC (af s)).length:=List.prefix_iff_eq_take.1 (List.takeWhile_prefix bQ);rw [hpt];rw [List.all_eq_true] at ha ⊢;intro c hc;refine ha c ?_;rw [hp];have:=HKK.out;exact(List.take_prefix_take_left (l:=af s) (by omega:K≤(cC (af s)).length)).subset hc
    have:=sX hall (by rw [ag,hpz];exact h1) (by rw [ag,hpz];omega);rw [hno] at this;exact this
   ·rw [decide_eq_false h1];have h0:af pB=[]:=List.eq_nil_of_length_eq_zero (by rw [ag,hpz];omega);rw [h0] at hno;have:fK []=(0,false):=by decide
    rw [this] at hno;injection hno with _ h2;exact h2.symm
  rw [hno] at hnb;have HN:=aa hno;have HE2:=aa (show (if K < 1 then eW.bad 400 else if cc (af qB)=none then .bad 400 else if 2048 < (b.length:Int)+n then .bad 413 else if n=0 then .at b (.trail [] 0 []) else .at b (.data n.toNat))=R from by
   have e:=HE.out;rw [←hpt,←hqt,hno] at e;exact e)
  have HWc:=aa hwc;have HOK:=aa hok;dsimp only at hnb;clear hpB hpt hqB hqt hno hwc hok;go_wp2_with fail;rw [HPQ.out.1];refine(tn HN (by omega) _).mono ?_;rintro e w2 ⟨rfl,hs2⟩;have HS2:=aa (HWc.out.tt hs2);have HPa:=uV qB (by omega) w2;unfold mL at HPa;rw [show qB.data.toList=af qB from rfl] at HPa;have HPa:=aa HPa;clear hs2;go_wp2_with fail;rw [HPQ.out.2];refine HPa.out.mono ?_;intro e w3 hp3;obtain⟨pv,good,rfl,hgood,hs3⟩:∃ pv good,e=.returned (.tuple #[pv,.bool good])∧(good=true↔cc (af qB)≠none)∧Sm No w w3:=by
   rcases hp3 with ⟨r,v,hr,he,_,_,hs3⟩|⟨hr,he,hs3⟩
   ·exact⟨_,_,he,⟨fun _=>(by rw [hr];exact fun h=>by cases h),fun _=>rfl⟩,HS2.out.tt hs3⟩
   ·exact⟨_,_,he,⟨fun h=>(by cases h),fun h=>absurd hr h⟩,HS2.out.tt hs3⟩
  have HS3:=aa hs3;have hI3:=HI.out.no hs3;have hcg:=hI3.bk.all;have hzg:=hI3.bk.fz;have hgl3:=hI3.bk.lt;obtain⟨A,cp,hAc, -⟩:=hI3.body.slice;subst hAc;have HI3:=aa hI3;have HBad:=aa (fun (c:Int) (hc:R=.bad c)=>show aX w O g R (.returned (.tuple #[])) (w3.setCell ⟨g,7,none⟩ (.int .i64 c)) from by rw [hc];exact aX.bad HI.out HS3.out c);have HGd:=aa hgood;clear hp3 hs3 hI3 hgood;by_cases h1:K < 1
  ·have hok2:ok=false:=by rw [HOK.out];exact decide_eq_false (by omega)
   subst hok2;have HF:=aa (HBad.out 400 (by rw [←HE2.out,if_pos h1]));clear h1;go_wp2_with fail
   go_end0
   exact HF.out
  ·have hok2:ok=true:=by rw [HOK.out];exact decide_eq_true (by omega)
   subst hok2;have HE3:=aa (HE2.out.symm.trans (if_neg h1))
   cases good with
   |false=>
    have HF:=aa (HBad.out 400 (by rw [HE3.out,if_pos (by
     cases hc:cc (af qB) with
     |none=>rfl
     |some x=>exact absurd (HGd.out.2 (by rw [hc];exact fun h=>by cases h)) (by decide))]))
    clear h1;go_wp2_with fail
    go_end0
    exact HF.out
   |true=>
    have HE4:=aa (HE3.out.trans (if_neg (HGd.out.1 rfl)));have i9:IntKind.i64.wrap (2048-(b.length:Int))=2048-(b.length:Int):=IntWalk.i64_in _ (by omega);clear h1;by_cases hbig:2048 < (b.length:Int)+n
    ·have j1:2048-(b.length:Int) < n:=by omega
     have HF:=aa (HBad.out 413 (by rw [HE4.out,if_pos hbig]));clear hbig;go_wp2_with fail
     go_end0
     exact HF.out
    ·have j1:¬2048-(b.length:Int) < n:=by omega
     have HE5:=aa (HE4.out.trans (if_neg hbig));by_cases hn0:n=0
     ·have HF:=aa (HE5.out.trans (if_pos hn0));subst hn0;clear hbig;go_wp2_with fail
      go_end0
      have h:=HI3.out.upd (st':=3) ((Sm.refl _ w3).set1 0 (.int .i64 3)) ((HI3.out.bk.set 0 _).eq rfl) ⟨HI3.out.line,fun _ e=>e⟩;refine⟨rfl,?_,(HS3.out.any _).tt h.2⟩;rw [HF.out];exact⟨_,_,_,_,h.1.mono HS3.out HI.out,trivial⟩
     ·have e0:(n==0)=false:=by simp [hn0]
      have HF:=aa (HE5.out.trans (if_neg hn0));have HN0:=aa hn0;clear hn0 hbig;go_wp2_with fail
      go_end0
      have h:=HI3.out.upd (st':=1) (left':=n) (((Sm.refl _ w3).set1 0 (.int .i64 1)).set1 2 (.int .i64 n)) (((HI3.out.bk.set 0 _).set 2 _).eq rfl) ⟨HI3.out.line,fun _ e=>e⟩;refine⟨rfl,?_,(HS3.out.any _).tt h.2⟩;rw [HF.out];exact⟨_,_,_,_,h.1.mono HS3.out HI.out,by show n=((n.toNat:Nat):Int);omega⟩
theorem qI(w:World)(O:Nat→Prop)(g:Nat)(vB vT vL:Value)(left:Int)(b:ah)(e0:Nat)(ts:List aM)(s:ByteArray)(hI:dP w O g vB vT vL false 0 left b 3 [] e0 ts)(hts:ts.length≤8)(he:e0≤512)(hs:s.size≤1000)(h0:¬s.size=0):
 Calls Tryz.prog 234 #[.pointer (some ⟨g,0,none⟩),.string s] w (aX w O g (cM b (af s) e0 ts)):=by
 have HI:=aa hI;have hgl:=hI.bk.lt;have hcg:=hI.bk.all;have hzg:=hI.bk.fz;obtain⟨R,hR⟩:=ai (cM b (af s) e0 ts);rw [hR];have HR:=aa hR;clear hI hR;have ht0:af s≠[]:=fun e=>h0 (by rw [←ag,e];rfl);obtain⟨⟨pe,pn,pv⟩,hP⟩:∃ P,bf (af s)=P:=⟨_,rfl⟩;obtain⟨nB,hnB⟩:=ai ((⟨pn.toArray⟩:ByteArray));obtain⟨xB,hxB⟩:=ai ((⟨pv.toArray⟩:ByteArray));have HP:=pi s (by omega);have hP':bf s.data.toList=(pe,pn,pv):=hP;rw [hP',show mS (pe,pn,pv)=.tuple #[.agg #[.string nB,.string xB],.int .i64 pe] from by rw [←hnB,←hxB];rfl] at HP;have HP:=aa HP;have HPn:=aa (show (bf (af s)).1=pe∧(((⟨(bf (af s)).2.1.toArray⟩,⟨(bf (af s)).2.2.toArray⟩):aM)=(nB,xB)) from by rw [hP,←hnB,←hxB];exact⟨rfl,rfl⟩);have HT0:=aa ht0;clear hP hP' hnB hxB h0 ht0;obtain⟨At,ct,hAt,_⟩:=au HI.out.trail;subst hAt;have i8:IntKind.i64.wrap ((s.size:Int)+2)=(s.size:Int)+2:=IntWalk.i64_in _ (by omega);have i9:IntKind.i64.wrap ((e0:Int)+((s.size:Int)+2))=(e0:Int)+((s.size:Int)+2):=IntWalk.i64_in _ (by omega);go_in;go_wp2_with fail;refine(HP.out _).mono ?_;rintro e w2 ⟨rfl,hs2⟩;obtain⟨b4,hb4⟩:=ai w2.heap.size;obtain⟨w3,hw3⟩:∃ w3,w2.alloc (.cells #[.string nB,.string xB] 143)=w3:=⟨_,rfl⟩;have hs3:Sm No w w3:=by rw [←hw3];exact hs2.alloc _
 have hb3:Bk w3 b4 143 #[.string nB,.string xB]:=by rw [←hw3,←hb4];exact Bk.new w2 _ _
 have hne:b4≠g:=by have:=hs2.size;omega
 have hI3:=HI.out.no hs3;obtain⟨w4,hw4⟩:=ai (w3.setCell ⟨g,5,none⟩ (.int .i64 ((e0:Int)+((s.size:Int)+2))));have h4:=hI3.upd (ends':=(e0:Int)+((s.size:Int)+2)) ((Sm.refl _ w3).set1 5 (.int .i64 ((e0:Int)+((s.size:Int)+2)))) ((hI3.bk.set 5 _).eq rfl) ⟨hI3.line,fun _ e=>e⟩;rw [hw4] at h4;have h4:=ab (h4.1.mono hs3 HI.out) ((hs3.any O).tt h4.2);have hb4b:Bk w4 b4 143 #[.string nB,.string xB]:=by rw [←hw4];exact hb3.far hne _
 have H4:=aa (ab h4 (ab hb4b (ab hw3 (ab hw4 hb4))));have hcg4:=h4.1.bk.all;have hzg4:=h4.1.bk.fz;have hgl4:=h4.1.bk.lt;have f0:=hb4b.at 0 (v:=.string nB) rfl;have f1:=hb4b.at 1 (v:=.string xB) rfl;have hl4:=hb4b.lt;have hcg3:=hI3.bk.all;have hzg3:=hI3.bk.fz;have hgl3:=hI3.bk.lt;have HBad:=aa (fun (c:Int) (hc:R=.bad c)=>show aX w O g R (.returned (.tuple #[])) (w4.setCell ⟨g,7,none⟩ (.int .i64 c)) from by
  have h:=H4.out.1.1.upd (sta':=c) ((Sm.refl _ w4).set1 7 (.int .i64 c)) ((H4.out.1.1.bk.set 7 _).eq rfl) ⟨H4.out.1.1.line,fun _ e=>e⟩;refine⟨rfl,?_,H4.out.1.2.up h.2⟩;rw [hc];exact⟨_,_,_,_,_,_,_,_,_,h.1.up HI.out.lt H4.out.1.2.size (by simp)⟩)
 clear hs2 hw3 hs3 hb3 hI3 hw4 h4 hb4b hcg hzg hb4;go_upto_region 1 with fail;rw [H4.out.2.2.1,H4.out.2.2.2.2];go_upto_region 3 with fail;rw [H4.out.2.2.2.1];clear hcg3 hzg3 hgl3;by_cases hp:pe=0
 ·subst hp;by_cases h8:ts.length=8∨512 < e0+s.size+2
  ·have HE:=aa (HBad.out 431 (by rw [←HR.out,tz HT0.out (by rw [HPn.out.1]) (by rw [ag];exact h8)]));by_cases h10:512 < e0+s.size+2
   ·have e2:(512:Int) < (e0:Int)+((s.size:Int)+2):=by omega
    clear h8 h10;go_wp2_with fail
    go_end0
    exact HE.out
   ·have e2:¬(512:Int) < (e0:Int)+((s.size:Int)+2):=by omega
    have h9:ts.length=8:=h8.resolve_right h10;rw [h9] at hcg4;clear h8 h9 h10;go_wp2_with fail
    go_end0
    exact HE.out
  ·have e1:((ts.length:Int)==8)=false:=by rw [beq_eq_false_iff_ne];omega
   have e2:¬(512:Int) < (e0:Int)+((s.size:Int)+2):=by omega
   have HE:=aa (show R=.at b (.trail [] (e0+s.size+2) (ts++[(nB,xB)])) from by rw [←HR.out,vc HT0.out (by rw [HPn.out.1]) (by rw [ag];exact h8),HPn.out.2,ag]);have htl:ts.length≤1000000:=by omega
   have HOwn:=aa ((H4.out.1.1.trail.alloc (.cells #[.string nB,.string xB] 143)).drew);have HBlk:=aa (Bk.new w4 143 #[.string nB,.string xB]).drew;have HKb:=aa ((H4.out.1.1.bk.alloc (.cells #[.string nB,.string xB] 143)).drew);have HNe:=aa (show ¬(Value.slice At ts.length ct).ownBlock=some g from H4.out.1.1.neT);clear h8;go_wp2_with fail
   go_region_law
    ((refine gk (by rfl) _ _ 91 143 (by rfl) Tryz.underlying91 _ 2 32 jJ rfl (by decide) (by decide) 0 ts.length _ (av ts) (by rfl) HOwn.out w4.heap.size #[.string nB,.string xB] (by rfl) HBlk.out rfl (by simp [Value.oneCell']) htl (Nat.zero_le _) ?_;intro r cap w5 hown5 hs5 hr5;have hb5:=HKb.out.sm hs5 HNe.out;have hc5:=hb5.all;have hz5:=hb5.fz;have hl5:=hb5.lt))
   all_goals
    have HF:=aa (H4.out.1.1.putT (x:=(nB,xB)) (v':=.slice (some ⟨r,0,none⟩) (ts.length+1) cap) (by rw [jn,List.length_append];exact hown5) ((((Sm.refl _ w4).alloc _).drew).tt hs5) (fun x e=>by
     have e2:r=x:=by simpa [Value.ownBlock] using e
     rcases hr5 with e3|e3
     ·exact Or.inl (e3.trans (by rw [e2]))
     ·right;rw [←e2,e3];simp) ((Sm.refl _ w5).set1 4 _) ((hb5.set 4 _).eq rfl))
    go_wp2_with fail
    go_end0
    refine⟨rfl,?_,H4.out.1.2.up HF.out.2⟩;rw [HE.out];refine⟨vB,.slice (some ⟨r,0,none⟩) (ts.length+1) cap,vL,left,?_,trivial⟩;have hsz:=HF.out.2.size;have hh:=HF.out.1.up HI.out.lt H4.out.1.2.size hsz;rw [show ((dG.trail [] (e0+s.size+2) (ts++[(nB,xB)])).ends:Int)=(e0:Int)+((s.size:Int)+2) from by show ((e0+s.size+2:Nat):Int)=_;omega];exact hh
 ·have e0:(pe==0)=false:=by simp [hp]
  have e1:(pe != 0)=true:=by simp [hp]
  have HE:=aa (HBad.out 400 (by rw [←HR.out,uH HT0.out (by rw [HPn.out.1];exact hp)]));clear hp;go_wp2_with fail
  go_end0
  exact HE.out
end Go.Proofs.YtadcjgopaadfjaaGreatDoor
