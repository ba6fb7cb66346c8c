import Derived.Test.YtcflkcbogofgbaaGreatDoorQPA
import Derived.Test.YtcflkcbogofgbaaGreatDoorQV
set_option maxHeartbeats 16000000
set_option maxRecDepth 100000
namespace Go.Proofs.YtcflkcbogofgbaaGreatDoor
open Go.RowKit Go.Proofs
theorem ay.cut0{w:World}{B n c:Nat}{A:Option Addr}{l:af}(h:ay w B (.slice A n c) l):ay w B (.slice A 0 c) []:=by
 refine⟨rfl,?_⟩;rcases h.2 with ⟨h1,h2⟩|⟨g,cap,cur,hv,hg,hh,hcap,hm,hcs,hcell⟩
 ·injection h1 with h1 h3 h4;subst h1 h4;exact Or.inl ⟨rfl,rfl⟩
 ·injection hv with hv h3 h4;subst hv h4;exact Or.inr ⟨g,c,cur,rfl,hg,hh,Nat.zero_le _,hm,hcs,by simp⟩
def df.left:df→Int→Prop
 | .data n,left=>left=n
 | .tail k,left=>left=((2-k:Nat):Int)
 |_,_=>True
def df.lineP:df→af
 | .size l=>l
 | .trail l _ _=>l
 |_=>[]
structure eB (w:World) (O:Nat→Prop) (g:Nat) (vB vT vL:Value) (wh:Bool) (sta left:Int) (b:af) (st:Int) (L:af) (ends:Int) (ts:List aJ):Prop where
 bk:Bk w g 237 #[.int .i64 st,vL,.int .i64 left,vB,vT,.int .i64 ends,.bool wh,.int .i64 sta]
 body:ay w 0 vB b
 line:ay w 0 vL L
 trail:w.ownsRow 0 129 2 vT ts.length (ao ts)
 apart:∀ x,vB.ownBlock=some x→vL.ownBlock≠some x
 og:O g
 ob:∀ x,vB.ownBlock=some x→O x
 ol:∀ x,vL.ownBlock=some x→O x
 ot:∀ x,vT.ownBlock=some x→O x
 lt:∀ x,O x→x < w.heap.size
section
variable {w w' w5:World} {O S:Nat→Prop} {g:Nat} {vB vT vL vB' vL' v':Value} {wh wh':Bool} {sta left sta' left' st st' ends ends':Int} {b L L':af} {ts:List aJ} {c:UInt8}
theorem eB.sm(h:eB w O g vB vT vL wh sta left b st L ends ts)(hs:Sm S w w')(hS:∀ x,O x→¬S x):eB w' O g vB vT vL wh sta left b st L ends ts:=
 ⟨h.bk.sm hs (hS g h.og),aa h.body hs (fun x e=>hS x (h.ob x e)),aa h.line hs (fun x e=>hS x (h.ol x e)),aa h.trail hs (fun x e=>hS x (h.ot x e)),h.apart,h.og,h.ob,h.ol,h.ot,fun x hx=>Nat.lt_of_lt_of_le (h.lt x hx) hs.size⟩
theorem eB.no(h:eB w O g vB vT vL wh sta left b st L ends ts)(hs:Sm No w w'):eB w' O g vB vT vL wh sta left b st L ends ts:=h.sm hs (fun _ _ e=>e)
theorem eB.neB(h:eB w O g vB vT vL wh sta left b st L ends ts):vB.ownBlock≠some g:=ah h.body h.bk (by decide)
theorem eB.neL(h:eB w O g vB vT vL wh sta left b st L ends ts):vL.ownBlock≠some g:=ah h.line h.bk (by decide)
theorem eB.neT(h:eB w O g vB vT vL wh sta left b st L ends ts):vT.ownBlock≠some g:=ah h.trail h.bk (by decide)
theorem eB.upd (h:eB w O g vB vT vL wh sta left b st L ends ts) (hs:Sm (fun x=>x=g) w w') (hb:Bk w' g 237 #[.int .i64 st',vL',.int .i64 left',vB,vT,.int .i64 ends',.bool wh',.int .i64 sta'])
 (hL:ay w 0 vL' L'∧∀ x,vL'.ownBlock=some x→vL.ownBlock=some x):eB w' (aA O w w') g vB vT vL' wh' sta' left' b st' L' ends' ts∧Sm O w w':=by
 have n1:=h.neB;have n2:=h.neL;have n3:=h.neT;have lt:=aA.lt h.lt hs.size;refine⟨?_,hs.mono (fun x _ e=>e ▸ h.og)⟩;have k1:∀ v:Value,v.ownBlock≠some g→∀ x,v.ownBlock=some x→¬(x=g):=fun v hv x e e2=>hv (e2 ▸ e);exact⟨hb,aa h.body hs (k1 _ n1),aa hL.1 hs (fun x e e2=>n2 (e2 ▸ hL.2 x e)),aa h.trail hs (k1 _ n3),fun x e e2=>h.apart x e (hL.2 x e2),Or.inl h.og,fun x e=>Or.inl (h.ob x e),fun x e=>Or.inl (h.ol x (hL.2 x e)),fun x e=>Or.inl (h.ot x e),lt⟩
theorem eB.putB (h:eB w O g vB vT vL wh sta left b st L ends ts) (hO:ay w5 0 v' (b++[c])) (hs5:Sm (fun x=>vB.ownBlock=some x) w w5) (hv:∀ x,v'.ownBlock=some x→vB.ownBlock=some x∨w.heap.size≤x)
 (hs:Sm (fun x=>x=g) w5 w') (hb:Bk w' g 237 #[.int .i64 st',vL,.int .i64 left',v',vT,.int .i64 ends',.bool wh',.int .i64 sta'])
 :eB w' (aA O w w') g v' vT vL wh' sta' left' (b++[c]) st' L ends' ts∧Sm O w w':=by
 have n1:=h.neB;have n2:=h.neL;have n3:=h.neT;have hgl:=h.bk.lt;have hbg5:=h.bk.sm hs5 n1;have n4:v'.ownBlock≠some g:=ah hO hbg5 (by decide);have lt:=aA.lt h.lt (Nat.le_trans hs5.size hs.size);have k1:∀ v:Value,v.ownBlock≠some g→∀ x,v.ownBlock=some x→¬(x=g):=fun v hv x e e2=>hv (e2 ▸ e);have kT:∀ x,vT.ownBlock=some x→¬(vB.ownBlock=some x):=fun x e e2=>by
  obtain⟨c1,h1⟩:=ax h.trail e;obtain⟨c2,h2⟩:=ax h.body e2;rw [h1] at h2;injection h2 with h2;injection h2 with _ h2;exact absurd h2 (by decide)
 have hw:Sm O w w':=(hs5.mono (fun x _ e=>h.ob x e)).trans hs (fun x _ e=>e ▸ h.og);have own:∀ x,v'.ownBlock=some x→x < w'.heap.size:=fun x e=>Nat.lt_of_lt_of_le (World.ownsRow.lt hO x e).2 hs.size;have ob':∀ x,v'.ownBlock=some x→aA O w w' x:=fun x e=>(hv x e).elim (fun e2=>Or.inl (h.ob x e2)) (fun e2=>Or.inr ⟨e2,own x e⟩);refine⟨?_,hw⟩;refine⟨hb,aa hO hs (k1 _ n4),aa (aa h.line hs5 (fun x e e2=>h.apart x e2 e)) hs (k1 _ n2),aa (aa h.trail hs5 kT) hs (k1 _ n3),fun x e e2=> ?_,Or.inl h.og,ob',fun x e=>Or.inl (h.ol x e),fun x e=>Or.inl (h.ot x e),lt⟩;rcases hv x e with e3|e3
 ·exact h.apart x e3 e2
 ·have:=(World.ownsRow.lt h.line x e2).2;omega
theorem eB.putL (h:eB w O g vB vT vL wh sta left b st L ends ts) (hO:ay w5 0 v' (L++[c])) (hs5:Sm (fun x=>vL.ownBlock=some x) w w5) (hv:∀ x,v'.ownBlock=some x→vL.ownBlock=some x∨w.heap.size≤x)
 (hs:Sm (fun x=>x=g) w5 w') (hb:Bk w' g 237 #[.int .i64 st',v',.int .i64 left',vB,vT,.int .i64 ends',.bool wh',.int .i64 sta'])
 :eB w' (aA O w w') g vB vT v' wh' sta' left' b st' (L++[c]) ends' ts∧Sm O w w':=by
 have n1:=h.neB;have n2:=h.neL;have n3:=h.neT;have hbg5:=h.bk.sm hs5 n2;have n4:v'.ownBlock≠some g:=ah hO hbg5 (by decide);have lt:=aA.lt h.lt (Nat.le_trans hs5.size hs.size);have k1:∀ v:Value,v.ownBlock≠some g→∀ x,v.ownBlock=some x→¬(x=g):=fun v hv x e e2=>hv (e2 ▸ e);have kT:∀ x,vT.ownBlock=some x→¬(vL.ownBlock=some x):=fun x e e2=>by
  obtain⟨c1,h1⟩:=ax h.trail e;obtain⟨c2,h2⟩:=ax h.line e2;rw [h1] at h2;injection h2 with h2;injection h2 with _ h2;exact absurd h2 (by decide)
 have hw:Sm O w w':=(hs5.mono (fun x _ e=>h.ol x e)).trans hs (fun x _ e=>e ▸ h.og);have own:∀ x,v'.ownBlock=some x→x < w'.heap.size:=fun x e=>Nat.lt_of_lt_of_le (World.ownsRow.lt hO x e).2 hs.size;have ol':∀ x,v'.ownBlock=some x→aA O w w' x:=fun x e=>(hv x e).elim (fun e2=>Or.inl (h.ol x e2)) (fun e2=>Or.inr ⟨e2,own x e⟩);refine⟨?_,hw⟩;refine⟨hb,aa (aa h.body hs5 (fun x e e2=>h.apart x e e2)) hs (k1 _ n1),aa hO hs (k1 _ n4),aa (aa h.trail hs5 kT) hs (k1 _ n3),fun x e e2=> ?_,Or.inl h.og,fun x e=>Or.inl (h.ob x e),ol',fun x e=>Or.inl (h.ot x e),lt⟩;rcases hv x e2 with e3|e3
 ·exact h.apart x e e3
 ·have:=(World.ownsRow.lt h.body x e).2;omega
theorem eB.putT {x:aJ} (h:eB w O g vB vT vL wh sta left b st L ends ts) (hO:w5.ownsRow 0 129 2 v' (ts++[x]).length (ao (ts++[x]))) (hs5:Sm (fun x=>vT.ownBlock=some x) w w5) (hv:∀ x,v'.ownBlock=some x→vT.ownBlock=some x∨w.heap.size≤x)
 (hs:Sm (fun x=>x=g) w5 w') (hb:Bk w' g 237 #[.int .i64 st',vL,.int .i64 left',vB,v',.int .i64 ends',.bool wh',.int .i64 sta']):
 eB w' (aA O w w') g vB v' vL wh' sta' left' b st' L ends' (ts++[x])∧Sm O w w':=by
 have n1:=h.neB;have n2:=h.neL;have n3:=h.neT;have hbg5:=h.bk.sm hs5 n3;have n4:v'.ownBlock≠some g:=ah hO hbg5 (by decide);have lt:=aA.lt h.lt (Nat.le_trans hs5.size hs.size);have k1:∀ v:Value,v.ownBlock≠some g→∀ x,v.ownBlock=some x→¬(x=g):=fun v hv x e e2=>hv (e2 ▸ e);have kT:∀ (v:Value) (l:af),ay w 0 v l→∀ x,v.ownBlock=some x→¬(vT.ownBlock=some x):=fun v l hl x e2 e=>by
  obtain⟨c1,h1⟩:=ax h.trail e;obtain⟨c2,h2⟩:=ax hl e2;rw [h1] at h2;injection h2 with h2;injection h2 with _ h2;exact absurd h2 (by decide)
 have hw:Sm O w w':=(hs5.mono (fun x _ e=>h.ot x e)).trans hs (fun x _ e=>e ▸ h.og);have own:∀ x,v'.ownBlock=some x→x < w'.heap.size:=fun x e=>Nat.lt_of_lt_of_le (World.ownsRow.lt hO x e).2 hs.size;refine⟨⟨hb,aa (aa h.body hs5 (kT _ _ h.body)) hs (k1 _ n1),aa (aa h.line hs5 (kT _ _ h.line)) hs (k1 _ n2),aa hO hs (k1 _ n4),h.apart,Or.inl h.og,fun x e=>Or.inl (h.ob x e),fun x e=>Or.inl (h.ol x e),fun x e=> ?_,lt⟩,hw⟩;exact(hv x e).elim (fun e2=>Or.inl (h.ot x e2)) (fun e2=>Or.inr ⟨e2,own x e⟩)
end
theorem eB.mono {w w3 w':World} {O:Nat→Prop} {g:Nat} {vB vT vL vB' vT' vL':Value} {wh wh':Bool} {sta left sta' left' st st' ends ends':Int} {b b' L L':af} {ts ts':List aJ}
 (h:eB w' (aA O w3 w') g vB' vT' vL' wh' sta' left' b' st' L' ends' ts') (hs:Sm No w w3) (_:eB w O g vB vT vL wh sta left b st L ends ts):eB w' (aA O w w') g vB' vT' vL' wh' sta' left' b' st' L' ends' ts':=by
 have k:∀ x,aA O w3 w' x→aA O w w' x:=fun x e=>e.elim Or.inl (fun e=>Or.inr ⟨Nat.le_trans hs.size e.1,e.2⟩);have lt:∀ x,aA O w w' x→x < w'.heap.size:=by
  rintro x (e|⟨_,e⟩)
  ·exact h.lt x (Or.inl e)
  ·exact e
 exact⟨h.bk,h.body,h.line,h.trail,h.apart,k _ h.og,fun x e=>k x (h.ob x e),fun x e=>k x (h.ol x e),fun x e=>k x (h.ot x e),lt⟩
theorem eB.imp {w:World} {O O2:Nat→Prop} {g:Nat} {vB vT vL:Value} {wh:Bool} {sta left st ends:Int} {b L:af} {ts:List aJ}
 (h:eB w O g vB vT vL wh sta left b st L ends ts) (k:∀ x,O x→O2 x) (lt:∀ x,O2 x→x < w.heap.size):eB w O2 g vB vT vL wh sta left b st L ends ts:=
 ⟨h.bk,h.body,h.line,h.trail,h.apart,k _ h.og,fun x e=>k x (h.ob x e),fun x e=>k x (h.ol x e),fun x e=>k x (h.ot x e),lt⟩
theorem eB.up{w w4 w':World}{O:Nat→Prop}{g:Nat}{vB vT vL:Value}{wh:Bool}{sta left st ends:Int}{b L:af}{ts:List aJ}(h:eB w' (aA (aA O w w4) w4 w') g vB vT vL wh sta left b st L ends ts)(hO:∀ x,O x→x < w.heap.size)(h1:w.heap.size≤w4.heap.size)(h2:w4.heap.size≤w'.heap.size):
 eB w' (aA O w w') g vB vT vL wh sta left b st L ends ts:=h.imp (aA.up h1 h2) (aA.lt hO (Nat.le_trans h1 h2))
def qI(w:World)(O:Nat→Prop)(g:Nat):ej→Prop
 | .at b p=>∃ vB vT vL left,eB w O g vB vT vL false 0 left b p.st p.lineP p.ends p.ts∧p.left left
 | .whole b=>∃ vB vT vL left st L ends ts,eB w O g vB vT vL true 0 left b st L ends ts
 | .bad s=>∃ vB vT vL left b st L ends ts,eB w O g vB vT vL false s left b st L ends ts
def bq(w:World)(O:Nat→Prop)(g:Nat)(q:ej)(e:Ending)(w':World):Prop:=
 e=.returned (.tuple #[])∧qI w' (aA O w w') g q∧Sm O w w'
theorem bq.bad{w w2:World}{O:Nat→Prop}{g:Nat}{vB vT vL:Value}{left st ends:Int}{b L:af}{ts:List aJ}(h:eB w O g vB vT vL false 0 left b st L ends ts)(hs:Sm No w w2)(c:Int):
 bq w O g (.bad c) (.returned (.tuple #[])) (w2.setCell ⟨g,7,none⟩ (.int .i64 c)):=by
 have h2:=(h.no hs).upd ((Sm.refl _ w2).set1 7 (.int .i64 c)) (((h.no hs).bk.set 7 _).eq rfl) ⟨(h.no hs).line,fun _ e=>e⟩;exact⟨rfl,⟨_,_,_,_,_,_,_,_,_,h2.1.mono hs h⟩,(hs.any _).tt h2.2⟩
def fF(st:Int)(n e:Int):Int:=if st=0∧64 < n then 400 else if st=3∧(256 < n∨512 < e+n) then 431 else 0
def pA(w:World)(g:Nat)(c:Int):World:=if c=0 then w else w.setCell ⟨g,7,none⟩ (.int .i64 c)
theorem yn(w:World)(g:Nat)(st left e sta:Int)(vL vB vT:Value)(wh:Bool)(n:Int)(hb:Bk w g 237 #[.int .i64 st,vL,.int .i64 left,vB,vT,.int .i64 e,.bool wh,.int .i64 sta])(hst:st=0∨st=3)(hn:0≤n∧n≤1000)(he:0≤e∧e≤1000):
 Calls Tryz.prog 261 #[.pointer (some ⟨g,0,none⟩),.int .i64 n] w fun en w'=>en=.returned (.tuple #[])∧w'=pA w g (fF st n e):=by
 have hgl:=hb.lt;have hc:=hb.all;have hz:=hb.fz;clear hb;rcases hst with rfl|rfl
 ·by_cases h1:64 < n
  ·have E:=ns (show pA w g (fF 0 n e)=w.setCell ⟨g,7,none⟩ (.int .i64 400) from by unfold fF;rw [if_pos ⟨rfl,h1⟩];rfl);go_in;go_wp2_with fail
   go_end0
   exact⟨rfl,E.out.symm⟩
  ·have E:=ns (show pA w g (fF 0 n e)=w from by unfold fF;rw [if_neg (fun h=>h1 h.2),if_neg (fun h=>absurd h.1 (by decide))];rfl);go_in;go_wp2_with fail
   go_end0
   exact⟨rfl,E.out.symm⟩
 ·have hw:IntKind.i64.wrap (e+n)=e+n:=IntWalk.i64_in _ (by omega);by_cases h1:256 < n
  ·have E:=ns (show pA w g (fF 3 n e)=w.setCell ⟨g,7,none⟩ (.int .i64 431) from by unfold fF;rw [if_neg (fun h=>absurd h.1 (by decide)),if_pos ⟨rfl,Or.inl h1⟩];rfl);go_in;go_wp2_with fail
   go_end0
   exact⟨rfl,E.out.symm⟩
  ·by_cases h2:512 < e+n
   ·have E:=ns (show pA w g (fF 3 n e)=w.setCell ⟨g,7,none⟩ (.int .i64 431) from by unfold fF;rw [if_neg (fun h=>absurd h.1 (by decide)),if_pos ⟨rfl,Or.inr h2⟩];rfl);go_in;go_wp2_with fail
    go_end0
    exact⟨rfl,E.out.symm⟩
   ·have E:=ns (show pA w g (fF 3 n e)=w from by unfold fF;rw [if_neg (fun h=>absurd h.1 (by decide)),if_neg (fun h=>h.2.elim h1 h2)];rfl);go_in;go_wp2_with fail
    go_end0
    exact⟨rfl,E.out.symm⟩
theorem tM{l:af}(h:l.all bt=true)(h1:1≤l.length)(h2:l.length≤12):(eO l).2=true:=by
 have e:=kG (b:=16) l 0;have e2:(l.all fun c=>decide (0≤aG c∧aG c < 16))=true:=by
  rw [List.all_eq_true] at h ⊢;intro c hc;have:=h c hc;have h3:=(eF c).2;unfold bt at this;rw [decide_eq_true_eq] at this ⊢;omega
 rw [e2] at e;unfold eO ei;rw [if_neg (by omega)]
 cases hn:dH 16 l 0 with
 |none=>rw [hn] at e;cases e
 |some n=>rfl
theorem C5(c:UInt8):(eO [c]).2=bt c:=by
 cases h:bt c with
 |true=>exact tM (by simp [h]) (by simp) (by simp)
 |false=>
  unfold bt at h;rw [decide_eq_false_iff_not] at h;unfold eO ei;rw [if_neg (by simp)];have e:dH 16 [c] 0=none:=by
   unfold dH;rw [if_pos (by omega)]
  rw [e]
theorem vE{c:UInt8}{r:af}(h:bt c=true):br (c::r)=none:=by
 have hb:ia c=false:=by
  cases hb:ia c with
  |false=>rfl
  |true=>
   exfalso
   unfold ia at hb;simp only [Bool.or_eq_true,beq_iff_eq] at hb;rcases hb with rfl|rfl
   ·exact absurd h (by decide+kernel)
   ·exact absurd h (by decide+kernel)
 have hne:c≠59:=by
  rintro rfl;exact absurd h (by decide+kernel)
 have hd:aO (c::r)=c::r:=by
  unfold aO;rw [List.dropWhile_cons,if_neg (by rw [hb];decide)]
 unfold br;refine dv (by rw [hd];exact List.cons_ne_nil _ _) ?_;rw [hd];unfold bK;dsimp only;rw [if_neg hne]
theorem ti(s:af):(bX s).all bt=true:=by
 unfold bX;exact List.all_takeWhile
theorem Al(b s:af)(k:Nat)(hk:k=min (bX s).length 6):cP b s=if k < 1 then .bad 400 else if br (s.drop k)=none then .bad 400 else
 if 2048 < (b.length:Int)+(eO (s.take k)).1 then .bad 413 else if (eO (s.take k)).1=0 then .at b (.trail [] 0 []) else .at b (.data (eO (s.take k)).1.toNat):=by
 have hp:bX s=s.take (bX s).length:=List.prefix_iff_eq_take.1 (List.takeWhile_prefix bt);by_cases h1:(bX s).length < 1
 ·rw [jF (Or.inl h1),if_pos (by omega)]
 by_cases h6:6 < (bX s).length
 ·have hk6:k=6:=by omega
  subst hk6;rw [jF (Or.inr h6),if_neg (by decide),if_pos];have hl:6 < s.length:=Nat.lt_of_lt_of_le h6 Ec;have he:bt s[6]=true:=by
   have ha:=ti s;rw [List.all_eq_true] at ha;refine ha _ ?_;have e:(bX s)[6]'h6=s[6]:=by
    have e2:(bX s)[6]?=s[6]?:=by rw [hp,List.getElem?_take,if_pos h6]
    rw [List.getElem?_eq_getElem h6,List.getElem?_eq_getElem hl] at e2;exact Option.some.inj e2
   rw [←e];exact List.getElem_mem h6
  rw [List.drop_eq_getElem_cons hl];exact vE he
 ·have hkk:k=(bX s).length:=by omega
  rw [if_neg (by omega),hkk,←hp];by_cases h2:br (s.drop (bX s).length)=none
  ·rw [qC (by omega) h2,if_pos h2]
  ·rw [qz (by omega) h2,if_neg h2]
theorem uj{s:ByteArray}{a:Int}{b:Bool}(h:Hid (eO (ab s)=(a,b)))(hs:s.size≤1000000)(w:World):Calls Tryz.prog 287 #[.string s] w fun e w'=>e=.returned (.tuple #[.int .i64 a,.bool b])∧Sm No w w':=by
 have:=yB s hs w;rw [show ei 16 12 (ab s)=(a,b) from h.out] at this;exact this
theorem zX(c:UInt8)(w:World):Calls Tryz.prog 286 #[.int .u8 c.toNat] w fun e w'=>e=.returned (.bool (bt c))∧Sm No w w':=by
 obtain⟨f,hf⟩:=Iu (bt c);obtain⟨n,ok,hno⟩:∃ n ok,eO [c]=(n,ok):=⟨_,_,rfl⟩;have hok:ok=f:=by have:=C5 c;rw [hno] at this;rw [←hf,←this]
 subst hok;have HN:=ns (show eO (ab ⟨#[c]⟩)=(n,ok) from hno);rw [hf];clear hf hno;go_in;go_wp2_with (refine aE rfl 22 9 5 _ rfl w.heap.size 1 1 [c] rfl Tryz.underlying22 Tryz.underlying5 Tryz.underlying9 (Bk.new w 5 #[.int .u8 c.toNat]).by1 rfl ?_);refine(uj HN (by show 1≤1000000;decide) _).mono ?_;rintro e w2 ⟨rfl,hs2⟩;have HS:=ns (((Sm.refl No w).alloc _).tt hs2);clear hs2;go_wp2_with fail;go_ret;exact⟨rfl,HS.out⟩
theorem pZ{c:UInt8}{f:Bool}(h:Hid (bt c=f))(w:World):Calls Tryz.prog 286 #[.int .u8 c.toNat] w fun e w'=>e=.returned (.bool f)∧Sm No w w':=by
 rw [←h.out];exact zX c w
def Fv(p:UInt8→Bool)(s:ByteArray)(w:World)(i:Value)(wr:World):Prop:=Sm No w wr∧∃ k:Nat,k≤s.size∧k≤6∧i=.int .i64 k∧∀ c∈s.data.toList.take k,p c=true
theorem Bl(w:World)(O:Nat→Prop)(g:Nat)(vB vT vL:Value)(left:Int)(b:af)(s:ByteArray)(hI:eB w O g vB vT vL false 0 left b 0 [] 0 [])(hb:b.length≤2048)(hs:s.size≤1000):
 Calls Tryz.prog 262 #[.pointer (some ⟨g,0,none⟩),.string s] w (bq w O g (cP b (ab s))):=by
 have HI:=ns hI;obtain⟨K,hK⟩:=Iu (min (bX (ab s)).length 6);obtain⟨R,hR⟩:=Iu (cP b (ab s));have HE:=ns ((Al b (ab s) K hK.symm).symm.trans hR);rw [hR];have HKK:=ns hK;have hKz:K≤s.size:=by
  rw [←hK];have h:=(List.takeWhile_prefix bt (l:=ab s)).length_le;rw [ae] at h;unfold bX;omega
 have hK6:K≤6:=by omega
 clear hI hR hK;go_in;go_upto_block 0 with fail
 go_cut [4] (fun i wx=>Sm No w wx∧i=.int .i64 K)
 case first=>
  go_wp2_with fail
  go_loopw [4] (fun i wr=>Fv bt s w i wr) (fun i _=>s.size-(intOf i).toNat)
  case atStart=>exact⟨Sm.refl _ _,0,Nat.zero_le _,by decide,rfl,by simp⟩
  case round=>
   obtain⟨hsr,k,hk,hk6,rfl,hall⟩:=hrel;have HA:=ns (BT hall hsr);clear hall hsr;have hkl:k≤s.data.toList.length:=by rw [←ai];exact hk
   have hk1:(k:Int)≤(s.size:Int):=by omega
   have hmin:min (s.size:Int) 6=(min s.size 6:Nat):=by omega
   obtain⟨m,hm⟩:=Iu (min s.size 6);rw [hm] at hmin;by_cases hgo:∃ h:k < s.size,k < 6∧bt s[k]=true
   ·obtain⟨hlt,h6,hf⟩:=hgo;have HN:=ns (di HA.out.1 hlt hf);have HF:=ns hf;have i1:(k:Int) < (m:Int):=by omega
    have i2:(k:Int) < (s.size:Int):=by omega
    clear hf;go_wp2_with fail;refine(pZ HF _).mono ?_;rintro e w1 ⟨rfl,hs1⟩;have HS:=ns (HA.out.2.tt hs1);clear hs1;go_wp2_with fail;exact⟨⟨HS.out,k+1,by omega,by omega,by go_num,HN.out⟩,by simp [intOf];omega⟩
   ·have hpre:(ab s).take k <+:bX (ab s):=by
     have hA':∀ c∈(ab s).take k,bt c=true:=HA.out.1;have h2:ab s=(ab s).take k++(ab s).drop k:=(List.take_append_drop k _).symm;unfold bX
     conv=>rhs;rw [h2]
     rw [List.takeWhile_append_of_pos hA'];exact List.prefix_append _ _
    have hkp:k≤(bX (ab s)).length:=by
     have:=hpre.length_le;rw [List.length_take,ae] at this;omega
    have hKn:K=k:=by
     have:=HKK.out;by_cases h6:k < 6
     ·have hW:=bT (p:=bt) hkl HA.out.1 (fun h=>by
       have hlt:k < s.size:=by rw [ai];exact h
       cases hc:bt s.data.toList[k] with
       |false=>rfl
       |true=>exact absurd ⟨hlt,h6,hc⟩ hgo)
      have hn:(bX (ab s)).length=k:=by
       have:=congrArg List.length hW;rw [List.length_take] at this;unfold bX ab;omega
      omega
     ·omega
    have HKn:=ns hKn;have hways:¬(k:Int) < (m:Int)∨∃ h:k < s.size,(k:Int) < (m:Int)∧bt s[k]=false:=by
     by_cases hlt:k < m
     ·refine Or.inr ⟨by omega,by omega,?_⟩;have h2:¬bt s[k]=true:=fun e=>hgo ⟨by omega,by omega,e⟩;simpa using h2
     ·exact Or.inl (by omega)
    clear hpre hkp hKn hgo hkl;rcases hways with he|⟨hlt,i1,hd⟩
    ·go_wp2_with fail;go_meet;exact⟨HA.out.2,by rw [HKn.out]⟩
    ·have HD:=ns hd;have i2:(k:Int) < (s.size:Int):=by omega
     clear hd;go_wp2_with fail;refine(pZ HD _).mono ?_;rintro e w1 ⟨rfl,hs1⟩;have HS:=ns (HA.out.2.tt hs1);clear hs1;go_wp2_with fail;go_meet;exact⟨HS.out,by rw [HKn.out]⟩
 case rest=>
  obtain⟨hwc,rfl⟩:=hcut;have i3:(K:Int)≤(s.size:Int):=by omega
  obtain⟨pB,hpB⟩:=Iu (s.extract 0 K);have hpt:ab pB=(ab s).take K:=by
   rw [←hpB,aN,List.drop_zero]
  have hpz:pB.size=K:=by rw [←hpB,ByteArray.size_extract];omega
  obtain⟨qB,hqB⟩:=Iu (s.extract K s.size);have hqt:ab qB=(ab s).drop K:=by rw [←hqB,bQ]
  have hqz:qB.size≤1000:=by rw [←hqB,ByteArray.size_extract];omega
  have HPQ:=ns (BT hpB hqB);obtain⟨n,ok,hno⟩:∃ n ok,eO (ab pB)=(n,ok):=⟨_,_,rfl⟩;have hnb:=rk (ab pB) (by rw [ae];omega);have hok:ok=decide (1≤K):=by
   by_cases h1:1≤K
   ·rw [decide_eq_true h1];have hall:(ab pB).all bt=true:=by
     have ha:=ti (ab s);have hp:bX (ab s)=(ab s).take (bX (ab s)).length:=List.prefix_iff_eq_take.1 (List.takeWhile_prefix bt);rw [hpt];rw [List.all_eq_true] at ha ⊢;intro c hc;refine ha c ?_;rw [hp];have:=HKK.out;exact(List.take_prefix_take_left (l:=ab s) (by omega:K≤(bX (ab s)).length)).subset hc
    have:=tM hall (by rw [ae,hpz];exact h1) (by rw [ae,hpz];omega);rw [hno] at this;exact this
   ·rw [decide_eq_false h1];have h0:ab pB=[]:=List.eq_nil_of_length_eq_zero (by rw [ae,hpz];omega);rw [h0] at hno;have:eO []=(0,false):=by decide
    rw [this] at hno;injection hno with _ h2;exact h2.symm
  rw [hno] at hnb;have HN:=ns hno;have HE2:=ns (show (if K < 1 then ej.bad 400 else if br (ab qB)=none then .bad 400 else if 2048 < (b.length:Int)+n then .bad 413 else if n=0 then .at b (.trail [] 0 []) else .at b (.data n.toNat))=R from by
   have e:=HE.out;rw [←hpt,←hqt,hno] at e;exact e)
  have HWc:=ns hwc;have HOK:=ns hok;dsimp only at hnb;clear hpB hpt hqB hqt hno hwc hok;go_wp2_with fail;rw [HPQ.out.1];refine(uj HN (by omega) _).mono ?_;rintro e w2 ⟨rfl,hs2⟩;have HS2:=ns (HWc.out.tt hs2);have HPa:=wD qB (by omega) w2;unfold ij at HPa;rw [show qB.data.toList=ab qB from rfl] at HPa;have HPa:=ns HPa;clear hs2;go_wp2_with fail;rw [HPQ.out.2];refine HPa.out.mono ?_;intro e w3 hp3;obtain⟨pv,good,rfl,hgood,hs3⟩:∃ pv good,e=.returned (.tuple #[pv,.bool good])∧(good=true↔br (ab qB)≠none)∧Sm No w w3:=by
   rcases hp3 with ⟨r,v,hr,he,_,_,hs3⟩|⟨hr,he,hs3⟩
   ·exact⟨_,_,he,⟨fun _=>(by rw [hr];exact fun h=>by cases h),fun _=>rfl⟩,HS2.out.tt hs3⟩
   ·exact⟨_,_,he,⟨fun h=>(by cases h),fun h=>absurd hr h⟩,HS2.out.tt hs3⟩
  have HS3:=ns hs3;have hI3:=HI.out.no hs3;have hcg:=hI3.bk.all;have hzg:=hI3.bk.fz;have hgl3:=hI3.bk.lt;obtain⟨A,cp,hAc, -⟩:=hI3.body.slice;subst hAc;have HI3:=ns hI3;have HBad:=ns (fun (c:Int) (hc:R=.bad c)=>show bq w O g R (.returned (.tuple #[])) (w3.setCell ⟨g,7,none⟩ (.int .i64 c)) from by rw [hc];exact bq.bad HI.out HS3.out c);have HGd:=ns hgood;clear hp3 hs3 hI3 hgood;by_cases h1:K < 1
  ·have hok2:ok=false:=by rw [HOK.out];exact decide_eq_false (by omega)
   subst hok2;have HF:=ns (HBad.out 400 (by rw [←HE2.out,if_pos h1]));clear h1;go_wp2_with fail
   go_end0
   exact HF.out
  ·have hok2:ok=true:=by rw [HOK.out];exact decide_eq_true (by omega)
   subst hok2;have HE3:=ns (HE2.out.symm.trans (if_neg h1))
   cases good with
   |false=>
    have HF:=ns (HBad.out 400 (by rw [HE3.out,if_pos (by
     cases hc:br (ab qB) with
     |none=>rfl
     |some x=>exact absurd (HGd.out.2 (by rw [hc];exact fun h=>by cases h)) (by decide))]))
    clear h1;go_wp2_with fail
    go_end0
    exact HF.out
   |true=>
    have HE4:=ns (HE3.out.trans (if_neg (HGd.out.1 rfl)));have i9:IntKind.i64.wrap (2048-(b.length:Int))=2048-(b.length:Int):=IntWalk.i64_in _ (by omega);clear h1;by_cases hbig:2048 < (b.length:Int)+n
    ·have j1:2048-(b.length:Int) < n:=by omega
     have HF:=ns (HBad.out 413 (by rw [HE4.out,if_pos hbig]));clear hbig;go_wp2_with fail
     go_end0
     exact HF.out
    ·have j1:¬2048-(b.length:Int) < n:=by omega
     have HE5:=ns (HE4.out.trans (if_neg hbig));by_cases hn0:n=0
     ·have HF:=ns (HE5.out.trans (if_pos hn0));subst hn0;clear hbig;go_wp2_with fail
      go_end0
      have h:=HI3.out.upd (st':=3) ((Sm.refl _ w3).set1 0 (.int .i64 3)) ((HI3.out.bk.set 0 _).eq rfl) ⟨HI3.out.line,fun _ e=>e⟩;refine⟨rfl,?_,(HS3.out.any _).tt h.2⟩;rw [HF.out];exact⟨_,_,_,_,h.1.mono HS3.out HI.out,trivial⟩
     ·have e0:(n==0)=false:=by simp [hn0]
      have HF:=ns (HE5.out.trans (if_neg hn0));have HN0:=ns hn0;clear hn0 hbig;go_wp2_with fail
      go_end0
      have h:=HI3.out.upd (st':=1) (left':=n) (((Sm.refl _ w3).set1 0 (.int .i64 1)).set1 2 (.int .i64 n)) (((HI3.out.bk.set 0 _).set 2 _).eq rfl) ⟨HI3.out.line,fun _ e=>e⟩;refine⟨rfl,?_,(HS3.out.any _).tt h.2⟩;rw [HF.out];exact⟨_,_,_,_,h.1.mono HS3.out HI.out,by show n=((n.toNat:Nat):Int);omega⟩
theorem rp(w:World)(O:Nat→Prop)(g:Nat)(vB vT vL:Value)(left:Int)(b:af)(e0:Nat)(ts:List aJ)(s:ByteArray)(hI:eB w O g vB vT vL false 0 left b 3 [] e0 ts)(hts:ts.length≤8)(he:e0≤512)(hs:s.size≤1000)(h0:¬s.size=0):
 Calls Tryz.prog 263 #[.pointer (some ⟨g,0,none⟩),.string s] w (bq w O g (bN b (ab s) e0 ts)):=by
 have HI:=ns hI;have hgl:=hI.bk.lt;have hcg:=hI.bk.all;have hzg:=hI.bk.fz;obtain⟨R,hR⟩:=Iu (bN b (ab s) e0 ts);rw [hR];have HR:=ns hR;clear hI hR;have ht0:ab s≠[]:=fun e=>h0 (by rw [←ae,e];rfl);obtain⟨⟨pe,pn,pv⟩,hP⟩:∃ P,aL (ab s)=P:=⟨_,rfl⟩;obtain⟨nB,hnB⟩:=Iu ((⟨pn.toArray⟩:ByteArray));obtain⟨xB,hxB⟩:=Iu ((⟨pv.toArray⟩:ByteArray));have HP:=qa s (by omega);have hP':aL s.data.toList=(pe,pn,pv):=hP;rw [hP',show iB (pe,pn,pv)=.tuple #[.agg #[.string nB,.string xB],.int .i64 pe] from by rw [←hnB,←hxB];rfl] at HP;have HP:=ns HP;have HPn:=ns (show (aL (ab s)).1=pe∧(((⟨(aL (ab s)).2.1.toArray⟩,⟨(aL (ab s)).2.2.toArray⟩):aJ)=(nB,xB)) from by rw [hP,←hnB,←hxB];exact⟨rfl,rfl⟩);have HT0:=ns ht0;clear hP hP' hnB hxB h0 ht0;obtain⟨At,ct,hAt,_⟩:=ak HI.out.trail;subst hAt;have i8:IntKind.i64.wrap ((s.size:Int)+2)=(s.size:Int)+2:=IntWalk.i64_in _ (by omega);have i9:IntKind.i64.wrap ((e0:Int)+((s.size:Int)+2))=(e0:Int)+((s.size:Int)+2):=IntWalk.i64_in _ (by omega);go_in;go_wp2_with fail;refine(HP.out _).mono ?_;rintro e w2 ⟨rfl,hs2⟩;obtain⟨b4,hb4⟩:=Iu w2.heap.size;obtain⟨w3,hw3⟩:∃ w3,w2.alloc (.cells #[.string nB,.string xB] 129)=w3:=⟨_,rfl⟩;have hs3:Sm No w w3:=by rw [←hw3];exact hs2.alloc _
 have hb3:Bk w3 b4 129 #[.string nB,.string xB]:=by rw [←hw3,←hb4];exact Bk.new w2 _ _
 have hne:b4≠g:=by have:=hs2.size;omega
 have hI3:=HI.out.no hs3;obtain⟨w4,hw4⟩:=Iu (w3.setCell ⟨g,5,none⟩ (.int .i64 ((e0:Int)+((s.size:Int)+2))));have h4:=hI3.upd (ends':=(e0:Int)+((s.size:Int)+2)) ((Sm.refl _ w3).set1 5 (.int .i64 ((e0:Int)+((s.size:Int)+2)))) ((hI3.bk.set 5 _).eq rfl) ⟨hI3.line,fun _ e=>e⟩;rw [hw4] at h4;have h4:=BT (h4.1.mono hs3 HI.out) ((hs3.any O).tt h4.2);have hb4b:Bk w4 b4 129 #[.string nB,.string xB]:=by rw [←hw4];exact hb3.far hne _
 have H4:=ns (BT h4 (BT hb4b (BT hw3 (BT hw4 hb4))));have hcg4:=h4.1.bk.all;have hzg4:=h4.1.bk.fz;have hgl4:=h4.1.bk.lt;have f0:=hb4b.at 0 (v:=.string nB) rfl;have f1:=hb4b.at 1 (v:=.string xB) rfl;have hl4:=hb4b.lt;have hcg3:=hI3.bk.all;have hzg3:=hI3.bk.fz;have hgl3:=hI3.bk.lt;have HBad:=ns (fun (c:Int) (hc:R=.bad c)=>show bq w O g R (.returned (.tuple #[])) (w4.setCell ⟨g,7,none⟩ (.int .i64 c)) from by
  have h:=H4.out.1.1.upd (sta':=c) ((Sm.refl _ w4).set1 7 (.int .i64 c)) ((H4.out.1.1.bk.set 7 _).eq rfl) ⟨H4.out.1.1.line,fun _ e=>e⟩;refine⟨rfl,?_,H4.out.1.2.up h.2⟩;rw [hc];exact⟨_,_,_,_,_,_,_,_,_,h.1.up HI.out.lt H4.out.1.2.size (by simp)⟩)
 clear hs2 hw3 hs3 hb3 hI3 hw4 h4 hb4b hcg hzg hb4;go_upto_region 1 with fail;rw [H4.out.2.2.1,H4.out.2.2.2.2];go_upto_region 3 with fail;rw [H4.out.2.2.2.1];clear hcg3 hzg3 hgl3;by_cases hp:pe=0
 ·subst hp;by_cases h8:ts.length=8∨512 < e0+s.size+2
  ·have HE:=ns (HBad.out 431 (by rw [←HR.out,mq HT0.out (by rw [HPn.out.1]) (by rw [ae];exact h8)]));by_cases h10:512 < e0+s.size+2
   ·have e2:(512:Int) < (e0:Int)+((s.size:Int)+2):=by omega
    clear h8 h10;go_wp2_with fail
    go_end0
    exact HE.out
   ·have e2:¬(512:Int) < (e0:Int)+((s.size:Int)+2):=by omega
    have h9:ts.length=8:=h8.resolve_right h10;rw [h9] at hcg4;clear h8 h9 h10;go_wp2_with fail
    go_end0
    exact HE.out
  ·have e1:((ts.length:Int)==8)=false:=by rw [beq_eq_false_iff_ne];omega
   have e2:¬(512:Int) < (e0:Int)+((s.size:Int)+2):=by omega
   have HE:=ns (show R=.at b (.trail [] (e0+s.size+2) (ts++[(nB,xB)])) from by rw [←HR.out,oe HT0.out (by rw [HPn.out.1]) (by rw [ae];exact h8),HPn.out.2,ae]);have htl:ts.length≤1000000:=by omega
   have HOwn:=ns ((H4.out.1.1.trail.alloc (.cells #[.string nB,.string xB] 129)).drew);have HBlk:=ns (Bk.new w4 129 #[.string nB,.string xB]).drew;have HKb:=ns ((H4.out.1.1.bk.alloc (.cells #[.string nB,.string xB] 129)).drew);have HNe:=ns (show ¬(Value.slice At ts.length ct).ownBlock=some g from H4.out.1.1.neT);clear h8;go_wp2_with fail
   go_region_law
    ((refine hU (by rfl) _ _ 60 129 (by rfl) Tryz.underlying60 _ 2 32 eS rfl (by decide) (by decide) 0 ts.length _ (ao ts) (by rfl) HOwn.out w4.heap.size #[.string nB,.string xB] (by rfl) HBlk.out rfl (by simp [Value.oneCell']) htl (Nat.zero_le _) ?_;intro r cap w5 hown5 hs5 hr5;have hb5:=HKb.out.sm hs5 HNe.out;have hc5:=hb5.all;have hz5:=hb5.fz;have hl5:=hb5.lt))
   all_goals
    have HF:=ns (H4.out.1.1.putT (x:=(nB,xB)) (v':=.slice (some ⟨r,0,none⟩) (ts.length+1) cap) (by rw [fe,List.length_append];exact hown5) ((((Sm.refl _ w4).alloc _).drew).tt hs5) (fun x e=>by
     have e2:r=x:=by simpa [Value.ownBlock] using e
     rcases hr5 with e3|e3
     ·exact Or.inl (e3.trans (by rw [e2]))
     ·right;rw [←e2,e3];simp) ((Sm.refl _ w5).set1 4 _) ((hb5.set 4 _).eq rfl))
    go_wp2_with fail
    go_end0
    refine⟨rfl,?_,H4.out.1.2.up HF.out.2⟩;rw [HE.out];refine⟨vB,.slice (some ⟨r,0,none⟩) (ts.length+1) cap,vL,left,?_,trivial⟩;have hsz:=HF.out.2.size;have hh:=HF.out.1.up HI.out.lt H4.out.1.2.size hsz;rw [show ((df.trail [] (e0+s.size+2) (ts++[(nB,xB)])).ends:Int)=(e0:Int)+((s.size:Int)+2) from by show ((e0+s.size+2:Nat):Int)=_;omega];exact hh
 ·have e0:(pe==0)=false:=by simp [hp]
  have e1:(pe != 0)=true:=by simp [hp]
  have HE:=ns (HBad.out 400 (by rw [←HR.out,nl HT0.out (by rw [HPn.out.1];exact hp)]));clear hp;go_wp2_with fail
  go_end0
  exact HE.out
end Go.Proofs.YtcflkcbogofgbaaGreatDoor
