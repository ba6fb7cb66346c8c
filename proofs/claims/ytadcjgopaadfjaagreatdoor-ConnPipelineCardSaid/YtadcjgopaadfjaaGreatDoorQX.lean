import Derived.Test.YtadcjgopaadfjaaGreatDoorQQ
import Derived.Test.YtadcjgopaadfjaaGreatDoorQR
namespace Go.Proofs.YtadcjgopaadfjaaGreatDoor
open Go.RowKit Go.Proofs
def pM(h:Hd):List Value:=[.string ⟨h.method.toArray⟩,.int .i64 h.target.form,.string ⟨h.target.host.toArray⟩,.string ⟨h.target.path.toArray⟩,.string ⟨h.target.query.toArray⟩,.int .i64 h.minor,.int .i64 h.how.kind,.int .i64 h.how.len,.bool h.how.close,.bool h.how.expect,.bool h.started,.bool h.whole,.int .i64 h.status,.int .i64 (h.bytes:Nat),.int .i64 (h.empty:Nat)]
def jb(w:World)(B g:Nat)(v:Value)(h:Hd):Prop:=cu 349 (pM h) w B g v h.fields
def jH(w:World)(B g:Nat)(v:Value)(p:Hd × Int)(e:Ending)(w':World):Prop:=
 ∃ v',e=.returned (.int .i64 p.2)∧jb w' B g v' p.1∧Sm (iH g v) w w'∧dQ w v v'
theorem jH.no{w w':World}{B g:Nat}{v:Value}{h:Hd}{c:Int}(hI:jb w B g v h)(hs:Sm No w w'):jH w B g v (h,c) (.returned (.int .i64 c)) w':=
 ⟨v,rfl,hI.no hs,hs.any _,Or.inl rfl⟩
def iZ:ah:=[72,84,84,80,47]
theorem rX{l:ah}(h:¬l.length=8):fg l=(400,0):=by
 unfold fg;split
 ·exact absurd rfl h
 ·rfl
theorem AK{l:ah}(h:l.length=8):fg l=if l.take 5=iZ∧l[6]=46 then (if lV l[5]=true∧lV l[7]=true then (if l[5]=49 then ((0:Int),l[7]) else (505,0)) else (400,0)) else (400,0):=by
 match l,h with
 |[a,b,c,d,e,f,g,i],_=>
  show fg [a,b,c,d,e,f,g,i]=if [a,b,c,d,e]=iZ∧g=46 then (if lV f=true∧lV i=true then (if f=49 then ((0:Int),i) else (505,0)) else (400,0)) else (400,0);by_cases hh:[a,b,c,d,e]=iZ∧g=46
  ·rw [if_pos hh];obtain⟨h1,rfl⟩:=hh;injection h1 with h1 h2;injection h2 with h2 h3;injection h3 with h3 h4;injection h4 with h4 h5;injection h5 with h5 _;subst h1 h2 h3 h4 h5;rfl
  ·rw [if_neg hh];unfold fg;split
   ·rename_i e1
    injection e1 with e1 e2;injection e2 with e2 e3;injection e3 with e3 e4;injection e4 with e4 e5;injection e5 with e5 e6;injection e6 with e6 e7;injection e7 with e7 e8;subst e1 e2 e3 e4 e5 e7;exact absurd ⟨rfl,rfl⟩ hh
   ·rfl
theorem mr:∀ (l cur x:ah),x∈wD cur l→x.length≤cur.length+l.length
 |[],cur,x,h=>by cases h
 |c::l,cur,x,h=>by
  rw [wD] at h;rw [List.length_cons];split at h
  ·rcases List.mem_cons.1 h with rfl|h
   ·omega
   ·have:=mr l [] x h;simp at this;omega
  ·have:=mr l _ x h;rw [List.length_append] at this;simp at this;omega
theorem ru{s x:ah}(h:x∈mR s):x.length≤s.length+1:=by
 have:=mr _ _ _ h;simpa using this
theorem jL{h:Hd}{l:List ah}(hl:¬l.length=3):bH h l=(h,400):=by
 unfold bH;split
 ·exact absurd rfl hl
 ·rfl
theorem jO{h:Hd}{m s v:ah}(ht:bo m=false):bH h [m,s,v]=(h,400):=by
 unfold bH;dsimp only;rw [if_pos ht]
theorem gY{h:Hd}{m s v:ah}(ht:bo m=true)(hv:(fg v).1≠0):bH h [m,s,v]=(h,(fg v).1):=by
 unfold bH;dsimp only;rw [if_neg (by rw [ht];decide),if_pos hv]
theorem gV{h:Hd}{m s v:ah}(ht:bo m=true)(hv:(fg v).1=0):bH h [m,s,v]=match dJ m s with
 |(some t,_)=>(qT h m t (fg v).2,0)
 |(none,c)=>(h,if c=9 then 414 else 400):=by
 unfold bH;dsimp only;(rw [if_neg (by rw [ht];decide),if_neg (by rw [hv];decide)])<;>rfl
theorem EL{l:List ah}(h:l.length=3):∃ m s v,l=[m,s,v]:=by
 match l,h with
 |[m,s,v],_=>exact⟨m,s,v,rfl⟩
theorem zZ{m s:ah}{c:Int}(h:dJ m s=(none,c)):c=8∨c=9:=by
 unfold dJ at h;split at h
 ·injection h with _ h;exact Or.inr h.symm
 ·split at h
  ·split at h
   ·cases h
   ·injection h with _ h;exact Or.inl h.symm
  ·split at h
   ·cases h
   ·split at h
    ·split at h
     ·cases h
     ·injection h with _ h;exact Or.inl h.symm
    ·split at h
     ·injection h with _ h;exact Or.inl h.symm
     ·injection h with _ h;exact Or.inl h.symm
def GE(T:Option Tg × Int)(f:Int)(hB pB qB:ByteArray)(k:Int):Prop:=match T with
 |(some t,_)=>k=0∧f=t.form∧hB=⟨t.host.toArray⟩∧pB=⟨t.path.toArray⟩∧qB=⟨t.query.toArray⟩
 |(none,c)=>k=c
def G7(w:World)(f:Int)(hB pB qB:ByteArray)(k:Int)(pv ev:Value)(wx:World):Prop:=
 ∃ b,pv=.pointer (some ⟨b,0,none⟩)∧w.heap.size≤b∧Sm No w wx∧ev=.int .i64 k∧Bk wx b 170 #[.int .i64 f,.string hB,.string pB,.string qB]
theorem uo{h:Hd}{m s x:ah}(ht:bo m=true)(hv:(fg x).1=0){f k:Int}{hB pB qB:ByteArray}(hS:GE (dJ m s) f hB pB qB k)(hk:k≠0):bH h [m,s,x]=(h,if k=9 then 414 else 400):=by
 rw [gV ht hv]
 cases hT:dJ m s with
 |mk O c=>
  rw [hT] at hS
  cases O with
  |none=>have e:k=c:=hS;rw [e]
  |some t=>exact absurd hS.1 hk
theorem tV{h:Hd}{m s x:ah}(ht:bo m=true)(hv:(fg x).1=0){f:Int}{hB pB qB:ByteArray}(hS:GE (dJ m s) f hB pB qB 0):
 ∃ t:Tg,bH h [m,s,x]=(qT h m t (fg x).2,0)∧f=t.form∧hB=⟨t.host.toArray⟩∧pB=⟨t.path.toArray⟩∧qB=⟨t.query.toArray⟩:=by
 rw [gV ht hv]
 cases hT:dJ m s with
 |mk O c=>
  rw [hT] at hS
  cases O with
  |none=>have e:0=c:=hS;rcases zZ hT with h|h<;>omega
  |some t=>exact⟨t,rfl,hS.2⟩
theorem Sm.keep{S:Nat→Prop}{w w':World}(h:Sm S w w'){b o:Nat}(hb:b < w.heap.size)(hn:¬S b){v:Value}(hc:w.cell? ⟨b,o,none⟩=some v):w'.cell? ⟨b,o,none⟩=some v:=
 (World.cell?_of_block (w:=w) (a:=⟨b,o,none⟩) (h.block b hb hn)).trans hc
structure kP (h:Hd):Prop where
 len:h.fields.length≤24
 size:oq h.fields≤h.bytes
 bytes:h.bytes≤1024
 empty:h.empty≤4
 minor:h.minor=0∨h.minor=1
theorem kP.light{h:Hd}(o:kP h):fT h.fields:=⟨o.len,by have:=o.size;have:=o.bytes;omega⟩
theorem jb.bk{w:World}{B g:Nat}{v:Value}{h:Hd}(hI:jb w B g v h):Bk w g 349 #[v,.string ⟨h.method.toArray⟩,.int .i64 h.target.form,.string ⟨h.target.host.toArray⟩,.string ⟨h.target.path.toArray⟩,.string ⟨h.target.query.toArray⟩,.int .i64 h.minor,.int .i64 h.how.kind,.int .i64 h.how.len,.bool h.how.close,.bool h.how.expect,.bool h.started,.bool h.whole,.int .i64 h.status,.int .i64 (h.bytes:Nat),.int .i64 (h.empty:Nat)]:=hI.1
theorem jb.no{w w':World}{B g:Nat}{v:Value}{h:Hd}(hI:jb w B g v h)(hs:Sm No w w'):jb w' B g v h:=cu.no hI hs
theorem jb.of{w w':World}{B g:Nat}{v:Value}{h h':Hd}(hI:jb w B g v h)(hf:h'.fields=h.fields)(hs:Sm (fun x=>x=g) w w')(hb:Bk w' g 349 (v::pM h').toArray):jb w' B g v h':=
 ⟨hb,by rw [hf];exact ae hI.2.1 hs (fun b hb e=>hI.2.2 (by rw [hb,e])),hI.2.2⟩
theorem jH.one{w w':World}{B g:Nat}{v:Value}{h h':Hd}{c:Int}(hI:jb w B g v h)(hf:h'.fields=h.fields)(hs:Sm (fun x=>x=g) w w')(hb:Bk w' g 349 (v::pM h').toArray):jH w B g v (h',c) (.returned (.int .i64 c)) w':=
 ⟨v,rfl,hI.of hf hs hb,hs.mono (fun _ _ e=>Or.inl e),Or.inl rfl⟩
theorem jH.base{w w1 w':World}{B g:Nat}{v:Value}{p:Hd × Int}{e:Ending}(h:jH w1 B g v p e w')(hs:Sm (fun x=>x=g) w w1):jH w B g v p e w':=by
 obtain⟨v',h1,h2,h3,h4⟩:=h;refine⟨v',h1,h2,(hs.mono (fun _ _ e=>Or.inl e)).tt h3,?_⟩;rcases h4 with h4|⟨b,h4,h5⟩
 ·exact Or.inl h4
 ·exact Or.inr ⟨b,h4,Nat.le_trans hs.size h5⟩
theorem jb.more{w:World}{B g:Nat}{v:Value}{h:Hd}(hI:jb w B g v h)(n:Nat):jb (w.setCell ⟨g,14,none⟩ (.int .i64 ((h.bytes:Int)+(n:Int)+2))) B g v (h.more n):=by
 refine hI.of rfl ((Sm.refl _ w).set1 14 _) ((hI.bk.set 14 _).eq ?_);show _=(v::pM (h.more n)).toArray;rw [show (h.bytes:Int)+(n:Int)+2=((h.bytes+n+2:Nat):Int) by omega];rfl
theorem pd{l n v:ah}{e:Int}(h:bf l=(e,n,v)):n.length+v.length≤l.length:=by
 unfold bf at h;split at h
 ·injection h with _ h;injection h with h1 h2;subst h1 h2;simp
 ·split at h
  ·injection h with _ h;injection h with h1 h2;subst h1 h2;simp
  ·split at h
   ·injection h with _ h;injection h with h1 h2;rw [←h1,←h2];have:=iG (l.drop ((Lib.indexByte l 58).toNat+1));rw [List.length_drop] at this;rw [List.length_take];omega
   ·injection h with _ h;injection h with h1 h2;subst h1 h2;simp
theorem dQ.own{w:World}{B g:Nat}{v v':Value}{h:Hd}(hI:jb w B g v h)(hf:dQ w v v'):v'.ownBlock≠some g:=by
 rcases hf with e|⟨b,e,hb⟩
 ·rw [e];exact hI.2.2
 ·rw [e];intro h;injection h with h;have:=hI.1.lt;omega
section
variable {ops:Array Oper} {rest:List Oper} {o:Oper} {a:Act} {w:World} {Q:Exit→Act→World→Prop}
theorem eQ (hgd:o.guard=none) (s x:Operand) (ho:o.op=.call {callee:=.builtin .append,args:=#[s,x],argTypes:=#[34,34]})
 (c:UInt8) (v:Value) (l:ah) (hs:a.eval s=v) (hO:aG w 0 v l) (hx:a.eval x=.slice (some ⟨w.heap.size,0,none⟩) 1 1) (hl:l.length≤1000000)
 (h:∀ v' w',aG w' 0 v' (l++[c])→Sm (fun b=>v.ownBlock=some b) w w'→(∀ b,v'.ownBlock=some b→v.ownBlock=some b∨w.heap.size≤b)→wpList Tryz.prog ops Q rest (a.put o.dst v') w'):
 wpList Tryz.prog ops Q (o::rest) a (w.alloc (.cells #[.int .u8 c.toNat] 5)):=by
 refine aY hgd s x 34 5 ho Tryz.underlying34 _ 1 1 fC rfl (by decide) (by decide) 0 _ v _ hs (World.ownsRow.alloc hO _) w.heap.size #[.int .u8 c.toNat] hx (Bk.new w _ _) rfl (by simp [Value.oneCell']) hl (Nat.zero_le _) ?_;intro v' w' h1 h2 h3;refine h v' w' (aG.push h1 (n:=0) rfl) (((Sm.refl _ w).alloc _).tt h2) (fun b e=> ?_);rcases h3 with h3|h3
 ·exact Or.inl (by rw [←h3];exact e)
 ·rw [h3] at e;injection e with e;right;rw [←e];simp
end
def be(O:Nat→Prop)(w w':World):Nat→Prop:=fun x=>O x∨(w.heap.size≤x∧x < w'.heap.size)
def dG.st:dG→Int
 | .size _=>0
 | .data _=>1
 | .tail _=>2
 | .trail _ _ _=>3
def dG.line:dG→ah
 | .size l=>l
 | .data _=>[]
 | .tail k=>[13].take k
 | .trail l _ _=>l
def dG.ends:dG→Nat
 | .trail _ e _=>e
 |_=>0
def dG.ts:dG→List aM
 | .trail _ _ ts=>ts
 |_=>[]
def dG.leftOk:dG→Int→Prop
 | .data n,left=>left=n
 |_,_=>True
structure ia (w:World) (O:Nat→Prop) (g:Nat) (vB vT vL:Value) (wh:Bool) (sta left:Int) (b:ah) (st:Int) (L:ah) (ends:Int) (ts:List aM):Prop where
 bk:Bk w g 351 #[vB,vT,.bool wh,.int .i64 sta,.int .i64 st,vL,.int .i64 left,.int .i64 ends]
 body:aG w 0 vB b
 line:aG w 0 vL L
 trail:w.ownsRow 0 143 2 vT ts.length (av ts)
 apart:∀ x,vB.ownBlock=some x→vL.ownBlock≠some x
 og:O g
 ob:∀ x,vB.ownBlock=some x→O x
 ol:∀ x,vL.ownBlock=some x→O x
 ot:∀ x,vT.ownBlock=some x→O x
 lt:∀ x,O x→x < w.heap.size
section
variable {w w' w5:World} {O S:Nat→Prop} {g:Nat} {vB vT vL vB' vL' v':Value} {wh wh':Bool} {sta left sta' left' st st' ends ends':Int} {b L L':ah} {ts:List aM} {c:UInt8}
theorem ia.sm(h:ia w O g vB vT vL wh sta left b st L ends ts)(hs:Sm S w w')(hS:∀ x,O x→¬S x):ia w' O g vB vT vL wh sta left b st L ends ts:=
 ⟨h.bk.sm hs (hS g h.og),ae h.body hs (fun x e=>hS x (h.ob x e)),ae h.line hs (fun x e=>hS x (h.ol x e)),ae h.trail hs (fun x e=>hS x (h.ot x e)),h.apart,h.og,h.ob,h.ol,h.ot,fun x hx=>Nat.lt_of_lt_of_le (h.lt x hx) hs.size⟩
theorem ia.no(h:ia w O g vB vT vL wh sta left b st L ends ts)(hs:Sm No w w'):ia w' O g vB vT vL wh sta left b st L ends ts:=h.sm hs (fun _ _ e=>e)
theorem be.lt(h:∀ x,O x→x < w.heap.size)(hs:w.heap.size≤w'.heap.size):∀ x,be O w w' x→x < w'.heap.size:=by
 rintro x (e|⟨_,e⟩)
 ·exact Nat.lt_of_lt_of_le (h x e) hs
 ·exact e
theorem ia.neB(h:ia w O g vB vT vL wh sta left b st L ends ts):vB.ownBlock≠some g:=am h.body h.bk (by decide)
theorem ia.neL(h:ia w O g vB vT vL wh sta left b st L ends ts):vL.ownBlock≠some g:=am h.line h.bk (by decide)
theorem ia.neT(h:ia w O g vB vT vL wh sta left b st L ends ts):vT.ownBlock≠some g:=am h.trail h.bk (by decide)
theorem aG.nil(w:World)(B:Nat):aG w B (.slice none 0 0) []:=World.ownsRow_nil _ _ _ _
theorem ia.upd (h:ia w O g vB vT vL wh sta left b st L ends ts) (hs:Sm (fun x=>x=g) w w') (hb:Bk w' g 351 #[vB,vT,.bool wh',.int .i64 sta',.int .i64 st',vL',.int .i64 left',.int .i64 ends'])
 (hL:(vL'=vL∧L'=L)∨(vL'=.slice none 0 0∧L'=[])):ia w' (be O w w') g vB vT vL' wh' sta' left' b st' L' ends' ts∧Sm O w w':=by
 have n1:=h.neB;have n2:=h.neL;have n3:=h.neT;have lt:=be.lt h.lt hs.size;refine⟨?_,hs.mono (fun x _ e=>e ▸ h.og)⟩;have k1:∀ v:Value,v.ownBlock≠some g→∀ x,v.ownBlock=some x→¬(x=g):=fun v hv x e e2=>hv (e2 ▸ e);rcases hL with ⟨rfl,rfl⟩|⟨rfl,rfl⟩
 ·exact⟨hb,ae h.body hs (k1 _ n1),ae h.line hs (k1 _ n2),ae h.trail hs (k1 _ n3),h.apart,Or.inl h.og,fun x e=>Or.inl (h.ob x e),fun x e=>Or.inl (h.ol x e),fun x e=>Or.inl (h.ot x e),lt⟩
 ·exact⟨hb,ae h.body hs (k1 _ n1),aG.nil _ _,ae h.trail hs (k1 _ n3),fun x _ e=>(by cases e),Or.inl h.og,fun x e=>Or.inl (h.ob x e),fun x e=>(by cases e),fun x e=>Or.inl (h.ot x e),lt⟩
theorem ia.putB (h:ia w O g vB vT vL wh sta left b st L ends ts) (hO:aG w5 0 v' (b++[c])) (hs5:Sm (fun x=>vB.ownBlock=some x) w w5) (hv:∀ x,v'.ownBlock=some x→vB.ownBlock=some x∨w.heap.size≤x)
 (hs:Sm (fun x=>x=g) w5 w') (hb:Bk w' g 351 #[v',vT,.bool wh',.int .i64 sta',.int .i64 st',vL',.int .i64 left',.int .i64 ends'])
 (hL:(vL'=vL∧L'=L)∨(vL'=.slice none 0 0∧L'=[])):ia w' (be O w w') g v' vT vL' wh' sta' left' (b++[c]) st' L' ends' ts∧Sm O w w':=by
 have n1:=h.neB;have n2:=h.neL;have n3:=h.neT;have hgl:=h.bk.lt;have hbg5:=h.bk.sm hs5 n1;have n4:v'.ownBlock≠some g:=am hO hbg5 (by decide);have lt:=be.lt h.lt (Nat.le_trans hs5.size hs.size);have k1:∀ v:Value,v.ownBlock≠some g→∀ x,v.ownBlock=some x→¬(x=g):=fun v hv x e e2=>hv (e2 ▸ e);have kT:∀ x,vT.ownBlock=some x→¬(vB.ownBlock=some x):=fun x e e2=>by
  obtain⟨c1,h1⟩:=az h.trail e;obtain⟨c2,h2⟩:=az h.body e2;rw [h1] at h2;injection h2 with h2;injection h2 with _ h2;exact absurd h2 (by decide)
 have hw:Sm O w w':=(hs5.mono (fun x _ e=>h.ob x e)).trans hs (fun x _ e=>e ▸ h.og);have own:∀ x,v'.ownBlock=some x→x < w'.heap.size:=fun x e=>Nat.lt_of_lt_of_le (World.ownsRow.lt hO x e).2 hs.size;have ob':∀ x,v'.ownBlock=some x→be O w w' x:=fun x e=>(hv x e).elim (fun e2=>Or.inl (h.ob x e2)) (fun e2=>Or.inr ⟨e2,own x e⟩);refine⟨?_,hw⟩;rcases hL with ⟨rfl,rfl⟩|⟨rfl,rfl⟩
 ·refine⟨hb,ae hO hs (k1 _ n4),ae (ae h.line hs5 (fun x e e2=>h.apart x e2 e)) hs (k1 _ n2),ae (ae h.trail hs5 kT) hs (k1 _ n3),fun x e e2=> ?_,Or.inl h.og,ob',fun x e=>Or.inl (h.ol x e),fun x e=>Or.inl (h.ot x e),lt⟩;rcases hv x e with e3|e3
  ·exact h.apart x e3 e2
  ·have:=(World.ownsRow.lt h.line x e2).2;omega
 ·exact⟨hb,ae hO hs (k1 _ n4),aG.nil _ _,ae (ae h.trail hs5 kT) hs (k1 _ n3),fun x _ e=>(by cases e),Or.inl h.og,ob',fun x e=>(by cases e),fun x e=>Or.inl (h.ot x e),lt⟩
theorem ia.putL (h:ia w O g vB vT vL wh sta left b st L ends ts) (hO:aG w5 0 v' (L++[c])) (hs5:Sm (fun x=>vL.ownBlock=some x) w w5) (hv:∀ x,v'.ownBlock=some x→vL.ownBlock=some x∨w.heap.size≤x)
 (hs:Sm (fun x=>x=g) w5 w') (hb:Bk w' g 351 #[vB,vT,.bool wh',.int .i64 sta',.int .i64 st',vL',.int .i64 left',.int .i64 ends'])
 (hL:(vL'=v'∧L'=L++[c])∨(vL'=.slice none 0 0∧L'=[])):ia w' (be O w w') g vB vT vL' wh' sta' left' b st' L' ends' ts∧Sm O w w':=by
 have n1:=h.neB;have n2:=h.neL;have n3:=h.neT;have hbg5:=h.bk.sm hs5 n2;have n4:v'.ownBlock≠some g:=am hO hbg5 (by decide);have lt:=be.lt h.lt (Nat.le_trans hs5.size hs.size);have k1:∀ v:Value,v.ownBlock≠some g→∀ x,v.ownBlock=some x→¬(x=g):=fun v hv x e e2=>hv (e2 ▸ e);have kT:∀ x,vT.ownBlock=some x→¬(vL.ownBlock=some x):=fun x e e2=>by
  obtain⟨c1,h1⟩:=az h.trail e;obtain⟨c2,h2⟩:=az h.line e2;rw [h1] at h2;injection h2 with h2;injection h2 with _ h2;exact absurd h2 (by decide)
 have hw:Sm O w w':=(hs5.mono (fun x _ e=>h.ol x e)).trans hs (fun x _ e=>e ▸ h.og);have own:∀ x,v'.ownBlock=some x→x < w'.heap.size:=fun x e=>Nat.lt_of_lt_of_le (World.ownsRow.lt hO x e).2 hs.size;have ol':∀ x,v'.ownBlock=some x→be O w w' x:=fun x e=>(hv x e).elim (fun e2=>Or.inl (h.ol x e2)) (fun e2=>Or.inr ⟨e2,own x e⟩);refine⟨?_,hw⟩;rcases hL with ⟨rfl,rfl⟩|⟨rfl,rfl⟩
 ·refine⟨hb,ae (ae h.body hs5 (fun x e e2=>h.apart x e e2)) hs (k1 _ n1),ae hO hs (k1 _ n4),ae (ae h.trail hs5 kT) hs (k1 _ n3),fun x e e2=> ?_,Or.inl h.og,fun x e=>Or.inl (h.ob x e),ol',fun x e=>Or.inl (h.ot x e),lt⟩;rcases hv x e2 with e3|e3
  ·exact h.apart x e e3
  ·have:=(World.ownsRow.lt h.body x e).2;omega
 ·exact⟨hb,ae (ae h.body hs5 (fun x e e2=>h.apart x e e2)) hs (k1 _ n1),aG.nil _ _,ae (ae h.trail hs5 kT) hs (k1 _ n3),fun x _ e=>(by cases e),Or.inl h.og,fun x e=>Or.inl (h.ob x e),fun x e=>(by cases e),fun x e=>Or.inl (h.ot x e),lt⟩
end
def xh(w:World)(O:Nat→Prop)(g:Nat)(vB:Value):eW→Prop
 | .at b p=>∃ vT vL left,ia w O g vB vT vL false 0 left b p.st p.line p.ends p.ts∧p.leftOk left
 | .whole b=>∃ vT vL left st L ends ts,ia w O g vB vT vL true 0 left b st L ends ts
 | .bad s=>∃ vT vL left b st L ends ts,ia w O g vB vT vL false s left b st L ends ts
def iK(w:World)(O:Nat→Prop)(g:Nat)(q:eW)(e:Ending)(w':World):Prop:=
 ∃ vB,e=.returned (.tuple #[])∧xh w' (be O w w') g vB q∧Sm O w w'
theorem wS(l:ah)(h:l.length≤6):0≤(fK l).1∧(fK l).1≤16777216:=by
 unfold fK fL;split
 ·decide
 ·split
  ·rename_i n hn
   obtain⟨a,b⟩:=mm (Or.inr rfl) (k:=0) hn (by decide) (by decide);refine⟨a,?_⟩;have:(16:Int) ^ (0+l.length)≤16 ^ 6:=by exact_mod_cast Nat.pow_le_pow_right (by decide) (by omega)
   have e:(16:Int) ^ 6=16777216:=by decide
   show n≤_;omega
  ·decide
theorem oH{b s:ah}(h:(cC s).length < 1∨6 < (cC s).length):dM b s=.bad 400:=by unfold dM;rw [if_pos h]
theorem yk{b s:ah}(h:¬((cC s).length < 1∨6 < (cC s).length))(h2:cc (s.drop (cC s).length)=none):dM b s=.bad 400:=by unfold dM;rw [if_neg h,if_pos h2]
theorem yR{b s:ah}(h:¬((cC s).length < 1∨6 < (cC s).length))(h2:cc (s.drop (cC s).length)≠none):dM b s=
 if 2048 < (b.length:Int)+(fK (cC s)).1 then .bad 413 else if (fK (cC s)).1=0 then .at b (.trail [] 0 []) else .at b (.data (fK (cC s)).1.toNat):=by unfold dM;rw [if_neg h,if_neg h2]
theorem ia.mono {w w3 w':World} {O:Nat→Prop} {g:Nat} {vB vT vL vB' vT' vL':Value} {wh wh':Bool} {sta left sta' left' st st' ends ends':Int} {b b' L L':ah} {ts ts':List aM}
 (h:ia w' (be O w3 w') g vB' vT' vL' wh' sta' left' b' st' L' ends' ts') (hs:Sm No w w3) (_:ia w O g vB vT vL wh sta left b st L ends ts):ia w' (be O w w') g vB' vT' vL' wh' sta' left' b' st' L' ends' ts':=by
 have k:∀ x,be O w3 w' x→be O w w' x:=fun x e=>e.elim Or.inl (fun e=>Or.inr ⟨Nat.le_trans hs.size e.1,e.2⟩);have lt:∀ x,be O w w' x→x < w'.heap.size:=by
  rintro x (e|⟨_,e⟩)
  ·exact h.lt x (Or.inl e)
  ·exact e
 exact⟨h.bk,h.body,h.line,h.trail,h.apart,k _ h.og,fun x e=>k x (h.ob x e),fun x e=>k x (h.ol x e),fun x e=>k x (h.ot x e),lt⟩
section
variable {w w' w5:World} {O:Nat→Prop} {g:Nat} {vB vT vL v':Value} {wh wh':Bool} {sta left sta' left' st st' ends ends':Int} {b L:ah} {ts:List aM} {x:aM}
theorem ia.putT (h:ia w O g vB vT vL wh sta left b st L ends ts) (hO:w5.ownsRow 0 143 2 v' (ts++[x]).length (av (ts++[x]))) (hs5:Sm (fun x=>vT.ownBlock=some x) w w5) (hv:∀ x,v'.ownBlock=some x→vT.ownBlock=some x∨w.heap.size≤x)
 (hs:Sm (fun x=>x=g) w5 w') (hb:Bk w' g 351 #[vB,v',.bool wh',.int .i64 sta',.int .i64 st',vL,.int .i64 left',.int .i64 ends']):
 ia w' (be O w w') g vB v' vL wh' sta' left' b st' L ends' (ts++[x])∧Sm O w w':=by
 have n1:=h.neB;have n2:=h.neL;have n3:=h.neT;have hbg5:=h.bk.sm hs5 n3;have n4:v'.ownBlock≠some g:=am hO hbg5 (by decide);have lt:=be.lt h.lt (Nat.le_trans hs5.size hs.size);have k1:∀ v:Value,v.ownBlock≠some g→∀ x,v.ownBlock=some x→¬(x=g):=fun v hv x e e2=>hv (e2 ▸ e);have kT:∀ (v:Value) (l:ah),aG w 0 v l→∀ x,v.ownBlock=some x→¬(vT.ownBlock=some x):=fun v l hl x e2 e=>by
  obtain⟨c1,h1⟩:=az h.trail e;obtain⟨c2,h2⟩:=az hl e2;rw [h1] at h2;injection h2 with h2;injection h2 with _ h2;exact absurd h2 (by decide)
 have hw:Sm O w w':=(hs5.mono (fun x _ e=>h.ot x e)).trans hs (fun x _ e=>e ▸ h.og);have own:∀ x,v'.ownBlock=some x→x < w'.heap.size:=fun x e=>Nat.lt_of_lt_of_le (World.ownsRow.lt hO x e).2 hs.size;refine⟨⟨hb,ae (ae h.body hs5 (kT _ _ h.body)) hs (k1 _ n1),ae (ae h.line hs5 (kT _ _ h.line)) hs (k1 _ n2),ae hO hs (k1 _ n4),h.apart,Or.inl h.og,fun x e=>Or.inl (h.ob x e),fun x e=>Or.inl (h.ol x e),fun x e=> ?_,lt⟩,hw⟩;exact(hv x e).elim (fun e2=>Or.inl (h.ot x e2)) (fun e2=>Or.inr ⟨e2,own x e⟩)
end
theorem Sm.up{O:Nat→Prop}{w w4 w':World}(h:Sm O w w4)(k:Sm (be O w w4) w4 w'):Sm O w w':=h.trans k (fun x hx e=>e.elim id (fun e=>absurd hx (by omega)))
theorem be.up{O:Nat→Prop}{w w4 w':World}(h:w.heap.size≤w4.heap.size)(h2:w4.heap.size≤w'.heap.size)(x:Nat)(e:be (be O w w4) w4 w' x):be O w w' x:=by
 rcases e with (e|⟨e1,e2⟩)|⟨e1,e2⟩
 ·exact Or.inl e
 ·exact Or.inr ⟨e1,by omega⟩
 ·exact Or.inr ⟨by omega,e2⟩
theorem ia.imp {w:World} {O O2:Nat→Prop} {g:Nat} {vB vT vL:Value} {wh:Bool} {sta left st ends:Int} {b L:ah} {ts:List aM}
 (h:ia w O g vB vT vL wh sta left b st L ends ts) (k:∀ x,O x→O2 x) (lt:∀ x,O2 x→x < w.heap.size):ia w O2 g vB vT vL wh sta left b st L ends ts:=
 ⟨h.bk,h.body,h.line,h.trail,h.apart,k _ h.og,fun x e=>k x (h.ob x e),fun x e=>k x (h.ol x e),fun x e=>k x (h.ot x e),lt⟩
theorem ia.up{w w4 w':World}{O:Nat→Prop}{g:Nat}{vB vT vL:Value}{wh:Bool}{sta left st ends:Int}{b L:ah}{ts:List aM}(h:ia w' (be (be O w w4) w4 w') g vB vT vL wh sta left b st L ends ts)(hO:∀ x,O x→x < w.heap.size)(h1:w.heap.size≤w4.heap.size)(h2:w4.heap.size≤w'.heap.size):
 ia w' (be O w w') g vB vT vL wh sta left b st L ends ts:=h.imp (be.up h1 h2) (be.lt hO (Nat.le_trans h1 h2))
theorem uH{b s:ah}{e:Nat}{ts:List aM}(h0:s≠[])(h:(bf s).1≠0):cM b s e ts=.bad 400:=by unfold cM;rw [if_neg h0,if_pos h]
theorem tz{b s:ah}{e:Nat}{ts:List aM}(h0:s≠[])(h:(bf s).1=0)(h2:ts.length=8∨512 < e+s.length+2):cM b s e ts=.bad 431:=by unfold cM;rw [if_neg h0,if_neg (by rw [h];decide),if_pos h2]
theorem vc{b s:ah}{e:Nat}{ts:List aM}(h0:s≠[])(h:(bf s).1=0)(h2:¬(ts.length=8∨512 < e+s.length+2)):cM b s e ts=.at b (.trail [] (e+s.length+2) (ts++[(⟨(bf s).2.1.toArray⟩,⟨(bf s).2.2.toArray⟩)])):=by unfold cM;rw [if_neg h0,if_neg (by rw [h];decide),if_neg h2]
theorem aG.slice{w:World}{B:Nat}{v:Value}{l:ah}(h:aG w B v l):∃ A c,v=.slice A l.length c∧ax w A (l.map aU)∧l.length≤c∧(A=none→c=0):=au h
theorem iK.bad{w w':World}{O:Nat→Prop}{g:Nat}{vB vT vL:Value}{left st ends:Int}{b L:ah}{ts:List aM}{c:Int}(h:ia w O g vB vT vL false 0 left b st L ends ts)(hs:Sm No w w'):
 iK w O g (.bad c) (.returned (.tuple #[])) (w'.setCell ⟨g,3,none⟩ (.int .i64 c)):=by
 have h2:=(h.no hs).upd ((Sm.refl _ w').set1 3 (.int .i64 c)) (((h.no hs).bk.set 3 _).eq rfl) (Or.inl ⟨rfl,rfl⟩);exact⟨vB,rfl,⟨_,_,_,_,_,_,_,_,h2.1.mono hs h⟩,(hs.any _).tt h2.2⟩
theorem xh.after{w w1 w2:World}{O:Nat→Prop}{g:Nat}{vB:Value}{q:eW}(h:xh w1 (be O w w1) g vB q)(hO:∀ x,O x→x < w.heap.size)(h1:w.heap.size≤w1.heap.size)(hs:Sm No w1 w2):xh w2 (be O w w2) g vB q:=by
 have k:∀ x,be O w w1 x→be O w w2 x:=fun x e=>e.elim Or.inl (fun e=>Or.inr ⟨e.1,Nat.lt_of_lt_of_le e.2 hs.size⟩);have lt:=be.lt hO (Nat.le_trans h1 hs.size)
 cases q with
 |«at» b p=>obtain⟨a,b,c,h,d⟩:=h;exact⟨a,b,c,(h.no hs).imp k lt,d⟩
 |whole b=>obtain⟨a1,a2,a3,a4,a5,a6,a7,h⟩:=h;exact⟨a1,a2,a3,a4,a5,a6,a7,(h.no hs).imp k lt⟩
 |bad s=>obtain⟨a1,a2,a3,a4,a5,a6,a7,a8,h⟩:=h;exact⟨a1,a2,a3,a4,a5,a6,a7,a8,(h.no hs).imp k lt⟩
theorem iK.after{w w1 w2:World}{O:Nat→Prop}{g:Nat}{q:eW}{e:Ending}(h:iK w O g q e w1)(hO:∀ x,O x→x < w.heap.size)(hs:Sm No w1 w2):iK w O g q e w2:=by
 obtain⟨vB,h1,h2,h3⟩:=h;exact⟨vB,h1,h2.after hO h3.size hs,h3.trans hs (fun _ _ e=>e.elim)⟩
theorem xh.up{w w1 w2:World}{O:Nat→Prop}{g:Nat}{vB:Value}{q:eW}(h:xh w2 (be (be O w w1) w1 w2) g vB q)(hO:∀ x,O x→x < w.heap.size)(h1:w.heap.size≤w1.heap.size)(h2:w1.heap.size≤w2.heap.size):xh w2 (be O w w2) g vB q:=by
 cases q with
 |«at» b p=>obtain⟨a,b,c,h,d⟩:=h;exact⟨a,b,c,h.up hO h1 h2,d⟩
 |whole b=>obtain⟨a1,a2,a3,a4,a5,a6,a7,h⟩:=h;exact⟨a1,a2,a3,a4,a5,a6,a7,h.up hO h1 h2⟩
 |bad s=>obtain⟨a1,a2,a3,a4,a5,a6,a7,a8,h⟩:=h;exact⟨a1,a2,a3,a4,a5,a6,a7,a8,h.up hO h1 h2⟩
theorem iK.up{w w1 w2:World}{O:Nat→Prop}{g:Nat}{q:eW}{e:Ending}(h:iK w1 (be O w w1) g q e w2)(hO:∀ x,O x→x < w.heap.size)(hs:Sm O w w1):iK w O g q e w2:=by
 obtain⟨vB,h1,h2,h3⟩:=h;exact⟨vB,h1,h2.up hO hs.size h3.size,hs.up h3⟩
theorem By.pre{w:World}{g:Nat}{l:ah}(h:By w g l)(n:Nat):By w g (l.take n):=⟨h.1,fun j c hj=>h.2 j c (by
 rw [List.getElem?_take] at hj;split at hj
 ·exact hj
 ·cases hj)⟩
theorem ma{w:World}{B g cap:Nat}{l:ah}(h:aG w B (.slice (some ⟨g,0,none⟩) l.length cap) l):l.length≤cap:=by
 obtain⟨A,c,hv,_,hc,_⟩:=au h;injection hv with _ _ hv;omega
end Go.Proofs.YtadcjgopaadfjaaGreatDoor
