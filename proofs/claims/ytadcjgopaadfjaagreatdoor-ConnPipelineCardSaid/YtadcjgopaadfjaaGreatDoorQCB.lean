import Derived.Test.YtadcjgopaadfjaaGreatDoorQOR
import Derived.Test.YtadcjgopaadfjaaGreatDoorQPF
import Derived.Test.YtadcjgopaadfjaaGreatDoorQGA
import Derived.Test.YtadcjgopaadfjaaGreatDoorQCA
import Derived.Test.YtadcjgopaadfjaaGreatDoorQPH
import Derived.Test.YtadcjgopaadfjaaGreatDoorQRQ
import Derived.Test.YtadcjgopaadfjaaGreatDoorQA
import Derived.Deep.RegionHeld3
import Derived.Test.YtadcjgopaadfjaaGreatDoorQZ
set_option maxHeartbeats 16000000
set_option maxRecDepth 100000
namespace Go.Proofs.YtadcjgopaadfjaaGreatDoor
open Go.RowKit Go.Proofs
def cP.waits:cP→Bool
 | .len h b=>h.how.expect&&b.isEmpty
 | .chunk h b p=>h.how.expect&&fw b p
 |_=>false
structure Cn where
 r:ah
 p:cP
 b:ah
 ps:List (Nat × Nat)
 last:Nat
 phase:Int
 since:Int
 paced:Int
 fed:Int
 quitting:Bool
 ending:Bool
 ended:Bool
 closed:Bool
 word:Bool
 words:List Nat
 taken:Nat
 laid:Nat
 whole:Nat
 told:Nat
def Cn.new(now:Int):Cn:=⟨[],.idle,[],[],0,0,now,now,0,false,false,false,false,false,[],0,0,0,0⟩
structure Kn where
 C:ug
 T:List br
 n:Nat
def Cn.state(s:Cn):Int:=if s.closed=true then 5 else if (s.ending&&s.b.isEmpty)=true then 4 else if s.b.isEmpty=false then 3 else min s.p.phase 2
def fD(K:Kn)(s:Cn):Bool:= !s.ending&&(decide (s.p.phase < 3)&&(decide ((s.ps.length:Int) < K.C.pipeline)&& !s.r.isEmpty))
def Cn.add(s:Cn)(t:ah):Cn:= {s with b:=s.b++t,ps:=s.ps++[(s.last+1,t.length)],last:=s.last+1}
def Cn.lay(s:Cn)(t:ah)(e:Bool):Cn:= {s.add t with laid:=s.laid+1,ending:=s.ending||e}
def Cn.feed(s:Cn):Cn:= {s with p:=(aS s.p s.r).1,r:=s.r.drop (aS s.p s.r).2,fed:=s.fed+(aS s.p s.r).2}
def Cn.take(K:Kn)(s:Cn)(h:Hd)(b:ah):Cn:=Cn.lay {s with p:=.idle,taken:=s.taken+1,word:=false} (Ax K.T s.quitting (h,b)) (h.how.close||s.quitting)
def Cn.say(s:Cn):Cn:= {s.add ic with word:=true,words:=(s.last+1)::s.words}
def xe(K:Kn)(s:Cn):Option Cn:=
 if fD K s=true then some s.feed else
 if s.ending=true then none else
 match s.p with
 | .whole h b=>some (s.take K h b)
 | .bad st=>some (s.lay (BW st) true)
 |p=>if (p.waits&&(s.r.isEmpty&& !s.word))=true then some s.say else none
def Gj(K:Kn)(s:Cn):Bool:=decide (s.b.length≤100000)&&(decide (s.ps.length≤1000)&&(decide (s.last≤100000)&&(decide (s.taken≤100000)&&(decide (s.laid≤100000)&&(decide (-1000000000≤s.fed)&&(decide (s.fed≤1000000000)&&(match s.p with
 | .whole h b=>(co K.T (CA (h,b))).parts.isEmpty
 | .bad st=>decide (200≤st)&&decide (st≤599)
 |_=>true)))))))
def Cn.fin(s:Cn):Cn:=if (!s.b.isEmpty||s.closed)=true then s else {s with closed:=s.ended||(s.quitting&&(!s.ending&&(decide (s.p.phase=0)&&s.r.isEmpty)))}
def mP(K:Kn):Nat→Cn→Option Cn
 |0,_=>none
 |k+1,s=>if s.closed=true then some s.fin else if Gj K s=false then none else match xe K s with
  |none=>some s.fin
  |some s'=>mP K k s'
def bY:Nat:=40000
def lp(K:Kn)(s:Cn):Option Cn:=mP K bY s
def Cn.turn(now phase:Int)(told:Nat)(s:Cn):Cn:=
 if s.state≠phase∨(s.state=3∧s.told≠told) then {s with phase:=s.state,since:=now,paced:=now,fed:=0} else {s with phase:=s.state}
def ET(K:Kn)(now:Int)(f:Cn→Option Cn)(s:Cn):Option Cn:=match f s with
 |none=>none
 |some s1=>match lp K s1 with
  |none=>none
  |some s2=>some (s2.turn now s.phase s.told)
def Cn.write(K:Kn)(s:Cn)(t:ah):Cn:= {s with r:=s.r++t.take (K.n-s.r.length)}
def kt(K:Kn):Nat→Cn→ah→Option (Cn × Nat)
 |0,_,_=>none
 |j+1,s,t=>match lp K (s.write K t) with
  |none=>none
  |some s1=>if (s1.ending||s1.closed)=true then some (s1,t.length) else
   if min t.length (K.n-s.r.length)=0∨min t.length (K.n-s.r.length)=t.length then some (s1,min t.length (K.n-s.r.length)) else
   match kt K j s1 (t.drop (K.n-s.r.length)) with
   |none=>none
   |some (s2,n)=>some (s2,min t.length (K.n-s.r.length)+n)
def rM(K:Kn)(s:Cn)(t:ah)(now:Int):Option (Cn × Nat):=
 if (s.ending||(s.ended||s.closed))=true then some (s,t.length) else
 match kt K bY s t with
 |none=>none
 |some (s1,n)=>match ET K now (fun _=>some s1) s with
  |none=>none
  |some s2=>some (s2,n)
def JY(K:Kn)(s:Cn)(now:Int):Option Cn:=if s.closed=true then some s else ET K now (fun s=>some {s with ended:=true}) s
def ff:List (Nat × Nat)→Nat→List Nat × List (Nat × Nat)
 |[],_=>([],[])
 |(k,l)::ps,n=>if l≤n then (k::(ff ps (n-l)).1,(ff ps (n-l)).2) else ([],(k,l-n)::ps)
def Cn.tell(s:Cn)(k:Nat):Cn:=if s.words.contains k=true then {s with told:=s.told+1,words:=s.words.filter (fun j=>decide (j≠k))} else {s with told:=s.told+1,whole:=s.whole+1}
def E4(s:Cn)(n:Int):Nat:=(max 0 (min n s.b.length)).toNat
def Cn.done(s:Cn)(n:Int):Cn:=(ff s.ps (E4 s n)).1.foldl Cn.tell {s with b:=s.b.drop (E4 s n),ps:=(ff s.ps (E4 s n)).2}
def Ie(K:Kn)(s:Cn)(n now:Int):Option Cn:=if s.closed=true then some s else ET K now (fun s=>some (s.done n)) s
def eu(C:ug)(phase:Int):Int:=if phase=0 then C.idle else if phase=1 then C.head else if phase=2 then C.body else if phase=3 then C.write else C.linger
def ID(K:Kn)(s:Cn):Int:=if s.phase=2∧0 < K.C.pace then min (s.since+eu K.C s.phase) (s.paced+K.C.pace) else s.since+eu K.C s.phase
def Hk(K:Kn)(s:Cn)(code now:Int):Option Cn:=if (!s.ending&&(!s.closed&&(decide (200≤code)&&decide (code≤599))))=true then ET K now (fun s=>some (s.lay (BW code) true)) s else some s
def Iq(K:Kn)(s:Cn)(now:Int):Option Cn:=
 if s.closed=true∨now < ID K s then some s else
 if s.phase=1 then Hk K s 408 now else
 if s.phase=2 then (if s.since+K.C.body≤now∨s.fed < K.C.paceBytes then Hk K s 408 now else some {s with paced:=now,fed:=0}) else
 ET K now (fun s=>some {s with closed:=true}) s
def JA(K:Kn)(s:Cn)(now:Int):Option Cn:=if s.closed=true then some s else ET K now (fun s=>some {s with quitting:=true}) s
def IS(K:Kn)(s:Cn):Bool × Bool:=if s.closed=true then (false,false) else
 (!s.ended&&(s.ending||(decide (s.r.length < K.n)&&decide ((s.ps.length:Int) < K.C.pipeline))),!s.b.isEmpty)
def Iv(K:Kn)(s:Cn):Int:=if s.closed=true then 0 else if (s.ending||s.ended)=true then 256 else (K.n:Int)-s.r.length
theorem Ho:∀ (ps:List (Nat × Nat)) (n:Nat),(ff ps n).1.length+(ff ps n).2.length=ps.length
 |[],_=>rfl
 |(k,l)::ps,n=>by
  unfold ff;split
  ·have:=Ho ps (n-l);simp only [List.length_cons];omega
  ·simp
structure EP (ps:List (Nat × Nat)) (n:Nat) (k m:Nat):Prop where
 hk:k≤ps.length
 mn:m≤n
 e1:(ff ps n).1=(ps.take k).map (·.1)++(ff (ps.drop k) m).1
 e2:(ff ps n).2=(ff (ps.drop k) m).2
theorem EP.start(ps:List (Nat × Nat))(n:Nat):EP ps n 0 n:=⟨Nat.zero_le _,Nat.le_refl _,rfl,rfl⟩
theorem EP.step{ps:List (Nat × Nat)}{n k m:Nat}(h:EP ps n k m){x:Nat × Nat}(hx:ps[k]?=some x)(hl:x.2≤m):EP ps n (k+1) (m-x.2):=by
 have hk:=(List.getElem?_eq_some_iff.1 hx).1;have hd:ps.drop k=x::ps.drop (k+1):=by rw [List.drop_eq_getElem_cons hk];congr 1;exact(List.getElem?_eq_some_iff.1 hx).2
 obtain⟨_,e0,e1,e2⟩:=h;refine⟨hk,by omega,?_,?_⟩
 ·rw [e1,hd,List.take_add_one,hx,List.map_append];show _=(List.map (fun x=>x.1) (ps.take k)++[x.1])++_;rw [ff,if_pos hl,List.append_assoc];rfl
 ·rw [e2,hd,ff,if_pos hl]
theorem EP.stop{ps:List (Nat × Nat)}{n k m:Nat}(h:EP ps n k m){x:Nat × Nat}(hx:ps[k]?=some x)(hl:¬x.2≤m):(ff ps n).1=(ps.take k).map (·.1)∧(ff ps n).2=(x.1,x.2-m)::ps.drop (k+1):=by
 have hk:=(List.getElem?_eq_some_iff.1 hx).1;have hd:ps.drop k=x::ps.drop (k+1):=by rw [List.drop_eq_getElem_cons hk];congr 1;exact(List.getElem?_eq_some_iff.1 hx).2
 obtain⟨_,_,e1,e2⟩:=h;rw [e1,e2,hd,ff,if_neg hl];exact⟨List.append_nil _,rfl⟩
theorem EP.all{ps:List (Nat × Nat)}{n k m:Nat}(h:EP ps n k m)(hk:k=ps.length):(ff ps n).1=ps.map (·.1)∧(ff ps n).2=[]:=by
 obtain⟨_,_,e1,e2⟩:=h;rw [e1,e2,hk,List.drop_length,List.take_length,ff];exact⟨List.append_nil _,rfl⟩
def IP:Value→Nat
 | .slice _ n _=>n
 |_=>0
structure Gi (w0:World) (O:Nat→Prop) (g:Nat) (vB:Value) (nb:Nat) (bs:List Value) (ps:List (Nat × Nat)) (last n:Nat) (mv wv:Value) (wr:World) (k m:Nat) (vP:Value):Prop where
 r:EP ps n k m
 me:mv=.int .i64 (m:Int)
 bk:Bk wr g 84 #[vB,vP,.int .i64 (last:Int)]
 ob:aR wr 5 1 vB nb bs
 op:aR wr 89 2 vP (ps.length-k) (cY (ps.drop k))
 oo:∀ x,vP.ownBlock=some x→O x
 wh:wr.ownsRow w0.heap.size 3 1 wv k (kD (ps.take k))
 sm:Sm O w0 wr
def Fi(l:List Nat):List Value:=l.map fun (x:Nat)=>.int .i64 (x:Int)
def zA(a:Addr)(n c k size:Nat):Value:=.slice (if c=k then some a else some (a.add (k * size))) (n-k) (c-k)
theorem aR.drop{w:World}{t:TypeId}{size n k:Nat}{a:Addr}{c:Nat}{xs:List Value}(h:aR w t size (.slice (some a) n c) n xs)(hk:k≤n):aR w t size (zA a n c k size) (n-k) (xs.drop (k * size))∧∀ x,(zA a n c k size).ownBlock=some x→x=a.block:=by
 rcases h.cells with ⟨e,_⟩|⟨g,off,cap,e,_⟩
 ·cases e
 ·injection e with e1 e2 e3;injection e1 with e1;subst e1 e3;unfold zA;by_cases hc:c=k
  ·rw [if_pos hc];obtain⟨h1,h2⟩:=h;rcases h2 with ⟨e,_⟩|⟨g',off',cap',cur,hv,hh,hc1,hmx,hcs,htk⟩
   ·cases e
   ·injection hv with e1 e2 e3;injection e1 with e1;injection e1 with e1 e4;subst e1 e3 e4;have hn:n=k:=by omega
    have hx:xs.drop (k * size)=[]:=List.drop_eq_nil_of_le (by rw [h1,hn];exact Nat.le_refl _);refine⟨⟨by rw [hx,hn,Nat.sub_self,Nat.zero_mul];rfl,Or.inr ⟨g,off,c-k,cur,rfl,hh,by omega,by omega,?_,by rw [hx,hn,Nat.sub_self,Nat.zero_mul,List.take_zero]⟩⟩,fun x e=> ?_⟩
    ·rw [hc,Nat.sub_self,Nat.zero_mul];omega
    ·injection e with e;exact e.symm
  ·rw [if_neg hc,jR];exact⟨h.cut k hk,fun x e=>by injection e with e;exact e.symm⟩
theorem Gi.next {w0 wr w6:World} {O:Nat→Prop} {g nb last n j m p q cap:Nat} {vB mv wv v6:Value} {bs:List Value} {ps:List (Nat × Nat)} {a:Addr} {o:Obj} (h:Gi w0 O g vB nb bs ps last n mv wv wr j m (.slice (some a) (ps.length-j) cap)) (hx:ps[j]?=some (p,q)) (hq:q≤m) (og:O g) (hlt:∀ x,O x→x < w0.heap.size)
 (hown:w6.ownsRow w0.heap.size 3 1 v6 (j+1) (kD (ps.take j)++[.int .i64 (p:Int)])) (hs6:Sm (fun b=>wv.ownBlock=some b) (wr.alloc o) w6):
 Gi w0 O g vB nb bs ps last n (.int .i64 ((m-q:Nat):Int)) v6 (w6.setCell ⟨g,1,none⟩ (zA a (ps.length-j) cap 1 2)) (j+1) (m-q) (zA a (ps.length-j) cap 1 2):=by
 have hjl:=(List.getElem?_eq_some_iff.1 hx).1;have hgw:g < w0.heap.size:=hlt g og;have hng:¬wv.ownBlock=some g:=fun e=>by have:=(World.ownsRow.lt h.wh _ e).1;omega
 have hsA:Sm (fun x=>x=g∨wv.ownBlock=some x) wr (w6.setCell ⟨g,1,none⟩ (zA a (ps.length-j) cap 1 2)):=
  Sm.setS (S:=fun x=>x=g∨wv.ownBlock=some x) (((Sm.refl _ wr).alloc o).trans hs6 (fun b _ e=>Or.inr e)) (Or.inl rfl) 1 _
 obtain⟨d1,d2⟩:=h.op.drop (k:=1) (by omega);refine⟨h.r.step hx hq,rfl,(((h.bk.alloc o).sm hs6 hng).set 1 _).eq rfl,?_,?_,fun x e=>by rw [d2 x e];exact h.oo _ rfl,?_,?_⟩
 ·exact h.ob.sm hsA (fun x e e2=>e2.elim (h.ob.ne_bk h.bk (by decide) x e) (h.ob.ne_own (aR.of h.wh) (by decide) x e))
 ·have e:(cY (ps.drop j)).drop (1 * 2)=cY (ps.drop (j+1)):=by rw [rd,List.drop_drop]
  rw [e,show ps.length-j-1=ps.length-(j+1) from by omega] at d1;exact d1.sm hsA (fun x e e2=>by
   rw [d2 x e] at e2;exact e2.elim (h.op.ne_bk h.bk (by decide) _ rfl) (h.op.ne_own (aR.of h.wh) (by decide) _ rfl))
 ·have e:kD (ps.take (j+1))=kD (ps.take j)++[.int .i64 (p:Int)]:=by unfold kD;rw [List.take_add_one,hx,List.map_append];rfl
  rw [e];exact ae hown ((Sm.refl _ w6).set1 1 _) (fun b e e2=>by have:=(World.ownsRow.lt hown _ e).1;omega)
 ·exact h.sm.trans hsA (fun b hb e=>e.elim (fun e=>e ▸ og) (fun e=>by have:=(World.ownsRow.lt h.wh _ e).1;omega))
theorem IL(g off n c:Nat):Value.slice (if c=1 then some ⟨g,off,none⟩ else some ⟨g,off+2,none⟩) (n-1) (c-1)=zA ⟨g,off,none⟩ n c 1 2:=by unfold zA;rw [jR]
theorem Bo(l:List (Nat × Nat)):Fi (l.map (·.1))=kD l:=by unfold Fi kD;rw [List.map_map];rfl
theorem Ik(b:ah)(k:Nat):(aL b).drop (k * 1)=aL (b.drop k):=by unfold aL;rw [Nat.mul_one,List.map_drop]
def BI(w0:World)(O:Nat→Prop)(g:Nat)(b:ah)(ps:List (Nat × Nat))(last n:Nat)(v:Value)(w':World):Prop:=
 w'.ownsRow w0.heap.size 3 1 v (ff ps n).1.length (Fi (ff ps n).1)∧eU w' O g b (ff ps n).2 last∧Sm O w0 w'
theorem Gi.stop{w0 wr:World}{O:Nat→Prop}{g g2 off last n j m p q cap:Nat}{vB mv wv:Value}{b:ah}{ps:List (Nat × Nat)}(h:Gi w0 O g vB b.length (aL b) ps last n mv wv wr j m (.slice (some ⟨g2,off,none⟩) (ps.length-j) cap))(hx:ps[j]?=some (p,q))(hq:¬q≤m)(og:O g)(hB:∀ x,vB.ownBlock=some x→O x):
 BI w0 O g b ps last n wv (wr.setCell ⟨g2,off+1,none⟩ (.int .i64 ((q-m:Nat):Int))):=by
 have hjl:=(List.getElem?_eq_some_iff.1 hx).1;obtain⟨e1,e2⟩:=h.r.stop hx hq;have hd:ps.drop j=(p,q)::ps.drop (j+1):=by rw [List.drop_eq_getElem_cons hjl];congr 1;exact(List.getElem?_eq_some_iff.1 hx).2
 have hs:Sm (fun x=>x=g2) wr (wr.setCell ⟨g2,off+1,none⟩ (.int .i64 ((q-m:Nat):Int))):=(Sm.refl _ wr).set1 _ _;have hg2:∀ x,x=g2→(Value.slice (some ⟨g2,off,none⟩) (ps.length-j) cap).ownBlock=some x:=fun x e=>by rw [e];rfl
 refine⟨?_,⟨vB,_,⟨h.bk.sm hs (fun e=>h.op.ne_bk h.bk (by decide) _ rfl e.symm),h.ob.sm hs (fun x e e2=>h.ob.ne_own h.op (by decide) x e (hg2 x e2)),?_⟩,og,hB,h.oo⟩,h.sm.trans hs (fun b _ e=>h.oo b (hg2 b e))⟩
 ·rw [e1,Bo,List.length_map,List.length_take,Nat.min_eq_left h.r.hk];exact ae h.wh hs (fun x e e2=>h.op.ne_own (aR.of h.wh) (by decide) x (hg2 x e2) e)
 ·have hset:=h.op.setAt 1 (by omega) (.int .i64 ((q-m:Nat):Int));rw [e2];rw [hd] at hset;have e3:ps.length-j=((p,q-m)::ps.drop (j+1)).length:=by rw [List.length_cons,List.length_drop];omega
  show aR _ _ 2 _ ((p,q-m)::ps.drop (j+1)).length (cY ((p,q-m)::ps.drop (j+1)));rw [←e3];exact hset
theorem Gi.all{w0 wr:World}{O:Nat→Prop}{g last n j m:Nat}{vB vP mv wv:Value}{b:ah}{ps:List (Nat × Nat)}(h:Gi w0 O g vB b.length (aL b) ps last n mv wv wr j m vP)(hj:j=ps.length)(og:O g)(hB:∀ x,vB.ownBlock=some x→O x):BI w0 O g b ps last n wv wr:=by
 obtain⟨e1,e2⟩:=h.r.all hj;have hop:=h.op;have hwh:=h.wh;rw [hj,Nat.sub_self,List.drop_length] at hop;rw [hj,List.take_length] at hwh;refine⟨?_,⟨vB,vP,⟨h.bk,h.ob,?_⟩,og,hB,h.oo⟩,h.sm⟩
 ·rw [e1,Bo,List.length_map];exact hwh
 ·rw [e2];exact hop
theorem Ig(w:World)(O:Nat→Prop)(g:Nat)(b:ah)(ps:List (Nat × Nat))(last:Nat)(n:Int)(h:eU w O g b ps last)(hO:∀ x,O x→x < w.heap.size)(hb0:b≠[])(hb:b.length≤1000000)(hp:ps.length≤100000)(hpn:∀ x∈ps,x.2≤1000000):
 Calls Tryz.prog 46 #[.pointer (some ⟨g,0,none⟩),.int .i64 n] w fun e w'=>∃ v,e=.returned v∧BI w O g (b.drop (pR b n)) ps last (pR b n) v w':=by
 obtain⟨vB,vP,hV,og,ob,op⟩:=h;obtain⟨A,c,rfl, -,hbc,hbn⟩:=hV.2.1.row;obtain⟨A2,c2,rfl, -,hpc, -⟩:=hV.2.2.row;have HF:=aa (rq w g A c _ b ps last n hV hbc);have hkl:=Ep b n;obtain⟨k,hk⟩:=ai (pR b n);rw [hk] at HF hkl ⊢;obtain⟨a,rfl⟩:∃ a,A=some a:=by
  cases A with
  |none=>exact absurd (List.eq_nil_of_length_eq_zero (hbn rfl).1) hb0
  |some a=>exact⟨a,rfl⟩
 obtain⟨o1,x1⟩:=hV.2.1.drop hkl;have hgl:=hV.1.lt;have c0:=hV.1.at 0 (v:=.slice (some a) b.length c) rfl;have z0:=hV.1.fz 0;have hkc:(k:Int)≤(b.length:Int):=by omega
 have hk0:(0:Int)≤(k:Int):=by omega
 obtain⟨nb,hnb⟩:∃ n,b.length=n:=⟨_,rfl⟩;rw [hnb] at c0 hkc hbc hkl o1 x1 hb;have HB:=aa hnb;have H:=aa (ab hV (ab og (ab ob (ab op (ab o1 (ab x1 hpn))))));clear hV og ob op o1 x1 hpn hk;have hs1:∀ W,Sm No w W→W.cell? ⟨g,0,none⟩=some (.slice (some a) nb c):=fun W hs=>hs.cell hgl c0;have HS1:=aa hs1;clear hs1;go_in;go_wp2_with fail;refine HF.out.mono ?_;rintro e w1 ⟨rfl,hw1⟩;have c1:=HS1.out w1 hw1;have hgl1:=Nat.lt_of_lt_of_le hgl hw1.size;have z1:=(H.out.1.1.sm hw1 (fun e=>e)).fz 0;have H1:=aa hw1;clear hw1;obtain⟨vB',hvB⟩:∃ v,zA a nb c k 1=v:=⟨_,rfl⟩;have hvB2:Value.slice (if c=k then some a else some (a.add k)) (nb-k) (c-k)=vB':=by rw [←hvB];unfold zA;rw [Nat.mul_one]
 have HvB:=aa (ab hvB hvB2);clear hvB hvB2;go_upto_region 5 with fail;rw [HvB.out.2];obtain⟨w2,hw2⟩:=ai (w1.setCell ⟨g,0,none⟩ vB');rw [hw2];have o1:=H.out.2.2.2.2.1;have x1:=H.out.2.2.2.2.2.1;rw [HvB.out.1] at o1 x1;have hs2:Sm (fun x=>x=g) w w2:=by rw [←hw2];exact(H1.out.any _).set1 0 _
 have hk2:Bk w2 g 84 #[vB',.slice A2 ps.length c2,.int .i64 (last:Int)]:=by rw [←hw2];exact(((H.out.1.1.sm H1.out (fun e=>e)).set 0 _).eq rfl)
 have ho2:aR w2 5 1 vB' (nb-k) ((aL b).drop (k * 1)):=o1.sm hs2 (fun x e=>H.out.1.2.1.ne_bk H.out.1.1 (by decide) x (by rw [x1 x e];rfl));have hp2:aR w2 89 2 (.slice A2 ps.length c2) ps.length (cY ps):=H.out.1.2.2.sm hs2 (fun x e=>H.out.1.2.2.ne_bk H.out.1.1 (by decide) x e);have HvO:=aa (show ∀ x,vB'.ownBlock=some x→O x from fun x e=>H.out.2.2.1 x (by rw [x1 x e];rfl));have HS:=aa (ab hs2 (ab hk2 (ab ho2 hp2)));clear hs2 hk2 ho2 hp2 hw2 c1 z1 o1 x1;go_wp2_with fail
 go_loopw [1,5] (fun mv wv wr=>∃ j m vP,Gi w O g vB' (nb-k) ((aL b).drop (k * 1)) ps last k mv wv wr j m vP) (fun _ wv _=>ps.length-IP wv)
 case atStart=>exact⟨0,k,_,EP.start ps k,rfl,HS.out.2.1,HS.out.2.2.1,HS.out.2.2.2,H.out.2.2.2.1,World.ownsRow_nil _ _ _ _,HS.out.1.mono (fun b _ e=>e ▸ H.out.2.1)⟩
 case round=>
  have HDM:=aa (fun (j m:Nat) (vP:Value) (hD:Gi w O g vB' (nb-k) ((aL b).drop (k * 1)) ps last k (.int .i64 (m:Int)) u5 wr j m vP)=>show Gi w O g vB' (b.drop k).length (aL (b.drop k)) ps last k (.int .i64 (m:Int)) u5 wr j m vP from by rw [List.length_drop,HB.out,←Ik];exact hD);obtain⟨j,m,vP,hD⟩:=hrel;obtain⟨hr,rfl,hbk,hob,hop,hoo,hwh,hsm⟩:=hD;have hj:=hr.hk;have hlw:IP u5=j:=by
   obtain⟨A5,c5,rfl, -⟩:=au hwh;rfl
  have HW:=aa (ab hr (ab hbk (ab hob (ab hop (ab hoo (ab hwh (ab hsm hlw)))))));have hgr:=hbk.lt;have z1:=hbk.fz 1;by_cases hjl:j < ps.length
  ·obtain⟨x,hx⟩:∃ x,ps[j]?=some x:=⟨_,List.getElem?_eq_getElem hjl⟩;have hdr:ps.drop j=x::ps.drop (j+1):=by rw [List.drop_eq_getElem_cons hjl];congr 1;exact(List.getElem?_eq_some_iff.1 hx).2
   have hxl:=H.out.2.2.2.2.2.2 x (List.mem_of_getElem? hx);rcases hop.cells with ⟨-,e, -⟩|⟨g2,off,cap,rfl,hg2,hcp, -,hcells,hfz⟩
   ·omega
   ·rw [hdr] at hcells;have r0:=hcells 0 _ rfl;have r1:=hcells 1 _ rfl;rw [Nat.add_zero] at r0;have c1:=hbk.at 1 (v:=.slice (some ⟨g2,off,none⟩) (ps.length-j) cap) rfl;obtain⟨nl,hnl⟩:=ai (ps.length-j);rw [hnl] at c1;have k1:(0:Int) < (nl:Int):=by omega
    have k2:(1:Int)≤(nl:Int):=by omega
    have HX:=aa (ab hx (ab hnl hfz));obtain⟨p,q⟩:=x;dsimp only at r0 r1 hxl;clear hr hbk hob hop hoo hwh hsm hlw hdr hx hcells hfz;by_cases hqm:q≤m
    ·have k3:(q:Int)≤(m:Int):=by omega
     have d3:decide ((q:Int)≤(m:Int))=true:=decide_eq_true k3;obtain⟨m2,hm2⟩:=ai (m-q);have i1:IntKind.i64.wrap ((m:Int)-(q:Int))=(m2:Int):=by rw [show (m:Int)-(q:Int)=(m2:Int) from by omega];exact IntWalk.i64_in _ (by have:=HW.out.1.mn;omega)
     have hown:(wr.alloc (.cells #[.int .i64 (p:Int)] 3)).ownsRow w.heap.size 3 1 u5 j (kD (ps.take j)):=HW.out.2.2.2.2.2.1.alloc _;have hz:w.heap.size≤(wr.alloc (.cells #[.int .i64 (p:Int)] 3)).heap.size:=by have:=HW.out.2.2.2.2.2.2.1.size;rw [World.size_alloc];omega
     have HP:=aa (ab hown (ab hz (ab (Bk.new wr 3 #[.int .i64 (p:Int)]) hm2)));obtain⟨vP',hvP⟩:∃ v,zA ⟨g2,off,none⟩ nl cap 1 2=v:=⟨_,rfl⟩;have HvP:=aa hvP;clear hown hz hvP hm2;go_wp2_with (at_builtin;refine aY rfl _ _ 59 3 rfl Tryz.underlying59 (.int .i64 0) 1 8 FA rfl (by decide) (by decide) w.heap.size j u5 (kD (ps.take j)) rfl HP.out.1 wr.heap.size #[.int .i64 (p:Int)] rfl HP.out.2.2.1 rfl (by simp [Value.oneCell']) (by omega) HP.out.2.1 ?_;intro v6 w6 hown6 hs6 hv6;have hk6:=(HW.out.2.1.alloc (.cells #[.int .i64 (p:Int)] 3)).sm hs6 (fun e=>by have:=(World.ownsRow.lt HW.out.2.2.2.2.2.1 _ e).1;omega);have c6:=hk6.at 1 (v:=.slice (some ⟨g2,off,none⟩) (ps.length-j) cap) rfl;have z6:=hk6.fz 1;have hgl6:=hk6.lt;have H6:=aa (ab hown6 (ab hs6 (ab hv6 hk6)));rw [HX.out.2.1] at c6;clear hown6 hs6 hv6 hk6);rw [IL];have hN:=(show Gi w O g vB' (nb-k) ((aL b).drop (k * 1)) ps last k (.int .i64 (m:Int)) u5 wr j m (.slice (some ⟨g2,off,none⟩) (ps.length-j) cap) from⟨HW.out.1,rfl,HW.out.2.1,HW.out.2.2.1,HW.out.2.2.2.1,HW.out.2.2.2.2.1,HW.out.2.2.2.2.2.1,HW.out.2.2.2.2.2.2.1⟩).next HX.out.1 hqm H.out.2.1 hO H6.out.1 H6.out.2.1
     rw [HP.out.2.2.2,HX.out.2.1] at hN;refine⟨⟨j+1,m2,_,hN⟩,?_⟩;obtain⟨A5,c5,e, -⟩:=au H6.out.1;rw [HW.out.2.2.2.2.2.2.2,e];show ps.length-(j+1) < _;omega
    ·have k3:¬(q:Int)≤(m:Int):=by omega
     have d3:decide ((q:Int)≤(m:Int))=false:=decide_eq_false k3;obtain⟨m2,hm2⟩:=ai (q-m);have i1:IntKind.i64.wrap ((q:Int)-(m:Int))=(m2:Int):=by rw [show (q:Int)-(m:Int)=(m2:Int) from by omega];exact IntWalk.i64_in _ (by omega)
     have f1:=HX.out.2.2 (off+1);have HP:=aa hm2;clear hm2;go_wp2_with fail;go_ret;rw [←HP.out];exact⟨u5,rfl,(HDM.out j m _ ⟨HW.out.1,rfl,HW.out.2.1,HW.out.2.2.1,HW.out.2.2.2.1,HW.out.2.2.2.2.1,HW.out.2.2.2.2.2.1,HW.out.2.2.2.2.2.2.1⟩).stop HX.out.1 hqm H.out.2.1 HvO.out⟩
  ·obtain⟨A5,c5,rfl, -, -, -⟩:=hop.row;have c1:=hbk.at 1 (v:=.slice A5 (ps.length-j) c5) rfl;have hj0:ps.length-j=0:=by omega
   rw [hj0] at c1;clear hr hbk hob hop hoo hwh hsm hlw;go_wp2_with fail;go_ret;exact⟨u5,rfl,(HDM.out j m _ ⟨HW.out.1,rfl,HW.out.2.1,HW.out.2.2.1,HW.out.2.2.2.1,HW.out.2.2.2.2.1,HW.out.2.2.2.2.2.1,HW.out.2.2.2.2.2.2.1⟩).all (by omega) H.out.2.1 HvO.out⟩
structure oK (w0 w:World) (D:Nat→Nat→Prop):Prop where
 ap:∀ x j k,D j x→D k x→j=k
 lt:∀ k x,D k x→x < w.heap.size
 ge:∀ k x,D k x→w0.heap.size≤x
 g1:G1 w0
 sm:Sm No w0 w
 pos:0 < w0.heap.size
def ck(D:Nat→Nat→Prop):Nat→Prop:=fun x=>∃ k,D k x
structure aZ (D:Nat→Nat→Prop) (w:World) (D':Nat→Nat→Prop) (w':World):Prop where
 sm:Sm (ck D) w w'
 new:∀ k x,D' k x→D k x∨w.heap.size≤x
def rp(D:Nat→Nat→Prop)(k:Nat)(P:Nat→Prop):Nat→Nat→Prop:=fun j x=>(j≠k∧D j x)∨(j=k∧P x)
theorem eO{D:Nat→Nat→Prop}{k j:Nat}{P:Nat→Prop}(h:j≠k):rp D k P j=D j:=by
 funext x
 exact propext ⟨fun e=>e.elim (fun e=>e.2) (fun e=>absurd e.1 h),fun e=>Or.inl ⟨h,e⟩⟩
theorem xx{D:Nat→Nat→Prop}{k:Nat}{P:Nat→Prop}:rp D k P k=P:=by
 funext x
 exact propext ⟨fun e=>e.elim (fun e=>absurd rfl e.1) (fun e=>e.2),fun e=>Or.inr ⟨rfl,e⟩⟩
section
variable {w0 w w' w2:World} {D D' D2:Nat→Nat→Prop} {S P:Nat→Prop} {k:Nat}
theorem aZ.refl(D:Nat→Nat→Prop)(w:World):aZ D w D w:=⟨Sm.refl _ _,fun _ _ e=>Or.inl e⟩
theorem aZ.no(D:Nat→Nat→Prop)(h:Sm No w w'):aZ D w D w':=⟨h.any _,fun _ _ e=>Or.inl e⟩
theorem aZ.trans(h:aZ D w D' w')(k:aZ D' w' D2 w2):aZ D w D2 w2:=
 ⟨h.sm.trans k.sm (fun b hb e=>by
  obtain⟨j,e⟩:=e;rcases h.new j b e with e|e
  ·exact⟨j,e⟩
  ·omega),fun j x e=>by
  rcases k.new j x e with e|e
  ·exact h.new j x e
  ·have:=h.sm.size;exact Or.inr (by omega)⟩
theorem aZ.one(h:Sm (D k) w w')(hP:∀ x,P x→D k x∨w.heap.size≤x):aZ D w (rp D k P) w':=
 ⟨h.mono (fun _ _ e=>⟨k,e⟩),fun j x e=>e.elim (fun e=>Or.inl e.2) (fun e=>by rw [e.1];exact hP x e.2)⟩
theorem aZ.at(h:Sm (D k) w w'):aZ D w D w':=⟨h.mono (fun _ _ e=>⟨k,e⟩),fun _ _ e=>Or.inl e⟩
theorem aZ.far(h:aZ D w D' w'){x:Nat}(hx:x < w.heap.size)(hn:¬ck D x):¬ck D' x:=fun ⟨j,e⟩=>by
 rcases h.new j x e with e|e
 ·exact hn ⟨j,e⟩
 ·omega
theorem oK.no(h:oK w0 w D)(hs:Sm No w w'):oK w0 w' D:=⟨h.ap,fun k x e=>Nat.lt_of_lt_of_le (h.lt k x e) hs.size,h.ge,h.g1,h.sm.tt hs,h.pos⟩
theorem oK.at(h:oK w0 w D)(hs:Sm (D k) w w'):oK w0 w' D:=⟨h.ap,fun k x e=>Nat.lt_of_lt_of_le (h.lt k x e) hs.size,h.ge,h.g1,h.sm.fresh hs (h.ge k),h.pos⟩
theorem oK.out(h:oK w0 w D)(hs:Sm S w w')(hS:∀ x,S x→w0.heap.size≤x):oK w0 w' D:=⟨h.ap,fun k x e=>Nat.lt_of_lt_of_le (h.lt k x e) hs.size,h.ge,h.g1,h.sm.fresh hs hS,h.pos⟩
theorem oK.one(h:oK w0 w D)(hs:Sm (D k) w w')(hP:∀ x,P x→D k x∨w.heap.size≤x)(hlt:∀ x,P x→x < w'.heap.size):oK w0 w' (rp D k P):=by
 refine⟨?_,?_,?_,h.g1,h.sm.fresh hs (h.ge k),h.pos⟩
 ·intro x j j2 e1 e2;have no:∀ j,j≠k→D j x→P x→False:=fun j hj e e2=>by
   rcases hP x e2 with e3|e3
   ·exact hj (h.ap x j k e e3)
   ·have:=h.lt j x e;omega
  rcases e1 with e1|e1<;>rcases e2 with e2|e2
  ·exact h.ap x j j2 e1.2 e2.2
  ·exact(no j e1.1 e1.2 e2.2).elim
  ·exact(no j2 e2.1 e2.2 e1.2).elim
  ·rw [e1.1,e2.1]
 ·rintro j x (e|e)
  ·exact Nat.lt_of_lt_of_le (h.lt j x e.2) hs.size
  ·exact hlt x e.2
 ·rintro j x (e|e)
  ·exact h.ge j x e.2
  ·rcases hP x e.2 with e3|e3
   ·exact h.ge k x e3
   ·have:=h.sm.size;omega
theorem oK.g(h:oK w0 w D):G1 w:=h.g1.no h.sm
theorem oK.ne0(h:oK w0 w D)(k:Nat):¬D k 0:=fun e=>by have:=h.ge k 0 e;have:=h.pos;omega
theorem oK.ap2(h:oK w0 w D){x j k:Nat}(hjk:j≠k)(e:D j x):¬D k x:=fun e2=>hjk (h.ap x j k e e2)
end
theorem cA.imp{w:World}{O P:Nat→Prop}{g n:Nat}{L:ah}(h:cA w O g n L)(hi:∀ x,O x→P x):cA w P g n L:=by
 obtain⟨gb,f,M,h1,h2,h3,h4⟩:=h;exact⟨gb,f,M,h1,hi _ h2,hi _ h3,h4⟩
structure Zn where
 gq:Nat
 gs:Nat
 gr:Nat
 gp:Nat
 gm:Nat
def oY(K:Kn)(z:Zn)(s:Cn):Array Value:=#[.pointer (some ⟨z.gq,0,none⟩),.int .i64 K.C.maxConns,.int .i64 K.C.maxPerPeer,.int .i64 K.C.pipeline,.int .i64 K.C.buffers,.int .i64 K.C.idle,.int .i64 K.C.head,.int .i64 K.C.body,.int .i64 K.C.write,.int .i64 K.C.linger,
 .int .i64 K.C.pace,.int .i64 K.C.paceBytes,.int .i64 K.C.base,.int .i64 K.C.cap,.bool K.C.refuse,.bool K.C.evict,.slice K.C.ta K.C.tl K.C.tc,.pointer (some ⟨z.gs,0,none⟩),.pointer (some ⟨z.gr,0,none⟩),.pointer (some ⟨z.gp,0,none⟩),
 .int .i64 s.phase,.int .i64 s.since,.int .i64 s.paced,.int .i64 s.fed,.bool s.quitting,.bool s.ending,.bool s.ended,.bool s.closed,.bool s.word,.map (some z.gm),.int .i64 (s.taken:Int),.int .i64 (s.laid:Int),.int .i64 (s.whole:Int),.int .i64 (s.told:Int)]
def mD(l:List Nat):Int→Bool:=fun k=>l.any fun j=>decide ((j:Int)=k)
structure aq (w0 w:World) (D:Nat→Nat→Prop) (c:Nat) (z:Zn) (K:Kn) (s:Cn):Prop where
 reg:oK w0 w D
 bk:Bk w c 46 (oY K z s)
 dc:D 1 c
 qu:eU w (D 2) z.gq s.b s.ps s.last
 rg:cA w (D 3) z.gr K.n s.r
 si:ft w (D 4) z.gs K.T
 pp:bZ w (D 5) z.gp s.p
 mp:dT w z.gm s.last (mD s.words)
 dm:D 6 z.gm
 ok:cK s.p
 sz:iz s.p
section
variable {w0 w w':World} {D:Nat→Nat→Prop} {S P:Nat→Prop} {c:Nat} {z:Zn} {K:Kn} {s:Cn}
theorem aq.no(h:aq w0 w D c z K s)(hs:Sm No w w'):aq w0 w' D c z K s:=
 ⟨h.reg.no hs,h.bk.sm hs (fun e=>e),h.dc,h.qu.no hs,h.rg.no hs,h.si.no hs,h.pp.no hs,h.mp.no hs,h.dm,h.ok,h.sz⟩
theorem aq.out(h:aq w0 w D c z K s)(hs:Sm S w w')(hS:∀ x,S x→w0.heap.size≤x)(hD:∀ x,S x→¬ck D x):aq w0 w' D c z K s:=by
 have hn:∀ k x,D k x→¬S x:=fun k x e e2=>hD x e2 ⟨k,e⟩;exact⟨h.reg.out hs hS,h.bk.sm hs (hn 1 _ h.dc),h.dc,h.qu.sm hs (hn 2),h.rg.sm hs (hn 3),h.si.sm hs (hn 4),h.pp.out hs (hn 5),h.mp.sm hs (hn 6 _ h.dm),h.dm,h.ok,h.sz⟩
theorem aq.setC(h:aq w0 w D c z K s)(hs:Sm (fun x=>x=c) w w')(s':Cn)(hb:Bk w' c 46 (oY K z s'))(he:(s'.r,s'.p,s'.b,s'.ps,s'.last,s'.words)=(s.r,s.p,s.b,s.ps,s.last,s.words)):aq w0 w' D c z K s'∧aZ D w D w':=by
 have hn:∀ k x,k≠1→D k x→¬x=c:=fun k x hk e e2=>hk (h.reg.ap x k 1 e (e2 ▸ h.dc));have hg:Sm (D 1) w w':=hs.mono (fun b _ e=>e ▸ h.dc);injection he with e1 he;injection he with e2 he;injection he with e3 he;injection he with e4 he;injection he with e5 e6;refine⟨⟨h.reg.at hg,hb,h.dc,?_,?_,h.si.sm hs (fun x=>hn 4 x (by decide)),?_,?_,h.dm,by rw [e2];exact h.ok,by rw [e2];exact h.sz⟩,aZ.at hg⟩
 ·rw [e3,e4,e5];exact h.qu.sm hs (fun x=>hn 2 x (by decide))
 ·rw [e1];exact h.rg.sm hs (fun x=>hn 3 x (by decide))
 ·rw [e2];exact h.pp.out hs (fun x=>hn 5 x (by decide))
 ·rw [e5,e6];exact h.mp.sm hs (fun e=>hn 6 _ (by decide) h.dm e)
theorem aq.setQ(h:aq w0 w D c z K s)(hs:Sm (D 2) w w'){b:ah}{ps:List (Nat × Nat)}{last:Nat}(hq:eU w' P z.gq b ps last)(hP:∀ x,P x→D 2 x∨w.heap.size≤x)(hlt:∀ x,P x→x < w'.heap.size)(hl:s.last≤last):
 aq w0 w' (rp D 2 P) c z K {s with b:=b,ps:=ps,last:=last}∧aZ D w (rp D 2 P) w':=by
 have hn:∀ k x,k≠2→D k x→¬D 2 x:=fun k x hk e=>h.reg.ap2 hk e;refine⟨⟨h.reg.one hs hP hlt,h.bk.sm hs (hn 1 _ (by decide) h.dc),by rw [eO (by decide)];exact h.dc,by rw [xx];exact hq,?_,?_,?_,(h.mp.sm hs (hn 6 _ (by decide) h.dm)).mono hl,by rw [eO (by decide)];exact h.dm,h.ok,h.sz⟩,aZ.one hs hP⟩
 ·rw [eO (by decide)];exact h.rg.sm hs (fun x=>hn 3 x (by decide))
 ·rw [eO (by decide)];exact h.si.sm hs (fun x=>hn 4 x (by decide))
 ·rw [eO (by decide)];exact h.pp.out hs (fun x=>hn 5 x (by decide))
theorem aq.setR(h:aq w0 w D c z K s)(hs:Sm (D 3) w w'){r:ah}(hr:cA w' (D 3) z.gr K.n r):aq w0 w' D c z K {s with r:=r}∧aZ D w D w':=by
 have hn:∀ k x,k≠3→D k x→¬D 3 x:=fun k x hk e=>h.reg.ap2 hk e;exact⟨⟨h.reg.at hs,h.bk.sm hs (hn 1 _ (by decide) h.dc),h.dc,h.qu.sm hs (fun x=>hn 2 x (by decide)),hr,h.si.sm hs (fun x=>hn 4 x (by decide)),h.pp.out hs (fun x=>hn 5 x (by decide)),h.mp.sm hs (hn 6 _ (by decide) h.dm),h.dm,h.ok,h.sz⟩,aZ.at hs⟩
theorem aq.setP(h:aq w0 w D c z K s)(hs:Sm (D 5) w w'){p:cP}(hp:bZ w' P z.gp p)(hP:∀ x,P x→D 5 x∨w.heap.size≤x)(ho:cK p)(hz:iz p):
 aq w0 w' (rp D 5 P) c z K {s with p:=p}∧aZ D w (rp D 5 P) w':=by
 have hn:∀ k x,k≠5→D k x→¬D 5 x:=fun k x hk e=>h.reg.ap2 hk e;refine⟨⟨h.reg.one hs hP hp.lt,h.bk.sm hs (hn 1 _ (by decide) h.dc),by rw [eO (by decide)];exact h.dc,?_,?_,?_,by rw [xx];exact hp,h.mp.sm hs (hn 6 _ (by decide) h.dm),by rw [eO (by decide)];exact h.dm,ho,hz⟩,aZ.one hs hP⟩
 ·rw [eO (by decide)];exact h.qu.sm hs (fun x=>hn 2 x (by decide))
 ·rw [eO (by decide)];exact h.rg.sm hs (fun x=>hn 3 x (by decide))
 ·rw [eO (by decide)];exact h.si.sm hs (fun x=>hn 4 x (by decide))
theorem aq.setM(h:aq w0 w D c z K s)(hs:Sm (fun x=>x=z.gm) w w'){ws:List Nat}(hm:dT w' z.gm s.last (mD ws)):aq w0 w' D c z K {s with words:=ws}∧aZ D w D w':=by
 have hn:∀ k x,k≠6→D k x→¬x=z.gm:=fun k x hk e e2=>hk (h.reg.ap x k 6 e (e2 ▸ h.dm));have hg:Sm (D 6) w w':=hs.mono (fun b _ e=>e ▸ h.dm);exact⟨⟨h.reg.at hg,h.bk.sm hs (hn 1 _ (by decide) h.dc),h.dc,h.qu.sm hs (fun x=>hn 2 x (by decide)),h.rg.sm hs (fun x=>hn 3 x (by decide)),h.si.sm hs (fun x=>hn 4 x (by decide)),h.pp.out hs (fun x=>hn 5 x (by decide)),hm,h.dm,h.ok,h.sz⟩,aZ.at hg⟩
end
theorem sx(w0 w:World)(D:Nat→Nat→Prop)(c:Nat)(z:Zn)(K:Kn)(s:Cn)(h:aq w0 w D c z K s):Calls Tryz.prog 65 #[.pointer (some ⟨c,0,none⟩)] w fun e w'=>e=.returned (.int .i64 s.state)∧w=w':=by
 obtain⟨vB,vP,hV, -⟩:=h.qu;have HL:=aa (iR w z.gq vB vP _ _ _ hV);have HP:=aa (dx w (D 5) z.gp s.p h.pp);have hcl:=h.bk.lt;have c0:=h.bk.at 0 (v:=.pointer (some ⟨z.gq,0,none⟩)) rfl;have c19:=h.bk.at 19 (v:=.pointer (some ⟨z.gp,0,none⟩)) rfl;have c25:=h.bk.at 25 (v:=.bool s.ending) rfl;have c27:=h.bk.at 27 (v:=.bool s.closed) rfl;obtain⟨gq,gs,gr,gp,gm⟩:=z;dsimp only at HL HP c0 c19;have HS:=aa (show s.state=if s.closed=true then 5 else if (s.ending&&s.b.isEmpty)=true then 4 else if s.b.isEmpty=false then 3 else min s.p.phase 2 from rfl);obtain⟨cl,hc⟩:∃ b,s.closed=b:=⟨_,rfl⟩;obtain⟨en,he⟩:∃ b,s.ending=b:=⟨_,rfl⟩;obtain⟨nb,hnb⟩:∃ n,s.b.length=n:=⟨_,rfl⟩;obtain⟨ph,hph⟩:∃ n,s.p.phase=n:=⟨_,rfl⟩;obtain⟨r,hr⟩:∃ n,s.state=n:=⟨_,rfl⟩;have hie:s.b.isEmpty=decide (nb=0):=by rw [←hnb];cases s.b<;>simp
 rw [hie] at HS;rw [hr,hc,he,hph] at HS;rw [hc] at c27;rw [he] at c25;rw [hnb] at HL;rw [hph] at HP;rw [hr];clear h hV hc he hnb hph hr hie
 cases cl with
 |true=>
  have HE:=aa (show r=5 from by rw [HS.out];simp);go_in;go_wp2_with fail;go_ret;exact⟨by rw [HE.out];rfl,rfl⟩
 |false=>
  by_cases h0:nb=0
  ·subst h0;have k1:¬(0:Int) < ((0:Nat):Int):=by omega
   cases en with
   |true=>
    have HE:=aa (show r=4 from by rw [HS.out];simp);go_in;go_wp2_with (first|(go_at_call 15;refine HL.out.mono ?_;rintro e w1 ⟨rfl,rfl⟩));go_ret;exact⟨by rw [HE.out];rfl,rfl⟩
   |false=>
    have HE:=aa (show r=min ph 2 from by rw [HS.out];simp);go_in;go_wp2_with (first|(go_at_call 15;refine HL.out.mono ?_;rintro e w1 ⟨rfl,rfl⟩)|(go_at_call 68;refine HP.out.mono ?_;rintro e w1 ⟨rfl,rfl⟩));go_ret;exact⟨by rw [HE.out];rfl,rfl⟩
  ·have HE:=aa (show r=3 from by rw [HS.out];simp [h0]);have k1:(0:Int) < (nb:Int):=by omega
   have k2:((nb:Int)==0)=false:=by simpa using h0
   cases en with
   |true=>
    go_in;go_wp2_with (first|(go_at_call 15;refine HL.out.mono ?_;rintro e w1 ⟨rfl,rfl⟩));go_ret;exact⟨by rw [HE.out];rfl,rfl⟩
   |false=>
    go_in;go_wp2_with (first|(go_at_call 15;refine HL.out.mono ?_;rintro e w1 ⟨rfl,rfl⟩));go_ret;exact⟨by rw [HE.out];rfl,rfl⟩
section
variable {P:Program} {md:Region.Mode} {ops:Array Oper} {Q:Exit→Act→World→Prop} {S:World→Prop}
theorem bJ {i d:Nat} {oi:Oper} {bY:Nat} {listed:Array Bool} {a:Act} {w:World} (hi:ops[i]?=some oi) (hd:oi.dst=some d)
 (hs:Region.noSelect ops=true) (hf:Region.free md ops listed i=true) (hr:(Region.ready md ops listed).contains i=true)
 (hQ:∀ c a w,Q (.panic c) (a.put (some d) undef) w→Q (.panic c) a w) (hw:Region.wanted oi (yielded ops a.tmps)=false) (hS:S w)
 (h:wpAnyH P md ops Q S bY (listed.setIfInBounds i true) (a.put (some d) undef) w):wpAnyH P md ops Q S (bY+1) listed a w:=
 wpAnyH_take hi hs hf hr (by rw [hd];exact hQ) (Or.inr ⟨hw,rfl⟩) hS (by rw [hd];exact h)
theorem aj {i d:Nat} {oi:Oper} {v:Value} {bY:Nat} {listed:Array Bool} {a:Act} {w:World} (hi:ops[i]?=some oi) (hd:oi.dst=some d)
 (hs:Region.noSelect ops=true) (hf:Region.free md ops listed i=true) (hr:(Region.ready md ops listed).contains i=true)
 (hQ:∀ c a w,Q (.panic c) (a.put (some d) v) w→Q (.panic c) a w) (hy:YieldsIf P ops S oi v a) (hS:S w)
 (h:wpAnyH P md ops Q S bY (listed.setIfInBounds i true) (a.put (some d) v) w):wpAnyH P md ops Q S (bY+1) listed a w:=
 wpAnyH_take hi hs hf hr (by rw [hd];exact hQ) hy hS (by rw [hd];exact h)
end
theorem dH(w0 w:World)(D:Nat→Nat→Prop)(c:Nat)(z:Zn)(K:Kn)(s:Cn)(h:aq w0 w D c z K s)(hps:s.ps.length≤100000):Calls Tryz.prog 96 #[.pointer (some ⟨c,0,none⟩)] w fun e w'=>e=.returned (.bool (fD K s))∧Sm No w w':=by
 have HL:=aa (fun (W:World) (hs:Sm No w W)=>(h.no hs).qu.elim fun vB e=>e.elim fun vP e=>nu W z.gq vB vP _ _ _ e.1 hps);have HP:=aa (fun (W:World) (hs:Sm No w W)=>dx W (D 5) z.gp s.p (h.no hs).pp);have HR:=aa (fun (W:World) (hs:Sm No w W)=>(h.no hs).rg.elim fun gb e=>e.elim fun f e=>e.elim fun M e=>ew W z.gr gb K.n f M s.r e.1);have hcl:=h.bk.lt;have HC:=aa (fun (W:World) (hs:Sm No w W)=>show W.cell? ⟨c,0,none⟩=some (.pointer (some ⟨z.gq,0,none⟩))∧W.cell? ⟨c,3,none⟩=some (.int .i64 K.C.pipeline)∧W.cell? ⟨c,18,none⟩=some (.pointer (some ⟨z.gr,0,none⟩))∧W.cell? ⟨c,19,none⟩=some (.pointer (some ⟨z.gp,0,none⟩))∧W.cell? ⟨c,25,none⟩=some (.bool s.ending) from
  have hb:=h.bk.sm hs (fun e=>e)
  ⟨hb.at 0 rfl,hb.at 3 rfl,hb.at 18 rfl,hb.at 19 rfl,hb.at 25 rfl⟩)
 obtain⟨gq,gs,gr,gp,gm⟩:=z;obtain⟨C,T,n⟩:=K;dsimp only at HL HP HR HC;have HS:=aa (show fD ⟨C,T,n⟩ s=(!s.ending&&(decide (s.p.phase < 3)&&(decide ((s.ps.length:Int) < C.pipeline)&& !s.r.isEmpty))) from rfl);obtain⟨en,he⟩:∃ b,s.ending=b:=⟨_,rfl⟩;obtain⟨np,hnp⟩:∃ n,s.ps.length=n:=⟨_,rfl⟩;obtain⟨nr,hnr⟩:∃ n,s.r.length=n:=⟨_,rfl⟩;obtain⟨ph,hph⟩:∃ n,s.p.phase=n:=⟨_,rfl⟩;obtain⟨r,hr⟩:=ai (fD ⟨C,T,n⟩ s);obtain⟨pl,hpl⟩:∃ n,C.pipeline=n:=⟨_,rfl⟩;have hie:s.r.isEmpty=decide (nr=0):=by rw [←hnr];cases s.r<;>simp
 rw [hr,he,hph,hnp,hie,hpl] at HS;rw [he,hpl] at HC;rw [hnp] at HL;rw [hph] at HP;rw [hnr] at HR;rw [hr];clear h he hnp hnr hph hr hie hpl;obtain⟨c0,c3,c18,c19,c25⟩:=HC.out w (Sm.refl _ _);have H0:=aa (HC.out w.drew (Sm.refl _ _).drew)
 cases en with
 |true=>
  have HE:=aa (show r=false from by rw [HS.out];simp);go_in;go_wp2_with fail;go_quiet (fail);go_wp2_with fail;go_ret;exact⟨by rw [HE.out];rfl,(Sm.refl No w).drewN _⟩
 |false=>
  by_cases h1:ph < 3
  ·have d1:decide (ph < 3)=true:=decide_eq_true h1;by_cases h2:(np:Int) < pl
   ·have d2:decide ((np:Int) < pl)=true:=decide_eq_true h2;have HX:=aa (show r=decide (0 < nr) from by rw [HS.out];simp only [h1,h2,decide_true,Bool.true_and,Bool.not_false];by_cases e:nr=0<;>simp [e]<;>omega);go_in;go_wp2_with fail
    go_region_held3 (fun w'=>w'.cell? ⟨c,0,none⟩=some (.pointer (some ⟨gq,0,none⟩))∧w'.cell? ⟨c,3,none⟩=some (.int .i64 pl)∧w'.cell? ⟨c,18,none⟩=some (.pointer (some ⟨gr,0,none⟩))∧w'.cell? ⟨c,19,none⟩=some (.pointer (some ⟨gp,0,none⟩))∧w'.cell? ⟨c,25,none⟩=some (.bool false)) (first|exact⟨c0,c3,c18,c19,c25⟩|exact H0.out|exact H4)
     (first
      |(go_at_call 68;refine(HP.out w.drew (Sm.refl _ _).drew).mono ?_;rintro e w1 ⟨rfl,rfl⟩)
      |(go_at_call 23;refine(HL.out w.drew (Sm.refl _ _).drew).mono ?_;rintro e w4 ⟨v4,rfl,hO4,hs4⟩;obtain⟨A4,c4,rfl, -⟩:=au hO4;have H4:=HC.out w4 ((Sm.refl _ _).drew.tt hs4);have HS4:=aa ((Sm.refl No w).drew.tt hs4);clear hs4 hO4)
      |(go_at_call 69;refine(HR.out w4 HS4.out).mono ?_;rintro e w5 ⟨rfl,rfl⟩))
    all_goals
     go_wp2_with fail;go_ret;exact⟨by rw [HX.out];rfl,HS4.out⟩
   ·have d2:decide ((np:Int) < pl)=false:=decide_eq_false h2;have HX:=aa (show r=false from by rw [HS.out];simp [h2]);go_in;go_wp2_with fail;refine wp_region_noPanic ?_;refine wp_region_held_drew (S:=fun w'=>w'.cell? ⟨c,0,none⟩=some (.pointer (some ⟨gq,0,none⟩))∧w'.cell? ⟨c,3,none⟩=some (.int .i64 pl)∧w'.cell? ⟨c,18,none⟩=some (.pointer (some ⟨gr,0,none⟩))∧w'.cell? ⟨c,19,none⟩=some (.pointer (some ⟨gp,0,none⟩))∧w'.cell? ⟨c,25,none⟩=some (.bool false)) (by kernel_rfl) H0.out (fun hHeld=> ?_);refine' aj (i:=0) (oi:=_) (d:=3) (v:=_) rfl rfl (by kernel_rfl) (by kernel_rfl) (by kernel_rfl) (fun _ _ _ h=>h) (Or.inl ⟨by kernel_rfl,?hy0⟩) (by assumption) ?rt0
    case hy0=>(intro w hSw;clear hSw;go_simp;try(with_reducible rfl))
    try simp only [Act.put,List.setIfInBounds_toArray,List.set_cons_zero,List.set_cons_succ]
    refine' aj (i:=1) (oi:=_) (d:=4) (v:=_) rfl rfl (by kernel_rfl) (by kernel_rfl) (by kernel_rfl) (fun _ _ _ h=>h) (Or.inl ⟨by kernel_rfl,?hy1⟩) (by assumption) ?rt1
    case hy1=>(intro w hSw;clear hSw;go_simp;try(with_reducible rfl))
    try simp only [Act.put,List.setIfInBounds_toArray,List.set_cons_zero,List.set_cons_succ]
    refine' aj (i:=2) (oi:=_) (d:=5) (v:=_) rfl rfl (by kernel_rfl) (by kernel_rfl) (by kernel_rfl) (fun _ _ _ h=>h) (Or.inl ⟨by kernel_rfl,?hy2⟩) (by assumption) ?rt2
    case hy2=>(intro w hSw;clear hSw;go_simp;try(with_reducible rfl))
    try simp only [Act.put,List.setIfInBounds_toArray,List.set_cons_zero,List.set_cons_succ]
    refine' aj (i:=3) (oi:=_) (d:=6) (v:=_) rfl rfl (by kernel_rfl) (by kernel_rfl) (by kernel_rfl) (fun _ _ _ h=>h) (Or.inl ⟨by kernel_rfl,?hy3⟩) (by assumption) ?rt3
    case hy3=>(intro w hSw;(try dsimp only at hSw);go_simp;try(with_reducible rfl))
    try simp only [Act.put,List.setIfInBounds_toArray,List.set_cons_zero,List.set_cons_succ]
    refine' aj (i:=4) (oi:=_) (d:=7) (v:=_) rfl rfl (by kernel_rfl) (by kernel_rfl) (by kernel_rfl) (fun _ _ _ h=>h) (Or.inl ⟨by kernel_rfl,?hy4⟩) (by assumption) ?rt4
    case hy4=>(intro w hSw;clear hSw;go_simp;try(with_reducible rfl))
    try simp only [Act.put,List.setIfInBounds_toArray,List.set_cons_zero,List.set_cons_succ]
    refine' aj (i:=5) (oi:=_) (d:=8) (v:=_) rfl rfl (by kernel_rfl) (by kernel_rfl) (by kernel_rfl) (fun _ _ _ h=>h) (Or.inl ⟨by kernel_rfl,?hy5⟩) (by assumption) ?rt5
    case hy5=>(intro w hSw;clear hSw;go_simp;try(with_reducible rfl))
    try simp only [Act.put,List.setIfInBounds_toArray,List.set_cons_zero,List.set_cons_succ]
    refine' aj (i:=6) (oi:=_) (d:=9) (v:=_) rfl rfl (by kernel_rfl) (by kernel_rfl) (by kernel_rfl) (fun _ _ _ h=>h) (Or.inl ⟨by kernel_rfl,?hy6⟩) (by assumption) ?rt6
    case hy6=>(intro w hSw;clear hSw;go_simp;try(with_reducible rfl))
    try simp only [Act.put,List.setIfInBounds_toArray,List.set_cons_zero,List.set_cons_succ]
    refine' aj (i:=7) (oi:=_) (d:=10) (v:=_) rfl rfl (by kernel_rfl) (by kernel_rfl) (by kernel_rfl) (fun _ _ _ h=>h) (Or.inl ⟨by kernel_rfl,?hy7⟩) (by assumption) ?rt7
    case hy7=>(intro w hSw;clear hSw;go_simp;try(with_reducible rfl))
    try simp only [Act.put,List.setIfInBounds_toArray,List.set_cons_zero,List.set_cons_succ]
    refine' aj (i:=8) (oi:=_) (d:=11) (v:=_) rfl rfl (by kernel_rfl) (by kernel_rfl) (by kernel_rfl) (fun _ _ _ h=>h) (Or.inl ⟨by kernel_rfl,?hy8⟩) (by assumption) ?rt8
    case hy8=>(intro w hSw;clear hSw;go_simp;try(with_reducible rfl))
    try simp only [Act.put,List.setIfInBounds_toArray,List.set_cons_zero,List.set_cons_succ]
    refine' aj (i:=9) (oi:=_) (d:=12) (v:=_) rfl rfl (by kernel_rfl) (by kernel_rfl) (by kernel_rfl) (fun _ _ _ h=>h) (Or.inl ⟨by kernel_rfl,?hy9⟩) (by assumption) ?rt9
    case hy9=>(intro w hSw;(try dsimp only at hSw);go_simp;try(with_reducible rfl))
    try simp only [Act.put,List.setIfInBounds_toArray,List.set_cons_zero,List.set_cons_succ]
    refine wpAnyH_ready (rs:=[10]) (by kernel_rfl) (by simp) ?_;refine AllReadyH.cons (o:=_) rfl (fun K hK=> ?_) AllReadyH.nil;go_simp;refine(HP.out w.drew (Sm.refl _ _).drew).mono ?_;rintro e w1 ⟨rfl,rfl⟩;go_wp2_with fail;refine hK.out _ _ H0.out (fun _=> ?_);clear hK;refine' aj (i:=11) (oi:=_) (d:=14) (v:=_) rfl rfl (by kernel_rfl) (by kernel_rfl) (by kernel_rfl) (fun _ _ _ h=>h) (Or.inl ⟨by kernel_rfl,?hy11⟩) (by assumption) ?rt11
    case hy11=>(intro w hSw;clear hSw;go_simp;try(with_reducible rfl))
    try simp only [Act.put,List.setIfInBounds_toArray,List.set_cons_zero,List.set_cons_succ]
    refine' aj (i:=12) (oi:=_) (d:=15) (v:=_) rfl rfl (by kernel_rfl) (by kernel_rfl) (by kernel_rfl) (fun _ _ _ h=>h) (Or.inl ⟨by kernel_rfl,?hy12⟩) (by assumption) ?rt12
    case hy12=>(intro w hSw;clear hSw;go_simp;try(with_reducible rfl))
    try simp only [Act.put,List.setIfInBounds_toArray,List.set_cons_zero,List.set_cons_succ]
    refine' aj (i:=13) (oi:=_) (d:=16) (v:=_) rfl rfl (by kernel_rfl) (by kernel_rfl) (by kernel_rfl) (fun _ _ _ h=>h) (Or.inl ⟨by kernel_rfl,?hy13⟩) (by assumption) ?rt13
    case hy13=>(intro w hSw;clear hSw;go_simp;try(with_reducible rfl))
    try simp only [Act.put,List.setIfInBounds_toArray,List.set_cons_zero,List.set_cons_succ]
    refine' aj (i:=14) (oi:=_) (d:=17) (v:=_) rfl rfl (by kernel_rfl) (by kernel_rfl) (by kernel_rfl) (fun _ _ _ h=>h) (Or.inl ⟨by kernel_rfl,?hy14⟩) (by assumption) ?rt14
    case hy14=>(intro w hSw;clear hSw;go_simp;try(with_reducible rfl))
    try simp only [Act.put,List.setIfInBounds_toArray,List.set_cons_zero,List.set_cons_succ]
    refine' aj (i:=15) (oi:=_) (d:=18) (v:=_) rfl rfl (by kernel_rfl) (by kernel_rfl) (by kernel_rfl) (fun _ _ _ h=>h) (Or.inl ⟨by kernel_rfl,?hy15⟩) (by assumption) ?rt15
    case hy15=>(intro w hSw;clear hSw;go_simp;try(with_reducible rfl))
    try simp only [Act.put,List.setIfInBounds_toArray,List.set_cons_zero,List.set_cons_succ]
    refine' aj (i:=16) (oi:=_) (d:=19) (v:=_) rfl rfl (by kernel_rfl) (by kernel_rfl) (by kernel_rfl) (fun _ _ _ h=>h) (Or.inl ⟨by kernel_rfl,?hy16⟩) (by assumption) ?rt16
    case hy16=>(intro w hSw;clear hSw;go_simp;try(with_reducible rfl))
    try simp only [Act.put,List.setIfInBounds_toArray,List.set_cons_zero,List.set_cons_succ]
    refine' aj (i:=17) (oi:=_) (d:=20) (v:=_) rfl rfl (by kernel_rfl) (by kernel_rfl) (by kernel_rfl) (fun _ _ _ h=>h) (Or.inl ⟨by kernel_rfl,?hy17⟩) (by assumption) ?rt17
    case hy17=>(intro w hSw;(try dsimp only at hSw);go_simp;try(with_reducible rfl))
    try simp only [Act.put,List.setIfInBounds_toArray,List.set_cons_zero,List.set_cons_succ]
    refine' aj (i:=20) (oi:=_) (d:=23) (v:=_) rfl rfl (by kernel_rfl) (by kernel_rfl) (by kernel_rfl) (fun _ _ _ h=>h) (Or.inl ⟨by kernel_rfl,?hy20⟩) (by assumption) ?rt20
    case hy20=>(intro w hSw;clear hSw;go_simp;try(with_reducible rfl))
    try simp only [Act.put,List.setIfInBounds_toArray,List.set_cons_zero,List.set_cons_succ]
    refine' aj (i:=21) (oi:=_) (d:=24) (v:=_) rfl rfl (by kernel_rfl) (by kernel_rfl) (by kernel_rfl) (fun _ _ _ h=>h) (Or.inl ⟨by kernel_rfl,?hy21⟩) (by assumption) ?rt21
    case hy21=>(intro w hSw;clear hSw;go_simp;try(with_reducible rfl))
    try simp only [Act.put,List.setIfInBounds_toArray,List.set_cons_zero,List.set_cons_succ]
    refine' aj (i:=22) (oi:=_) (d:=25) (v:=_) rfl rfl (by kernel_rfl) (by kernel_rfl) (by kernel_rfl) (fun _ _ _ h=>h) (Or.inl ⟨by kernel_rfl,?hy22⟩) (by assumption) ?rt22
    case hy22=>(intro w hSw;clear hSw;go_simp;try(with_reducible rfl))
    try simp only [Act.put,List.setIfInBounds_toArray,List.set_cons_zero,List.set_cons_succ]
    refine' aj (i:=23) (oi:=_) (d:=26) (v:=_) rfl rfl (by kernel_rfl) (by kernel_rfl) (by kernel_rfl) (fun _ _ _ h=>h) (Or.inl ⟨by kernel_rfl,?hy23⟩) (by assumption) ?rt23
    case hy23=>(intro w hSw;clear hSw;go_simp;try(with_reducible rfl))
    try simp only [Act.put,List.setIfInBounds_toArray,List.set_cons_zero,List.set_cons_succ]
    refine' aj (i:=24) (oi:=_) (d:=27) (v:=_) rfl rfl (by kernel_rfl) (by kernel_rfl) (by kernel_rfl) (fun _ _ _ h=>h) (Or.inl ⟨by kernel_rfl,?hy24⟩) (by assumption) ?rt24
    case hy24=>(intro w hSw;(try dsimp only at hSw);go_simp;try(with_reducible rfl))
    try simp only [Act.put,List.setIfInBounds_toArray,List.set_cons_zero,List.set_cons_succ]
    refine wpAnyH_ready (rs:=[18]) (by kernel_rfl) (by simp) ?_;refine AllReadyH.cons (o:=_) rfl (fun K hK=> ?_) AllReadyH.nil;go_simp;refine(HL.out w.drew (Sm.refl _ _).drew).mono ?_;rintro e w4 ⟨v4,rfl,hO4,hs4⟩;obtain⟨A4,c4,rfl, -⟩:=au hO4;have H4:=HC.out w4 ((Sm.refl _ _).drew.tt hs4);have HS4:=aa ((Sm.refl No w).drew.tt hs4);clear hs4 hO4;go_wp2_with fail;refine hK.out _ _ H4 (fun _=> ?_);clear hK;refine' aj (i:=19) (oi:=_) (d:=22) (v:=_) rfl rfl (by kernel_rfl) (by kernel_rfl) (by kernel_rfl) (fun _ _ _ h=>h) (Or.inl ⟨by kernel_rfl,?hy19⟩) (by assumption) ?rt19
    case hy19=>(intro w hSw;clear hSw;go_simp;try(with_reducible rfl))
    try simp only [Act.put,List.setIfInBounds_toArray,List.set_cons_zero,List.set_cons_succ]
    refine' aj (i:=25) (oi:=_) (d:=28) (v:=_) rfl rfl (by kernel_rfl) (by kernel_rfl) (by kernel_rfl) (fun _ _ _ h=>h) (Or.inl ⟨by kernel_rfl,?hy25⟩) (by assumption) ?rt25
    case hy25=>(intro w hSw;clear hSw;go_simp;try(with_reducible rfl))
    try simp only [Act.put,List.setIfInBounds_toArray,List.set_cons_zero,List.set_cons_succ]
    refine' aj (i:=26) (oi:=_) (d:=29) (v:=_) rfl rfl (by kernel_rfl) (by kernel_rfl) (by kernel_rfl) (fun _ _ _ h=>h) (Or.inl ⟨by kernel_rfl,?hy26⟩) (by assumption) ?rt26
    case hy26=>(intro w hSw;clear hSw;go_simp;try(with_reducible rfl))
    try simp only [Act.put,List.setIfInBounds_toArray,List.set_cons_zero,List.set_cons_succ]
    refine' aj (i:=27) (oi:=_) (d:=30) (v:=_) rfl rfl (by kernel_rfl) (by kernel_rfl) (by kernel_rfl) (fun _ _ _ h=>h) (Or.inl ⟨by kernel_rfl,?hy27⟩) (by assumption) ?rt27
    case hy27=>(intro w hSw;clear hSw;go_simp;try(with_reducible rfl))
    try simp only [Act.put,List.setIfInBounds_toArray,List.set_cons_zero,List.set_cons_succ]
    refine' bJ (i:=28) (oi:=_) (d:=31) rfl rfl (by kernel_rfl) (by kernel_rfl) (by kernel_rfl) (fun _ _ _ h=>h) ?w28 (by assumption) ?rt28
    case w28=>kernel_rfl
    try simp only [Act.put,List.setIfInBounds_toArray,List.set_cons_zero,List.set_cons_succ]
    refine' bJ (i:=29) (oi:=_) (d:=32) rfl rfl (by kernel_rfl) (by kernel_rfl) (by kernel_rfl) (fun _ _ _ h=>h) ?w29 (by assumption) ?rt29
    case w29=>kernel_rfl
    try simp only [Act.put,List.setIfInBounds_toArray,List.set_cons_zero,List.set_cons_succ]
    refine' bJ (i:=30) (oi:=_) (d:=33) rfl rfl (by kernel_rfl) (by kernel_rfl) (by kernel_rfl) (fun _ _ _ h=>h) ?w30 (by assumption) ?rt30
    case w30=>kernel_rfl
    try simp only [Act.put,List.setIfInBounds_toArray,List.set_cons_zero,List.set_cons_succ]
    refine' bJ (i:=31) (oi:=_) (d:=34) rfl rfl (by kernel_rfl) (by kernel_rfl) (by kernel_rfl) (fun _ _ _ h=>h) ?w31 (by assumption) ?rt31
    case w31=>kernel_rfl
    try simp only [Act.put,List.setIfInBounds_toArray,List.set_cons_zero,List.set_cons_succ]
    refine' bJ (i:=32) (oi:=_) (d:=35) rfl rfl (by kernel_rfl) (by kernel_rfl) (by kernel_rfl) (fun _ _ _ h=>h) ?w32 (by assumption) ?rt32
    case w32=>kernel_rfl
    try simp only [Act.put,List.setIfInBounds_toArray,List.set_cons_zero,List.set_cons_succ]
    refine' bJ (i:=33) (oi:=_) (d:=36) rfl rfl (by kernel_rfl) (by kernel_rfl) (by kernel_rfl) (fun _ _ _ h=>h) ?w33 (by assumption) ?rt33
    case w33=>kernel_rfl
    try simp only [Act.put,List.setIfInBounds_toArray,List.set_cons_zero,List.set_cons_succ]
    refine' aj (i:=34) (oi:=_) (d:=37) (v:=_) rfl rfl (by kernel_rfl) (by kernel_rfl) (by kernel_rfl) (fun _ _ _ h=>h) (Or.inl ⟨by kernel_rfl,?hy34⟩) (by assumption) ?rt34
    case hy34=>(intro w hSw;clear hSw;go_simp;try(with_reducible rfl))
    try simp only [Act.put,List.setIfInBounds_toArray,List.set_cons_zero,List.set_cons_succ]
    refine' aj (i:=35) (oi:=_) (d:=2) (v:=_) rfl rfl (by kernel_rfl) (by kernel_rfl) (by kernel_rfl) (fun _ _ _ h=>h) (Or.inl ⟨by kernel_rfl,?hy35⟩) (by assumption) ?rt35
    case hy35=>(intro w hSw;clear hSw;go_simp;try(with_reducible rfl))
    try simp only [Act.put,List.setIfInBounds_toArray,List.set_cons_zero,List.set_cons_succ]
    refine wpAnyH_done (by kernel_rfl) ?_ _;refine NoPanic.normal ?_;go_wp2_with fail;go_ret;exact⟨by rw [HX.out];rfl,HS4.out⟩
  ·have d1:decide (ph < 3)=false:=decide_eq_false h1;have HX:=aa (show r=false from by rw [HS.out];simp [h1]);go_in;go_wp2_with fail;go_quiet ((go_at_call 68;exact Calls.quiet_of_same (cH (HP.out _ (by repeat (first|exact Sm.refl _ _|apply Sm.drew|apply Sm.drewN))))));go_wp2_with fail;go_ret;exact⟨by rw [HX.out];rfl,(Sm.refl No w).drewN _⟩
theorem Cq{w w':World}{D:Nat→Nat→Prop}{w0:World}{k:Nat}(h:oK w0 w D)(hs:w.heap.size≤w'.heap.size):∀ x,be (D k) w w' x→x < w'.heap.size:=fun x e=>e.elim (fun e=>Nat.lt_of_lt_of_le (h.lt k x e) hs) (fun e=>e.2)
theorem qe{w w':World}{D:Nat→Nat→Prop}{k:Nat}:∀ x,be (D k) w w' x→D k x∨w.heap.size≤x:=fun _ e=>e.elim Or.inl (fun e=>Or.inr e.1)
structure zR (s:Cn) (n:Nat):Prop where
 b:s.b.length+n≤1000000
 ps:s.ps.length≤100000
 last:s.last≤1000000
 laid:s.laid≤1000000
theorem nx(w0 w:World)(D:Nat→Nat→Prop)(c:Nat)(z:Zn)(K:Kn)(s:Cn)(h:aq w0 w D c z K s)(B:Nat)(v:Value)(r:fQ)(hv:im w B v r)(hn:hY r)(hp:r.parts=[])(head e:Bool)(minor:Int)(hmi: -1000000≤minor∧minor≤1000000)(t:ah)(ht:gw r head minor e=t)(ht0:t≠[])(hr:zR s t.length):
 Calls Tryz.prog 51 #[.pointer (some ⟨c,0,none⟩),v,.bool head,.int .i64 minor,.bool e] w fun x w'=>x=.returned (.tuple #[])∧∃ D',aq w0 w' D' c z K (s.lay t e)∧aZ D w D' w':=by
 have HE:=aa (fun (W:World) (hs:Sm No w W)=>Dj (h.reg.g.no hs) (hv.no hs) hn hp head e minor hmi);obtain⟨vF,vB,vP,rfl,h1,h2,h3⟩:=hv;obtain⟨A1,c1,rfl, -⟩:=h1.row;obtain⟨A2,c2,rfl, -⟩:=h2.row;obtain⟨A3,c3,rfl, -⟩:=h3.row;unfold iJ at HE;rw [ht] at HE;have HH:=aa (ab h (ab ht0 hr));have hcl:=h.bk.lt;obtain⟨n1,hn1⟩:∃ n,r.fs.length=n:=⟨_,rfl⟩;obtain⟨n2,hn2⟩:∃ n,r.body.length=n:=⟨_,rfl⟩;obtain⟨n3,hn3⟩:∃ n,r.parts.length=n:=⟨_,rfl⟩;rw [hn1,hn2,hn3] at HE ⊢;have hs1:Sm No w (w.alloc (.cells #[.int .i64 r.st,.slice A1 n1 c1,.slice A2 n2 c2,.slice A3 n3 c3] 93)):=(Sm.refl No w).alloc _;have HE1:=aa (HE.out _ hs1);have H1:=aa hs1;clear h h1 h2 h3 hn1 hn2 hn3 hn hp ht ht0 hr hs1;go_in;go_wp2_with (first|(go_at_call 70;refine HE1.out.mono ?_;rintro x w2 ⟨v2,rfl,hO2,hs2⟩;obtain⟨A,cp,rfl,hR2,hcp2,hn2⟩:=au hO2;have hw2:=H1.out.tt hs2;have hb2:=(HH.out.1.no hw2).bk;have c0:=hb2.at 0 (v:=.pointer (some ⟨z.gq,0,none⟩)) rfl;have hcl2:=hb2.lt;have H2:=aa (ab hO2 (ab hw2 (ab hR2 hn2)));clear hs2 hO2 hw2 hb2 hR2 hn2));have ha:∃ ad,A=some ad:=by
  cases A with
  |none=>
   have h0:=H2.out.2.2.2 rfl;exact absurd (List.eq_nil_of_length_eq_zero (by omega)) HH.out.2.1
  |some ad=>exact⟨ad,rfl⟩
 obtain⟨ad,rfl⟩:=ha;obtain⟨w3,hw3⟩:∃ w3,w2.alloc (.cells #[.slice (some ad) t.length cp] 34)=w3:=⟨_,rfl⟩;have hs3:Sm No w2 w3:=by rw [←hw3];exact(Sm.refl No w2).alloc _
 have hb3:Bk w3 w2.heap.size 34 #[.slice (some ad) t.length cp]:=by rw [←hw3];exact Bk.new _ _ _
 rw [hw3];have hI3:=HH.out.1.no (H2.out.2.1.tt hs3);have hadb:=(World.ownsRow.lt H2.out.1 ad.block rfl).1;have had:¬D 2 ad.block:=fun e=>by
  have:=HH.out.1.reg.lt 2 _ e;have:=H1.out.size;omega
 have HA:=aa (py w3 (D 2) z.gq w2.heap.size s.b s.ps s.last hI3.qu ad cp t (hb3.at 0 rfl) (H2.out.2.2.1.no hs3) had HH.out.2.2.b (by have:=HH.out.2.2.ps;omega) HH.out.2.2.last);have H3:=aa (ab hI3 (H2.out.2.1.tt hs3));clear hw3 hs3 hb3 hI3 hadb had c0 hcl2;refine HA.out.mono ?_;rintro x w4 ⟨rfl,hq4,hs4⟩;obtain⟨hI4,hG4⟩:=H3.out.1.setQ hs4 hq4 qe (Cq H3.out.1.reg hs4.size) (Nat.le_succ _);have c31:=hI4.bk.at 31 (v:=.int .i64 (s.laid:Int)) rfl;have z31:=hI4.bk.fz 31;have hcl4:=hI4.bk.lt;have i1:IntKind.i64.wrap ((s.laid:Int)+1)=(s.laid:Int)+1:=IntWalk.i64_in _ (by have:=HH.out.2.2.laid;omega);have H4:=aa (ab hI4 hG4);clear hI4 hG4 hq4 hs4;go_upto_region 5 with fail;obtain⟨w5,hw5⟩:=ai (w4.setCell ⟨c,31,none⟩ (.int .i64 ((s.laid:Int)+1)));rw [hw5];obtain⟨hI5,hG5⟩:=H4.out.1.setC (w':=w5) (by rw [←hw5];exact(Sm.refl _ w4).set1 31 _) {s.add t with laid:=s.laid+1} (by rw [←hw5];exact(H4.out.1.bk.set 31 _).eq rfl) rfl;have c25:=hI5.bk.at 25 (v:=.bool s.ending) rfl;have z25:=hI5.bk.fz 25;have hcl5:=hI5.bk.lt;have H5:=aa (ab hI5 hG5);clear hI5 hG5 hw5 c31 z31;obtain⟨en,hen⟩:∃ b,s.ending=b:=⟨_,rfl⟩;rw [hen] at c25;have HEn:=aa hen;clear hen;have HF:=aa (fun (W:World) (b:Bool) (hW:w5.setCell ⟨c,25,none⟩ (.bool b)=W) (hb:(s.ending||e)=b)=>show ∃ D',aq w0 W D' c z K (s.lay t e)∧aZ D w D' W from by
  obtain⟨hI6,hG6⟩:=H5.out.1.setC (w':=W) (by rw [←hW];exact(Sm.refl _ w5).set1 25 _) (s.lay t e) (by rw [←hW,←hb];exact(H5.out.1.bk.set 25 _).eq rfl) rfl;exact⟨_,hI6,(((aZ.no D H3.out.2).trans H4.out.2).trans H5.out.2).trans hG6⟩)
 cases en with
 |true=>
  go_wp2_with fail
  go_end0
  exact⟨rfl,HF.out _ true rfl (by rw [HEn.out];rfl)⟩
 |false=>
  go_wp2_with fail
  go_end0
  exact⟨rfl,HF.out _ e rfl (by rw [HEn.out];rfl)⟩
end Go.Proofs.YtadcjgopaadfjaaGreatDoor
namespace Go.Proofs.YtadcjgopaadfjaaGreatDoor
open Go.RowKit Go.Proofs Go
def iN(m:Nat)(S1 S2:World→Prop)(L:Array Bool)(w:World):Prop:=if L.getD m false=true then S2 w else S1 w
def eX(P:Program)(md:Region.Mode)(ops:Array Oper)(Q:Exit→Act→World→Prop)(m:Nat)(S1 S2:World→Prop):Nat→Array Bool→Act→World→Prop
 |0,listed,a,w=>Region.ready md ops listed=[]∧Q .normal a w
 |bY+1,listed,a,w=>
  (Region.ready md ops listed=[]→Q .normal a w)∧
  ∀ i∈Region.ready md ops listed,wpOp P ops Q i (fun a' w'=>iN m S1 S2 (listed.setIfInBounds i true) w'∧eX P md ops Q m S1 S2 bY (listed.setIfInBounds i true) a' w') a w
section
variable {P:Program} {ops:Array Oper} {Q:Exit→Act→World→Prop} {md:Region.Mode} {m:Nat} {S1 S2:World→Prop}
theorem mN:∀ (bY:Nat) (listed:Array Bool) (a:Act) (w:World),eX P md ops Q m S1 S2 bY listed a w→wpAny P md ops Q bY listed a w
 |0,_,_,_,h=>h
 |bY+1,_,_,_,h=>⟨h.1,fun i hi=>wpOp_mono (fun a' w' h'=>mN bY _ a' w' h'.2) (h.2 i hi)⟩
theorem hZ{L:Array Bool}{i m:Nat}(h:i≠m):(L.setIfInBounds i true).getD m false=L.getD m false:=by rw [Array.getD_eq_getD_getElem?,Array.getD_eq_getD_getElem?,Array.getElem?_setIfInBounds_ne h]
theorem jV {i:Nat} {oi:Oper} {v:Value} {T:World→Prop} (Ph:Array Bool→Prop) (hi:ops[i]?=some oi) (hsel:∀ (j:Nat) (o:Oper) cs b,ops[j]?=some o→o.op≠ .select cs b)
 (hQ:∀ c a w,Q (.panic c) (a.put oi.dst v) w→Q (.panic c) a w) (him:i≠m)
 (hT:∀ L w,Ph L→iN m S1 S2 L w→T w) (hPh:∀ L j,Ph L→i∈Region.ready md ops L→j∈Region.ready md ops L→j≠i→Ph (L.setIfInBounds j true)):
 ∀ (bY:Nat) (listed:Array Bool) (a:Act) (w:World),
   (∀ j oj,ops[j]?=some oj→j≠i→listed.getD j true=false→(∀ e∈oj.after,Region.binds md e=true→e.on≠i)→oi.apart ops oj=true)→
   i∈Region.ready md ops listed→YieldsIf P ops T oi v a→iN m S1 S2 listed w→Ph listed→
   eX P md ops Q m S1 S2 bY (listed.setIfInBounds i true) (a.put oi.dst v) w→eX P md ops Q m S1 S2 (bY+1) listed a w:=by
 have hG:∀ (L:Array Bool) (w:World),iN m S1 S2 (L.setIfInBounds i true) w↔iN m S1 S2 L w:=fun L w=>by unfold iN;rw [hZ him]
 intro bY
 induction bY with
 |zero=>
  intro listed a w _ hr hy hS hP H;refine⟨fun h=>(by rw [h] at hr;cases hr),fun j hj=> ?_⟩;by_cases hji:j=i
  ·subst hji;exact hy.wpOp hi (hT _ _ hP hS) ⟨(hG _ _).2 hS,H⟩
  ·have:=ready_mono hj hji;rw [H.1] at this
   cases this
 |succ bY ih=>
  intro listed a w hfree hr hy hS hP H;refine⟨fun h=>(by rw [h] at hr;cases hr),fun j hj=> ?_⟩;by_cases hji:j=i
  ·subst hji;exact hy.wpOp hi (hT _ _ hP hS) ⟨(hG _ _).2 hS,H⟩
  ·have h1:=H.2 j (ready_mono hj hji);obtain⟨hjun,oj,hoj,hall⟩:=mem_ready.1 hj;have hnot:∀ e∈oj.after,Region.binds md e=true→e.on≠i:=fun e he hb heq=>by
    have h1:=hall e he hb;have h0:=(mem_ready.1 hr).1;rw [heq] at h1;rcases Nat.lt_or_ge i listed.size with h'|h'
    ·simp [h'] at h0 h1;rw [h0] at h1;cases h1
    ·simp [Array.getElem?_eq_none h'] at h1
   have h2:=wpOp_putIf hoj (hfree j oj hoj hji hjun hnot) (fun cs b=>hsel i oi cs b hi) (fun cs b=>hsel j oj cs b hoj) hQ hy h1;have hfree':∀ k ok,ops[k]?=some ok→k≠i→(listed.setIfInBounds j true).getD k true=false→
    (∀ e∈ok.after,Region.binds md e=true→e.on≠i)→oi.apart ops ok=true:=fun k ok hk hki hun hno=>by
    refine hfree k ok hk hki ?_ hno;by_cases hjk:j=k
    ·subst hjk;exact hjun
    ·rw [getD_set_ne true hjk] at hun;exact hun
   refine wpOp_mono (fun a' w' h3=> ?_) h2;have hg:iN m S1 S2 (listed.setIfInBounds j true) w':=by
    have:=h3.2.1;rw [Array.setIfInBounds_comm _ _ (Ne.symm hji)] at this;exact(hG _ _).1 this
   refine⟨hg,ih (listed.setIfInBounds j true) a' w' hfree' (ready_mono hr (Ne.symm hji)) h3.1 hg (hPh _ _ hP hr hj hji) ?_⟩;rw [Array.setIfInBounds_comm _ _ hji];exact h3.2.2
theorem iN.weak{L:Array Bool}{w:World}(h12:∀ w,S1 w→S2 w)(h:iN m S1 S2 L w):S2 w:=by
 unfold iN at h;split at h
 ·exact h
 ·exact h12 _ h
theorem iN.both{L:Array Bool}{w:World}(h1:S1 w)(h2:S2 w):iN m S1 S2 L w:=by
 unfold iN;split
 ·exact h2
 ·exact h1
theorem iN.two{L:Array Bool}{w:World}(hL:L.getD m false=true)(h2:S2 w):iN m S1 S2 L w:=by
 unfold iN;rw [hL];exact h2
theorem aC {i d:Nat} {oi:Oper} {v:Value} {bY:Nat} {listed:Array Bool} {a:Act} {w:World} (h12:∀ w,S1 w→S2 w) (hi:ops[i]?=some oi) (hd:oi.dst=some d) (him:i≠m)
 (hs:Region.noSelect ops=true) (hf:Region.free md ops listed i=true) (hr:(Region.ready md ops listed).contains i=true)
 (hQ:∀ c a w,Q (.panic c) (a.put (some d) v) w→Q (.panic c) a w) (hy:YieldsIf P ops S2 oi v a) (hS:iN m S1 S2 listed w)
 (h:iN m S1 S2 (listed.setIfInBounds i true) w→eX P md ops Q m S1 S2 bY (listed.setIfInBounds i true) (a.put (some d) v) w):eX P md ops Q m S1 S2 (bY+1) listed a w:=
 jV (fun _=>True) hi (Region.noSelect_spec hs) (by rw [hd];exact hQ) him (fun _ _ _ h=>h.weak h12) (fun _ _ _ _ _ _=>trivial) bY listed a w (Region.free_spec hi hf) (by simpa using hr) hy hS trivial
  (by rw [hd];exact h (by unfold iN at hS ⊢;rw [hZ him];exact hS))
theorem sZ {i d:Nat} {oi om:Oper} {v:Value} {bY:Nat} {listed:Array Bool} {a:Act} {w:World} (hi:ops[i]?=some oi) (hd:oi.dst=some d) (hm:ops[m]?=some om) (hw:(om.after.any fun e=>Region.binds md e&&decide (e.on=i))=true)
 (hs:Region.noSelect ops=true) (hf:Region.free md ops listed i=true) (hr:(Region.ready md ops listed).contains i=true) (hlm:listed.getD m false=false) (him:i≠m)
 (hQ:∀ c a w,Q (.panic c) (a.put (some d) v) w→Q (.panic c) a w) (hy:YieldsIf P ops S1 oi v a) (hS:iN m S1 S2 listed w)
 (h:iN m S1 S2 (listed.setIfInBounds i true) w→eX P md ops Q m S1 S2 bY (listed.setIfInBounds i true) (a.put (some d) v) w):eX P md ops Q m S1 S2 (bY+1) listed a w:=by
 refine jV (fun L=>L.getD m false=false) hi (Region.noSelect_spec hs) (by rw [hd];exact hQ) him (fun L w hL hG=>by unfold iN at hG;rw [hL] at hG;exact hG) (fun L j hL hri hrj hji=> ?_) bY listed a w (Region.free_spec hi hf) (by simpa using hr) hy hS hlm
  (by rw [hd];exact h (by unfold iN at hS ⊢;rw [hZ him];exact hS))
 by_cases hjm:j=m
 ·exfalso
  subst hjm;obtain⟨_,oj,hoj,hall⟩:=mem_ready.1 hrj;rw [hm] at hoj;injection hoj with hoj;subst hoj;obtain⟨e,he,hb⟩:=Array.any_eq_true'.1 hw;rw [Bool.and_eq_true,decide_eq_true_eq] at hb;have h1:=hall e he hb.1;have h0:=(mem_ready.1 hri).1;rw [hb.2] at h1;rcases Nat.lt_or_ge i L.size with h'|h'
  ·simp [h'] at h0 h1;rw [h0] at h1;cases h1
  ·simp [Array.getElem?_eq_none h'] at h1
 ·rw [hZ hjm];exact hL
theorem dw {i:Nat} {oi:Oper} {bY:Nat} {listed:Array Bool} {a:Act} {w:World} (hr:Region.ready md ops listed=[i]) (hi:ops[i]?=some oi)
 (h:∀ K:Act→World→Prop,Shut (∀ a' w',iN m S1 S2 (listed.setIfInBounds i true) w'→(iN m S1 S2 (listed.setIfInBounds i true) w'→eX P md ops Q m S1 S2 bY (listed.setIfInBounds i true) a' w')→K a' w')→
  if Region.wanted oi (yielded ops a.tmps)=true then Oper.wp P oi a w K Q else K (a.put oi.dst undef) w):eX P md ops Q m S1 S2 (bY+1) listed a w:=
 ⟨fun h0=>(by rw [hr] at h0;cases h0),fun j hj=>by
  rw [hr,List.mem_singleton] at hj;subst hj;exact wpOp_step hi (fun K' hK=>h K' (fun a w hS hW=>hK a w ⟨hS,hW hS⟩))⟩
theorem tT{listed:Array Bool}{a:Act}{w:World}(hr:Region.ready md ops listed=[])(h:Q .normal a w):∀ bY,eX P md ops Q m S1 S2 bY listed a w
 |0=>⟨hr,h⟩
 |_+1=>⟨fun _=>h,by rw [hr];simp⟩
theorem tQ {id:Nat} {a:Act} {w:World} (hm:P.follows .mixedOrders=true) (h0:(Array.replicate ops.size false).getD m false=false) (hS:S1 w.drew)
 (h:iN m S1 S2 (Array.replicate ops.size false) w.drew→eX P .any ops Q m S1 S2 ops.size (Array.replicate ops.size false) a w.drew):(Code.region id ops true).wp P Q a w:=
 wp_region_any hm (mN _ _ _ _ (h (by unfold iN;rw [h0];exact hS)))
end
end Go.Proofs.YtadcjgopaadfjaaGreatDoor
namespace Go.Proofs.YtadcjgopaadfjaaGreatDoor
open Go.RowKit Go.Proofs
section
variable {w0 w w1 w2:World} {D:Nat→Nat→Prop} {c rb:Nat} {z:Zn} {K:Kn} {s:Cn} {A:Option Addr} {cp n:Nat}
theorem BE(h:aq w0 w D c z K s)(hw:Sm No w w2)(hn:s.r.length=n)(hO:aG w1 w.drew.heap.size (.slice A n cp) s.r)(hs:Sm No w1 w2)(hb:Bk w2 w1.heap.size 34 #[.slice A n cp])(hcp:s.r.length≤cp)(hl:s.r.length≤65536):
 Calls Tryz.prog 98 #[.pointer (some ⟨z.gp,0,none⟩),.slice (some ⟨w1.heap.size,0,none⟩) 1 1] w2 fun e w3=>e=.returned (.int .i64 ((aS s.p s.r).2:Int))∧∃ D3,aq w0 w3 D3 c z K {s with p:=(aS s.p s.r).1}∧aZ D w D3 w3∧(aS s.p s.r).2≤s.r.length:=by
 have h2:=h.no hw;obtain⟨A',cp',e,hR, -,hn0⟩:=au hO;injection e with e1 e2 e3;subst e1 e3;have hlt:=hb.lt;have hc:=hb.at 0 (v:=.slice A n cp) rfl;rw [←hn] at hc;refine(ti w2 (D 5) z.gp w1.heap.size s.p A cp s.r h2.pp h2.ok h2.reg.g.1 (h2.reg.ne0 5) hlt hc (hR.no hs) (fun a e _ e2=> ?_) (by omega) hcp).mono ?_
 ·have h1:=(World.ownsRow.lt hO a.block (by rw [e];rfl)).1;have h3:=h.reg.lt 5 _ e2;have:w.drew.heap.size=w.heap.size:=rfl;omega
 ·rintro e w3 ⟨rfl,hp,ho,hs3⟩;obtain⟨hI,hG⟩:=h2.setP hs3 hp qe ho (rN s.r h2.sz);exact⟨rfl,_,hI,(aZ.no D hw).trans hG,jT _ _⟩
theorem Ck(h:aq w0 w D c z K {s with p:=(aS s.p s.r).1})(hk:(aS s.p s.r).2≤s.r.length):
 Calls Tryz.prog 97 #[.pointer (some ⟨z.gr,0,none⟩),.int .i64 ((aS s.p s.r).2:Int)] w fun e w4=>e=.returned (.int .i64 ((aS s.p s.r).2:Int))∧∃ D4,aq w0 w4 D4 c z K {s with p:=(aS s.p s.r).1,r:=s.r.drop (aS s.p s.r).2}∧aZ D w D4 w4:=by
 refine(uw w (D 3) z.gr K.n s.r h.rg _ hk).mono ?_;rintro e w4 ⟨rfl,hr,hs⟩;obtain⟨hI,hG⟩:=h.setR hs hr;exact⟨rfl,_,hI,hG⟩
end
theorem tu(w0 w:World)(D:Nat→Nat→Prop)(c:Nat)(z:Zn)(K:Kn)(s:Cn)(h:aq w0 w D c z K s)(hf:fD K s=true)(hps:s.ps.length≤100000)(hfe: -1000000000≤s.fed∧s.fed≤1000000000):
 Calls Tryz.prog 67 #[.pointer (some ⟨c,0,none⟩)] w fun e w'=>e=.returned (.bool true)∧∃ D',aq w0 w' D' c z K s.feed∧aZ D w D' w':=by
 have HFd:=aa (dH w0 w D c z K s h hps);rw [hf] at HFd;clear hf;go_in;go_wp2_with fail;refine HFd.out.mono ?_;rintro e wf ⟨rfl,hsf⟩;have hI:=h.no hsf;have HGf:=aa (aZ.no D hsf);clear h HFd hsf;obtain⟨w,hw⟩:=ai wf;subst hw
 rename_i w00
 have hrl:=hI.rg.le;have HNp:=aa (show s.r.length≤65536 from by omega);obtain⟨gb,f,M,hV, -, -, -⟩:=(hI.no (Sm.refl No wf).drew).rg;have HLen:=aa (ew wf.drew z.gr gb K.n f M s.r hV);have HPk:=aa (wN wf.drew z.gr gb K.n f M s.r hV hrl.2.1);clear hV hrl;have hcl:=hI.bk.lt;have HI:=aa hI;have HC:=aa (fun (W:World) (hs:Sm No wf W)=>show W.cell? ⟨c,18,none⟩=some (.pointer (some ⟨z.gr,0,none⟩))∧W.cell? ⟨c,19,none⟩=some (.pointer (some ⟨z.gp,0,none⟩))∧W.cell? ⟨c,23,none⟩=some (.int .i64 s.fed) from
  have hb:=HI.out.bk.sm hs (fun e=>e)
  ⟨hb.at 18 rfl,hb.at 19 rfl,hb.at 23 rfl⟩)
 have H0:=HC.out wf.drew (Sm.refl No wf).drew;obtain⟨gq,gs,gr,gp,gm⟩:=z;dsimp only at HLen HPk HC H0;obtain⟨nr,hnr⟩:∃ n,s.r.length=n:=⟨_,rfl⟩;obtain⟨fed,hfed⟩:∃ n,s.fed=n:=⟨_,rfl⟩;obtain⟨k,hk⟩:∃ n,(aS s.p s.r).2=n:=⟨_,rfl⟩;have hk2:(aS s.p s.r).2≤s.r.length:=jT _ _;rw [hnr,hk] at hk2;have HNr:=aa hnr;have HK:=aa (ab hk hfed);have i1:IntKind.i64.wrap (fed+(k:Int))=fed+(k:Int):=IntWalk.i64_in _ (by have:=HNp.out;omega);rw [hnr] at HLen HPk;rw [hfed] at HC H0;clear hI hnr hfed hk hk2;go_wp2_with fail;refine wp_region_noPanic ?_;refine tQ (m:=25) (S1:=fun w'=>w'.cell? ⟨c,18,none⟩=some (.pointer (some ⟨gr,0,none⟩))∧w'.cell? ⟨c,19,none⟩=some (.pointer (some ⟨gp,0,none⟩))∧w'.cell? ⟨c,23,none⟩=some (.int .i64 fed)) (S2:=fun w'=>w'.cell? ⟨c,18,none⟩=some (.pointer (some ⟨gr,0,none⟩))∧w'.cell? ⟨c,19,none⟩=some (.pointer (some ⟨gp,0,none⟩))) (by kernel_rfl) (by kernel_rfl) H0 (fun hG=> ?_);refine' aC (i:=0) (oi:=_) (d:=8) (v:=_) (fun _ h=>⟨h.1,h.2.1⟩) rfl rfl (by decide) (by kernel_rfl) (by kernel_rfl) (by kernel_rfl) (fun _ _ _ h=>h) (Or.inl ⟨by kernel_rfl,?hy0⟩) hG (fun hG=> ?rt0)
 case hy0=>(intro w hSw;clear hSw;go_simp;try(with_reducible rfl))
 try simp only [Act.put,List.setIfInBounds_toArray,List.set_cons_zero,List.set_cons_succ]
 refine' aC (i:=1) (oi:=_) (d:=9) (v:=_) (fun _ h=>⟨h.1,h.2.1⟩) rfl rfl (by decide) (by kernel_rfl) (by kernel_rfl) (by kernel_rfl) (fun _ _ _ h=>h) (Or.inl ⟨by kernel_rfl,?hy1⟩) hG (fun hG=> ?rt1)
 case hy1=>(intro w hSw;clear hSw;go_simp;try(with_reducible rfl))
 try simp only [Act.put,List.setIfInBounds_toArray,List.set_cons_zero,List.set_cons_succ]
 refine' aC (i:=2) (oi:=_) (d:=10) (v:=_) (fun _ h=>⟨h.1,h.2.1⟩) rfl rfl (by decide) (by kernel_rfl) (by kernel_rfl) (by kernel_rfl) (fun _ _ _ h=>h) (Or.inl ⟨by kernel_rfl,?hy2⟩) hG (fun hG=> ?rt2)
 case hy2=>(intro w hSw;clear hSw;go_simp;try(with_reducible rfl))
 try simp only [Act.put,List.setIfInBounds_toArray,List.set_cons_zero,List.set_cons_succ]
 refine' sZ (i:=3) (oi:=_) (om:=_) (d:=11) (v:=_) rfl rfl rfl (by kernel_rfl) (by kernel_rfl) (by kernel_rfl) (by kernel_rfl) (by kernel_rfl) (by decide) (fun _ _ _ h=>h) (Or.inl ⟨by kernel_rfl,?hy3⟩) hG (fun hG=> ?rt3)
 case hy3=>(intro w hSw;(try dsimp only at hSw);go_simp;try(with_reducible rfl))
 try simp only [Act.put,List.setIfInBounds_toArray,List.set_cons_zero,List.set_cons_succ]
 refine' aC (i:=4) (oi:=_) (d:=12) (v:=_) (fun _ h=>⟨h.1,h.2.1⟩) rfl rfl (by decide) (by kernel_rfl) (by kernel_rfl) (by kernel_rfl) (fun _ _ _ h=>h) (Or.inl ⟨by kernel_rfl,?hy4⟩) hG (fun hG=> ?rt4)
 case hy4=>(intro w hSw;clear hSw;go_simp;try(with_reducible rfl))
 try simp only [Act.put,List.setIfInBounds_toArray,List.set_cons_zero,List.set_cons_succ]
 refine' aC (i:=5) (oi:=_) (d:=13) (v:=_) (fun _ h=>⟨h.1,h.2.1⟩) rfl rfl (by decide) (by kernel_rfl) (by kernel_rfl) (by kernel_rfl) (fun _ _ _ h=>h) (Or.inl ⟨by kernel_rfl,?hy5⟩) hG (fun hG=> ?rt5)
 case hy5=>(intro w hSw;clear hSw;go_simp;try(with_reducible rfl))
 try simp only [Act.put,List.setIfInBounds_toArray,List.set_cons_zero,List.set_cons_succ]
 refine' aC (i:=6) (oi:=_) (d:=14) (v:=_) (fun _ h=>⟨h.1,h.2.1⟩) rfl rfl (by decide) (by kernel_rfl) (by kernel_rfl) (by kernel_rfl) (fun _ _ _ h=>h) (Or.inl ⟨by kernel_rfl,?hy6⟩) hG (fun hG=> ?rt6)
 case hy6=>(intro w hSw;clear hSw;go_simp;try(with_reducible rfl))
 try simp only [Act.put,List.setIfInBounds_toArray,List.set_cons_zero,List.set_cons_succ]
 refine' aC (i:=7) (oi:=_) (d:=15) (v:=_) (fun _ h=>⟨h.1,h.2.1⟩) rfl rfl (by decide) (by kernel_rfl) (by kernel_rfl) (by kernel_rfl) (fun _ _ _ h=>h) (Or.inl ⟨by kernel_rfl,?hy7⟩) hG (fun hG=> ?rt7)
 case hy7=>(intro w hSw;(try dsimp only at hSw);go_simp;try(with_reducible rfl))
 try simp only [Act.put,List.setIfInBounds_toArray,List.set_cons_zero,List.set_cons_succ]
 refine' aC (i:=8) (oi:=_) (d:=16) (v:=_) (fun _ h=>⟨h.1,h.2.1⟩) rfl rfl (by decide) (by kernel_rfl) (by kernel_rfl) (by kernel_rfl) (fun _ _ _ h=>h) (Or.inl ⟨by kernel_rfl,?hy8⟩) hG (fun hG=> ?rt8)
 case hy8=>(intro w hSw;clear hSw;go_simp;try(with_reducible rfl))
 try simp only [Act.put,List.setIfInBounds_toArray,List.set_cons_zero,List.set_cons_succ]
 refine' aC (i:=9) (oi:=_) (d:=17) (v:=_) (fun _ h=>⟨h.1,h.2.1⟩) rfl rfl (by decide) (by kernel_rfl) (by kernel_rfl) (by kernel_rfl) (fun _ _ _ h=>h) (Or.inl ⟨by kernel_rfl,?hy9⟩) hG (fun hG=> ?rt9)
 case hy9=>(intro w hSw;clear hSw;go_simp;try(with_reducible rfl))
 try simp only [Act.put,List.setIfInBounds_toArray,List.set_cons_zero,List.set_cons_succ]
 refine' aC (i:=10) (oi:=_) (d:=18) (v:=_) (fun _ h=>⟨h.1,h.2.1⟩) rfl rfl (by decide) (by kernel_rfl) (by kernel_rfl) (by kernel_rfl) (fun _ _ _ h=>h) (Or.inl ⟨by kernel_rfl,?hy10⟩) hG (fun hG=> ?rt10)
 case hy10=>(intro w hSw;clear hSw;go_simp;try(with_reducible rfl))
 try simp only [Act.put,List.setIfInBounds_toArray,List.set_cons_zero,List.set_cons_succ]
 refine' aC (i:=11) (oi:=_) (d:=19) (v:=_) (fun _ h=>⟨h.1,h.2.1⟩) rfl rfl (by decide) (by kernel_rfl) (by kernel_rfl) (by kernel_rfl) (fun _ _ _ h=>h) (Or.inl ⟨by kernel_rfl,?hy11⟩) hG (fun hG=> ?rt11)
 case hy11=>(intro w hSw;(try dsimp only at hSw);go_simp;try(with_reducible rfl))
 try simp only [Act.put,List.setIfInBounds_toArray,List.set_cons_zero,List.set_cons_succ]
 refine' aC (i:=12) (oi:=_) (d:=20) (v:=_) (fun _ h=>⟨h.1,h.2.1⟩) rfl rfl (by decide) (by kernel_rfl) (by kernel_rfl) (by kernel_rfl) (fun _ _ _ h=>h) (Or.inl ⟨by kernel_rfl,?hy12⟩) hG (fun hG=> ?rt12)
 case hy12=>(intro w hSw;clear hSw;go_simp;try(with_reducible rfl))
 try simp only [Act.put,List.setIfInBounds_toArray,List.set_cons_zero,List.set_cons_succ]
 refine' aC (i:=13) (oi:=_) (d:=21) (v:=_) (fun _ h=>⟨h.1,h.2.1⟩) rfl rfl (by decide) (by kernel_rfl) (by kernel_rfl) (by kernel_rfl) (fun _ _ _ h=>h) (Or.inl ⟨by kernel_rfl,?hy13⟩) hG (fun hG=> ?rt13)
 case hy13=>(intro w hSw;clear hSw;go_simp;try(with_reducible rfl))
 try simp only [Act.put,List.setIfInBounds_toArray,List.set_cons_zero,List.set_cons_succ]
 refine' aC (i:=14) (oi:=_) (d:=22) (v:=_) (fun _ h=>⟨h.1,h.2.1⟩) rfl rfl (by decide) (by kernel_rfl) (by kernel_rfl) (by kernel_rfl) (fun _ _ _ h=>h) (Or.inl ⟨by kernel_rfl,?hy14⟩) hG (fun hG=> ?rt14)
 case hy14=>(intro w hSw;clear hSw;go_simp;try(with_reducible rfl))
 try simp only [Act.put,List.setIfInBounds_toArray,List.set_cons_zero,List.set_cons_succ]
 refine' aC (i:=15) (oi:=_) (d:=23) (v:=_) (fun _ h=>⟨h.1,h.2.1⟩) rfl rfl (by decide) (by kernel_rfl) (by kernel_rfl) (by kernel_rfl) (fun _ _ _ h=>h) (Or.inl ⟨by kernel_rfl,?hy15⟩) hG (fun hG=> ?rt15)
 case hy15=>(intro w hSw;(try dsimp only at hSw);go_simp;try(with_reducible rfl))
 try simp only [Act.put,List.setIfInBounds_toArray,List.set_cons_zero,List.set_cons_succ]
 refine' aC (i:=16) (oi:=_) (d:=24) (v:=_) (fun _ h=>⟨h.1,h.2.1⟩) rfl rfl (by decide) (by kernel_rfl) (by kernel_rfl) (by kernel_rfl) (fun _ _ _ h=>h) (Or.inl ⟨by kernel_rfl,?hy16⟩) hG (fun hG=> ?rt16)
 case hy16=>(intro w hSw;clear hSw;go_simp;try(with_reducible rfl))
 try simp only [Act.put,List.setIfInBounds_toArray,List.set_cons_zero,List.set_cons_succ]
 refine' aC (i:=17) (oi:=_) (d:=25) (v:=_) (fun _ h=>⟨h.1,h.2.1⟩) rfl rfl (by decide) (by kernel_rfl) (by kernel_rfl) (by kernel_rfl) (fun _ _ _ h=>h) (Or.inl ⟨by kernel_rfl,?hy17⟩) hG (fun hG=> ?rt17)
 case hy17=>(intro w hSw;clear hSw;go_simp;try(with_reducible rfl))
 try simp only [Act.put,List.setIfInBounds_toArray,List.set_cons_zero,List.set_cons_succ]
 refine' aC (i:=18) (oi:=_) (d:=26) (v:=_) (fun _ h=>⟨h.1,h.2.1⟩) rfl rfl (by decide) (by kernel_rfl) (by kernel_rfl) (by kernel_rfl) (fun _ _ _ h=>h) (Or.inl ⟨by kernel_rfl,?hy18⟩) hG (fun hG=> ?rt18)
 case hy18=>(intro w hSw;clear hSw;go_simp;try(with_reducible rfl))
 try simp only [Act.put,List.setIfInBounds_toArray,List.set_cons_zero,List.set_cons_succ]
 refine' aC (i:=19) (oi:=_) (d:=27) (v:=_) (fun _ h=>⟨h.1,h.2.1⟩) rfl rfl (by decide) (by kernel_rfl) (by kernel_rfl) (by kernel_rfl) (fun _ _ _ h=>h) (Or.inl ⟨by kernel_rfl,?hy19⟩) hG (fun hG=> ?rt19)
 case hy19=>(intro w hSw;(try dsimp only at hSw);go_simp;try(with_reducible rfl))
 try simp only [Act.put,List.setIfInBounds_toArray,List.set_cons_zero,List.set_cons_succ]
 refine dw (i:=20) (oi:=_) (by kernel_rfl) rfl (fun K hK=> ?_);go_simp;refine HLen.out.mono ?_;rintro e w1 ⟨rfl,rfl⟩;go_wp2_with fail;refine hK.out _ _ (iN.both H0 ⟨H0.1,H0.2.1⟩) (fun hG=> ?_);clear hK;refine dw (i:=21) (oi:=_) (by kernel_rfl) rfl (fun K hK=> ?_);go_simp;refine HPk.out.mono ?_;rintro e w1 ⟨v1,rfl,hO1,hs1⟩;obtain⟨A1,cp1,hv1,hR1,hcp1,hn1⟩:=au hO1;rw [HNr.out] at hv1;subst hv1;have hw1:=(Sm.refl No wf).drew.tt hs1;have H1:=HC.out w1 hw1;have HH1:=aa (ab hO1 (ab hw1 (ab hR1 (ab hcp1 hn1))));clear hO1 hs1 hR1 hw1 hcp1 hn1;go_wp2_with fail;refine hK.out _ _ (iN.both H1 ⟨H1.1,H1.2.1⟩) (fun hG=> ?_);clear hK;refine dw (i:=22) (oi:=_) (by kernel_rfl) rfl (fun K hK=> ?_);go_simp;obtain⟨w2,hw2⟩:∃ w2,w1.alloc (.cells #[.slice A1 nr cp1] 34)=w2:=⟨_,rfl⟩;rw [hw2];have hs2:Sm No w1 w2:=by rw [←hw2];exact(Sm.refl No w1).alloc _
 have hb2:Bk w2 w1.heap.size 34 #[.slice A1 nr cp1]:=by rw [←hw2];exact Bk.new _ _ _
 have H2:=HC.out w2 (HH1.out.2.1.tt hs2);have HH2:=aa (ab hs2 hb2);clear hw2 hs2 hb2;refine hK.out _ _ (iN.both H2 ⟨H2.1,H2.2.1⟩) (fun hG=> ?_);clear hK;have HF:=aa (BE HI.out (HH1.out.2.1.tt HH2.out.1) HNr.out HH1.out.1 HH2.out.1 HH2.out.2 HH1.out.2.2.2.1 HNp.out);rw [HK.out.1] at HF;refine dw (i:=23) (oi:=_) (by kernel_rfl) rfl (fun K hK=> ?_);go_simp;refine HF.out.mono ?_;rintro e w3 ⟨rfl,D3,hI3,hG3,hk3⟩;have hb3:=hI3.bk;have H3:(w3.cell? ⟨c,18,none⟩=some (.pointer (some ⟨gr,0,none⟩))∧w3.cell? ⟨c,19,none⟩=some (.pointer (some ⟨gp,0,none⟩))∧w3.cell? ⟨c,23,none⟩=some (.int .i64 fed)):=⟨hb3.at 18 rfl,hb3.at 19 rfl,by rw [←HK.out.2];exact hb3.at 23 rfl⟩;have HS:=aa (Ck hI3 (jT _ _));rw [HK.out.1] at HS;have HH3:=aa hG3;clear hI3 hG3 hb3 hk3;go_wp2_with fail;refine hK.out _ _ (iN.both H3 ⟨H3.1,H3.2.1⟩) (fun hG=> ?_);clear hK;refine dw (i:=24) (oi:=_) (by kernel_rfl) rfl (fun K hK=> ?_);go_simp;refine HS.out.mono ?_;rintro e w4 ⟨rfl,D4,hI4,hG4⟩;have hb4:=hI4.bk;have H4:(w4.cell? ⟨c,18,none⟩=some (.pointer (some ⟨gr,0,none⟩))∧w4.cell? ⟨c,19,none⟩=some (.pointer (some ⟨gp,0,none⟩))∧w4.cell? ⟨c,23,none⟩=some (.int .i64 fed)):=⟨hb4.at 18 rfl,hb4.at 19 rfl,by rw [←HK.out.2];exact hb4.at 23 rfl⟩;have z4:=hb4.fz 23;have hcl4:=hb4.lt;have HH4:=aa (ab hI4 (HH3.out.trans hG4));clear hI4 hG4 hb4;go_wp2_with fail;refine hK.out _ _ (iN.both H4 ⟨H4.1,H4.2.1⟩) (fun hG=> ?_);clear hK;obtain⟨q18,q19,q23⟩:=H4;refine dw (i:=25) (oi:=_) (by kernel_rfl) rfl (fun K hK=> ?_);go_simp;refine hK.out _ _ (iN.two (by kernel_rfl) ⟨q18,q19⟩) (fun hG=> ?_);clear hK;refine' aC (i:=26) (oi:=_) (d:=34) (v:=_) (fun _ h=>⟨h.1,h.2.1⟩) rfl rfl (by decide) (by kernel_rfl) (by kernel_rfl) (by kernel_rfl) (fun _ _ _ h=>h) (Or.inl ⟨by kernel_rfl,?hy26⟩) hG (fun hG=> ?rt26)
 case hy26=>(intro w hSw;clear hSw;go_simp;try(with_reducible rfl))
 try simp only [Act.put,List.setIfInBounds_toArray,List.set_cons_zero,List.set_cons_succ]
 refine' aC (i:=27) (oi:=_) (d:=35) (v:=_) (fun _ h=>⟨h.1,h.2.1⟩) rfl rfl (by decide) (by kernel_rfl) (by kernel_rfl) (by kernel_rfl) (fun _ _ _ h=>h) (Or.inl ⟨by kernel_rfl,?hy27⟩) hG (fun hG=> ?rt27)
 case hy27=>(intro w hSw;clear hSw;go_simp;try(with_reducible rfl))
 try simp only [Act.put,List.setIfInBounds_toArray,List.set_cons_zero,List.set_cons_succ]
 refine dw (i:=28) (oi:=_) (by kernel_rfl) rfl (fun K hK=> ?_);go_simp;obtain⟨w5,hw5⟩:=ai (w4.setCell ⟨c,23,none⟩ (.int .i64 (fed+(k:Int))));rw [hw5];obtain⟨hI5,hG5⟩:=HH4.out.1.setC (w':=w5) (by rw [←hw5];exact(Sm.refl _ w4).set1 23 _) s.feed (by rw [←hw5,←HK.out.2];exact(HH4.out.1.bk.set 23 _).eq (by rw [←HK.out.1];rfl)) (by rw [←HK.out.1];rfl);have HH5:=aa (ab hI5 (HH4.out.2.trans hG5));have H5:(w5.cell? ⟨c,18,none⟩=some (.pointer (some ⟨gr,0,none⟩))∧w5.cell? ⟨c,19,none⟩=some (.pointer (some ⟨gp,0,none⟩))):=⟨hI5.bk.at 18 rfl,hI5.bk.at 19 rfl⟩;clear hI5 hG5 hw5;refine hK.out _ _ (iN.two (by kernel_rfl) H5) (fun hG=> ?_);clear hK;refine tT (by kernel_rfl) ?_ _;refine NoPanic.normal ?_;go_wp2_with fail;go_ret;exact⟨rfl,_,HH5.out.1,HGf.out.trans HH5.out.2⟩
theorem Be{s:cP}(h:s.phase≠2):s.waits=false:=by
 cases s<;>first|rfl|exact absurd rfl h
theorem nH(w:World)(g gh gf:Nat)(sta left fed:Int)(ln vB ch vF:Value)(h:Hd)(O:Nat→Prop)(b:Bool)(hK:fB w g 2 sta ln (cn gh) left vB ch fed)(hh:cI w O gh gf vF h)(hb:(h.how.expect&&decide (fed=0))=b):
 Calls Tryz.prog 103 #[.pointer (some ⟨g,0,none⟩)] w fun e w'=>e=.returned (.bool b)∧Sm No w w':=by
 have HS:=aa (mw w 0 gh gf vF h hh.ph);have hgl:=Bk.lt hK;have c0:=Bk.at hK 0 (v:=.int .i64 2) rfl;have c3:=Bk.at hK 3 (v:=.pointer (some ⟨gh,0,none⟩)) rfl;have HC:=aa (fun (W:World) (hs:Sm No w W)=>hs.cell hgl (Bk.at hK 7 (v:=.int .i64 fed) rfl));unfold qC at HS;obtain⟨ex,hex⟩:∃ x,h.how.expect=x:=⟨_,rfl⟩;rw [hex] at HS hb;have hfd:∀ (x:Bool) (W:World),Sem.run Tryz.prog (Instr.field 185 (.agg #[.int .i64 h.how.kind,.int .i64 h.how.len,.bool h.how.close,.bool x]) 3) W=.ok (.bool x) W:=fun x W=>by kernel_rfl
 clear hK hh hex;have HB:=aa hb;clear hb
 cases ex with
 |false=>
  go_in;go_wp2_with (first|(go_at_call 126;refine HS.out.mono ?_;rintro e w1 ⟨rfl,hs1⟩;have H1:=aa hs1;clear hs1));go_ret;exact⟨by rw [←HB.out];rfl,H1.out⟩
 |true=>
  obtain⟨x,hx⟩:=ai ((fed==0));have HX:=aa (show b=x from by rw [←HB.out,←hx];by_cases e:fed=0<;>simp [e]);go_in;go_wp2_with (first|(go_at_call 126;refine HS.out.mono ?_;rintro e w1 ⟨rfl,hs1⟩;have c7:=HC.out _ hs1;have hgl1:=Nat.lt_of_lt_of_le hgl hs1.size;have H1:=aa hs1;clear hs1));go_ret;exact⟨by rw [HX.out];rfl,H1.out⟩
theorem mY(w:World)(O:Nat→Prop)(g:Nat)(s:cP)(hI:bZ w O g s):Calls Tryz.prog 103 #[.pointer (some ⟨g,0,none⟩)] w fun e w'=>e=.returned (.bool s.waits)∧Sm No w w':=by
 by_cases h2:s.phase=2
 ·have hq:=hI.q
  cases s with
  |len h B=>
   obtain⟨gh,gf,vF,ln,vB,hK,hh, -⟩:=hq;exact nH w g gh gf 0 _ _ ln vB _ vF h O _ hK hh (by unfold cP.waits;cases B<;>simp<;>omega)
  |chunk h B p=>
   obtain⟨gh,gf,vF,ln,gr,Or,fed,hK,hh, -, -, -, -, -, -,hf⟩:=hq;exact nH w g gh gf 0 _ _ ln _ _ vF h O _ hK hh (by
    unfold cP.waits;congr 1;have:=hf.zero
    cases hfr:fw B p with
    |true=>exact decide_eq_true (this.2 hfr)
    |false=>exact decide_eq_false (fun e=>by rw [this.1 e] at hfr;cases hfr))
  |idle=>exact absurd h2 (by decide)
  |head h l=>exact absurd h2 (by simp [cP.phase])
  |whole h b=>exact absurd h2 (by simp [cP.phase])
  |bad st=>exact absurd h2 (by simp [cP.phase])
 ·rw [Be h2];obtain⟨ln,hd,left,vB,ch,fed,hK⟩:=hI.cells;have hgl:=Bk.lt hK;obtain⟨ph,hph⟩:=ai s.phase;rw [hph] at hK h2;have hc:=Bk.at hK 0 (v:=.int .i64 ph) rfl;have e1:(ph==2)=false:=by simpa using h2
  clear hK hph hI;go_in;go_wp2_with fail;go_ret;exact⟨rfl,Sm.refl _ _⟩
def dN(w0 w:World)(D:Nat→Nat→Prop)(c:Nat)(z:Zn)(K:Kn)(b:Bool)(s':Cn)(e:Ending)(w':World):Prop:=e=.returned (.bool b)∧∃ D',aq w0 w' D' c z K s'∧aZ D w D' w'
theorem EA{c:Int}(h:(tS c).length=3):BW c≠[]:=(sC (r:=aD c []) (by rw [eE];exact h)).ne
theorem He{c:Int}(h:200≤c∧c≤599):(tS c).length=3:=by
 have:∀ n:Fin 400,(tS (200+(n.val:Int))).length=3:=by decide+kernel
 have e:=this ⟨(c-200).toNat,by omega⟩;have e2:(200+(((c-200).toNat:Nat):Int))=c:=by omega
 simp only at e;rw [e2] at e;exact e
theorem vt(w0 w:World)(D:Nat→Nat→Prop)(c:Nat)(z:Zn)(K:Kn)(s:Cn)(h:aq w0 w D c z K s)(hf:fD K s=false)(hps:s.ps.length≤100000)(he:s.ending=true):
 Calls Tryz.prog 67 #[.pointer (some ⟨c,0,none⟩)] w (dN w0 w D c z K false s):=by
 have HFd:=aa (dH w0 w D c z K s h hps);rw [hf] at HFd;have HI:=aa h;have HC:=aa (fun (W:World) (hs:Sm No w W)=>(show W.cell? ⟨c,25,none⟩=some (.bool true) from by rw [←he];exact(h.no hs).bk.at 25 rfl));have hcl:=h.bk.lt;clear hf h;go_in;go_wp2_with fail;refine HFd.out.mono ?_;rintro e w1 ⟨rfl,hs1⟩;have c25:=HC.out w1 hs1;have hcl1:=Nat.lt_of_lt_of_le hcl hs1.size;have H1:=aa hs1;clear hs1;go_wp2_with fail;go_ret;exact⟨rfl,D,HI.out.no H1.out,aZ.no D H1.out⟩
theorem wu(w0 w:World)(D:Nat→Nat→Prop)(c:Nat)(z:Zn)(K:Kn)(s:Cn)(h:aq w0 w D c z K s)(hf:fD K s=false)(he:s.ending=false)(st:Int)(hp:s.p=.bad st)(hst:200≤st∧st≤599)(hr:zR s (BW st).length):
 Calls Tryz.prog 67 #[.pointer (some ⟨c,0,none⟩)] w (dN w0 w D c z K true (s.lay (BW st) true)):=by
 have HFd:=aa (dH w0 w D c z K s h hr.ps);rw [hf] at HFd;have HI:=aa h;have HC:=aa (fun (W:World) (hs:Sm No w W)=>(show W.cell? ⟨c,25,none⟩=some (.bool false)∧W.cell? ⟨c,19,none⟩=some (.pointer (some ⟨z.gp,0,none⟩)) from by rw [←he];exact⟨(h.no hs).bk.at 25 rfl,(h.no hs).bk.at 19 rfl⟩));have HP:=aa (fun (W:World) (hs:Sm No w W)=>dx W (D 5) z.gp s.p (h.no hs).pp);have HSt:=aa (fun (W:World) (hs:Sm No w W)=>sK W (D 5) z.gp s.p (h.no hs).pp);have HCn:=aa (fun (W:World) (hs:Sm No w W)=>show Calls Tryz.prog 52 #[.int .i64 st,.slice none 0 0] W (xn W (aD st [])) from eF W (h.reg.g.no hs) st (by omega) (by omega) none 0 [] (fun k hk=>absurd hk (Nat.not_lt_zero _)) (fun _=>⟨rfl,rfl⟩) (by decide));have HLy:=aa (fun (W:World) (hs:Sm No w W) (B:Nat) (v:Value) (hv:im W B v (aD st []))=>nx w0 W D c z K s (h.no hs) B v _ hv (dI hst (by decide) (fun x hx=>by cases hx)) (ow st []) false true 1 (by decide) (BW st) rfl (EA (He hst)) hr);have hcl:=h.bk.lt;obtain⟨gq,gs,gr,gp,gm⟩:=z;dsimp only at HP HSt HC;rw [hp] at HP HSt;unfold cP.phase at HP;unfold cP.status at HSt;dsimp only at HP HSt;clear hf h hp hst hr;go_in;go_wp2_with fail;refine HFd.out.mono ?_;rintro e w1 ⟨rfl,hs1⟩;obtain⟨c25,c19⟩:=HC.out w1 hs1;have hcl1:=Nat.lt_of_lt_of_le hcl hs1.size;have HP1:=aa (HP.out w1 hs1);have HSt1:=aa (HSt.out w1 hs1);have HCn1:=aa (HCn.out w1 hs1);have H1:=aa hs1;clear hs1;go_wp2_with (first
  |(go_at_call 68;refine HP1.out.mono ?_;rintro e w2 ⟨rfl,rfl⟩)
  |(go_at_call 102;refine HSt1.out.mono ?_;rintro e w2 ⟨rfl,rfl⟩)
  |(go_at_call 52;refine HCn1.out.mono ?_;rintro e w3 ⟨v3,rfl,hv3,hs3⟩;have H3:=aa (ab hv3 (H1.out.tt hs3));clear hv3 hs3)
  |(go_at_call 51;refine(HLy.out _ H3.out.2 _ _ H3.out.1).mono ?_;rintro e w4 ⟨rfl,hI4⟩;have H4:=aa hI4;clear hI4))
 go_ret;obtain⟨D',hI,hG⟩:=H4.out;exact⟨rfl,D',hI,(aZ.no D H3.out.2).trans hG⟩
theorem GD{p:Int}(h: -1000000000000≤p∧p≤1000000000000):(Lit.int .i64 p).wf=true:=by
 have h1:IntKind.i64.min≤p:=by show (-9223372036854775808:Int)≤p;omega
 have h2:p≤IntKind.i64.max:=by show p≤(9223372036854775807:Int);omega
 simp [Lit.wf,h1];exact h2
theorem ub(k:Nat)(l:List Nat):mD (k::l)=fun q=>if q=(k:Int) then true else mD l q:=by
 funext q
 unfold mD;rw [List.any_cons];by_cases e:q=(k:Int)
 ·rw [if_pos e,decide_eq_true e.symm,Bool.true_or]
 ·rw [if_neg e,decide_eq_false (fun h=>e h.symm),Bool.false_or]
theorem BT{w:World}{B:Nat}{v:Value}(h:je w B 5 v ic):∃ g cp,v=.slice (some ⟨g,0,none⟩) 25 cp∧B≤g∧ax w (some ⟨g,0,none⟩) (aL ic):=by
 rcases aH.form h with ⟨-,h1, -⟩|⟨g,cap,rfl,hb,hlt,hc, -,hx, -⟩
 ·cases h1
 ·exact⟨g,cap,rfl,hb,fun j u hj=>⟨g,0,rfl,hlt,by rw [Nat.zero_add];exact hx j u hj⟩⟩
theorem Di{w0 w:World}{D:Nat→Nat→Prop}{c:Nat}{z:Zn}{K:Kn}{s:Cn}(h:aq w0 w D c z K {s with word:=true})(hr:zR s ic.length){g5 cp:Nat}(hR:ax w (some ⟨g5,0,none⟩) (aL ic))(hg:¬D 2 g5):
 Calls Tryz.prog 71 #[.pointer (some ⟨z.gq,0,none⟩),.slice (some ⟨w.heap.size,0,none⟩) 1 1] (w.alloc (.cells #[.slice (some ⟨g5,0,none⟩) 25 cp] 34)) fun e w7=>e=.returned (.int .i64 ((s.last+1:Nat):Int))∧∃ D7 w8,aq w0 w8 D7 c z K s.say∧aZ D w D7 w8∧(Instr.mapUpdate 44 (.map (some z.gm)) (.int .i64 ((s.last:Int)+1)) (.bool true)).run Tryz.prog w7=.ok () w8∧
  (w7.cell? ⟨c,29,none⟩=some (.map (some z.gm))∧w7.cell? ⟨c,0,none⟩=some (.pointer (some ⟨z.gq,0,none⟩)))∧(w8.cell? ⟨c,29,none⟩=some (.map (some z.gm))∧w8.cell? ⟨c,0,none⟩=some (.pointer (some ⟨z.gq,0,none⟩))):=by
 have hs6:=(Sm.refl No w).alloc (.cells #[.slice (some ⟨g5,0,none⟩) 25 cp] 34);have h6:=h.no hs6;refine(py _ (D 2) z.gq w.heap.size s.b s.ps s.last h6.qu ⟨g5,0,none⟩ cp ic ((Bk.new w _ _).at 0 rfl) (hR.no hs6) hg hr.b (by have:=hr.ps;omega) hr.last).mono ?_;rintro e w7 ⟨rfl,hq,hs7⟩;obtain⟨hI7,hG7⟩:=h6.setQ hs7 hq qe (Cq h6.reg hs7.size) (Nat.le_succ _);have hm6:=h6.mp.sm hs7 (h6.reg.ap2 (by decide) h6.dm);obtain⟨w8,hrun,hm8,hs8⟩:=hm6.put hr.last ((s.last+1:Nat):Int) (GD (by have:=hr.last;omega)) true;obtain⟨hI8,hG8⟩:=hI7.setM hs8 (ws:=(s.last+1)::s.words) (by rw [ub];exact hm8);exact⟨rfl,_,w8,hI8,((aZ.no D hs6).trans hG7).trans hG8,hrun,⟨hI7.bk.at 29 rfl,hI7.bk.at 0 rfl⟩,⟨hI8.bk.at 29 rfl,hI8.bk.at 0 rfl⟩⟩
def yu(s:Cn):Bool:=s.p.waits&&(s.r.isEmpty&& !s.word)
theorem wl(w0 w:World)(D:Nat→Nat→Prop)(c:Nat)(z:Zn)(K:Kn)(s:Cn)(h:aq w0 w D c z K s)(hf:fD K s=false)(he:s.ending=false)(h3:s.p.phase≠3)(h4:s.p.phase≠4)(hs:yu s=true)(hr:zR s ic.length):
 Calls Tryz.prog 67 #[.pointer (some ⟨c,0,none⟩)] w (dN w0 w D c z K true s.say):=by
 unfold yu at hs;rw [Bool.and_eq_true,Bool.and_eq_true] at hs;obtain⟨hw,hre,hwo⟩:=hs;have hr0:s.r.length=0:=by cases hh:s.r with
  |nil=>rfl
  |cons a l=>rw [hh] at hre;cases hre
 have hwo:s.word=false:=by simpa using hwo
 have HFd:=aa (dH w0 w D c z K s h hr.ps);rw [hf] at HFd;have HC:=aa (fun (W:World) (hs:Sm No w W)=>(show W.cell? ⟨c,25,none⟩=some (.bool false)∧W.cell? ⟨c,19,none⟩=some (.pointer (some ⟨z.gp,0,none⟩))∧W.cell? ⟨c,18,none⟩=some (.pointer (some ⟨z.gr,0,none⟩))∧W.cell? ⟨c,28,none⟩=some (.bool false)∧W.frozen? ⟨c,28,none⟩=false from⟨((h.no hs).bk.at 25 (v:=.bool s.ending) rfl).trans (by rw [he]),(h.no hs).bk.at 19 rfl,(h.no hs).bk.at 18 rfl,((h.no hs).bk.at 28 (v:=.bool s.word) rfl).trans (by rw [hwo]),(h.no hs).bk.fz 28⟩));have HP:=aa (fun (W:World) (hs:Sm No w W)=>dx W (D 5) z.gp s.p (h.no hs).pp);have HW:=aa (fun (W:World) (hs:Sm No w W)=>mY W (D 5) z.gp s.p (h.no hs).pp);have HR:=aa (fun (W:World) (hs:Sm No w W)=>(h.no hs).rg.elim fun gb e=>e.elim fun f e=>e.elim fun M e=>ew W z.gr gb K.n f M s.r e.1);have hcl:=h.bk.lt;have HI:=aa (ab h hr);obtain⟨gq,gs,gr,gp,gm⟩:=z;dsimp only at HP HW HR HC;obtain⟨ph,hph⟩:∃ n,s.p.phase=n:=⟨_,rfl⟩;rw [hph] at HP h3 h4;rw [hw] at HW;rw [hr0] at HR;have e3:(ph==3)=false:=by simpa using h3
 have e4:(ph==4)=false:=by simpa using h4
 clear hf h hph hw hre hwo hr0 hr h3 h4;go_in;go_wp2_with fail;refine HFd.out.mono ?_;rintro e w1 ⟨rfl,hs1⟩;obtain⟨c25,c19,c18, -, -⟩:=HC.out w1 hs1;have hcl1:=Nat.lt_of_lt_of_le hcl hs1.size;have HP1:=aa (HP.out w1 hs1);have HW1:=aa (HW.out w1 hs1);have H1:=aa hs1;clear hs1;go_wp2_with (first
  |(go_at_call 68;refine HP1.out.mono ?_;rintro e w2 ⟨rfl,rfl⟩)
  |(go_at_call 103;refine HW1.out.mono ?_;rintro e w3 ⟨rfl,hs3⟩;have hs13:=H1.out.tt hs3;obtain⟨-, -,d18,d28,z28⟩:=HC.out w3 hs13;have hcl3:=Nat.lt_of_lt_of_le hcl1 hs3.size;have H3:=aa hs13;clear hs3 hs13)
  |(go_at_call 69;refine(HR.out _ H3.out).mono ?_;rintro e w5 ⟨rfl,rfl⟩))
 obtain⟨w4,hw4⟩:=ai (w3.setCell ⟨c,28,none⟩ (.bool true));rw [hw4];obtain⟨hI4,hG4⟩:=(HI.out.1.no H3.out).setC (w':=w4) (by rw [←hw4];exact(Sm.refl _ w3).set1 28 _) {s with word:=true} (by rw [←hw4];exact((HI.out.1.no H3.out).bk.set 28 _).eq rfl) rfl;have H4:=aa (ab hI4 ((aZ.no D H3.out).trans hG4));have HC4:=aa (fun (W:World) (hs:Sm No w4 W)=>show W.cell? ⟨c,29,none⟩=some (.map (some gm))∧W.cell? ⟨c,0,none⟩=some (.pointer (some ⟨gq,0,none⟩)) from⟨(hI4.no hs).bk.at 29 rfl,(hI4.no hs).bk.at 0 rfl⟩);have K0:=HC4.out w4.drew (Sm.refl No w4).drew;clear hI4 hG4 hw4 c25 c19 c18 d18 d28 z28;have HCo:=aa (nX w4.drew);have hwt:ic.length=25:=rfl
 go_region_held3 (fun w'=>w'.cell? ⟨c,29,none⟩=some (.map (some gm))∧w'.cell? ⟨c,0,none⟩=some (.pointer (some ⟨gq,0,none⟩))) (first|exact K0|exact K5|exact K6|exact K7|exact K8)
  ((first
    |(go_at_call 104;refine HCo.out.mono ?_;rintro e w5 ⟨v5,rfl,hO5,hs5⟩;have hw5:=(Sm.refl No w4).drew.tt hs5;have K5:=HC4.out w5 hw5;obtain⟨g5,cp5,hv5,hl5,hR5⟩:=BT hO5;subst hv5;have K6:=HC4.out _ (hw5.alloc (.cells #[.slice (some ⟨g5,0,none⟩) 25 cp5] 34));have H5:=aa (ab hw5 (ab hl5 hR5));have HA:=aa (Di (H4.out.1.no hw5) HI.out.2 (g5:=g5) (cp:=cp5) hR5 (fun e=>Nat.lt_irrefl _ (Nat.lt_of_lt_of_le (H4.out.1.reg.lt 2 _ e) hl5)));clear hs5 hO5 hl5 hR5 hw5)
    |(go_at_call 71;refine HA.out.mono ?_;rintro e w7 ⟨rfl,D7,w8,hI8,hG8,hrun,hK7,hK8⟩;(try dsimp only at hrun);have K7:=hK7;have K8:=hK8;have H8:=aa (ab hI8 hG8);clear hI8 hG8 hK7 hK8)))
 go_wp2_with fail;go_ret;exact⟨rfl,_,H8.out.1,H4.out.2.trans ((aZ.no D H5.out.1).trans H8.out.2)⟩
theorem sy(w0 w:World)(D:Nat→Nat→Prop)(c:Nat)(z:Zn)(K:Kn)(s:Cn)(h:aq w0 w D c z K s)(hf:fD K s=false)(hps:s.ps.length≤100000)(he:s.ending=false)(h3:s.p.phase≠3)(h4:s.p.phase≠4)(hs:yu s=false):
 Calls Tryz.prog 67 #[.pointer (some ⟨c,0,none⟩)] w (dN w0 w D c z K false s):=by
 unfold yu at hs;have HFd:=aa (dH w0 w D c z K s h hps);rw [hf] at HFd;have HC:=aa (fun (W:World) (hs:Sm No w W)=>(show W.cell? ⟨c,25,none⟩=some (.bool false)∧W.cell? ⟨c,19,none⟩=some (.pointer (some ⟨z.gp,0,none⟩))∧W.cell? ⟨c,18,none⟩=some (.pointer (some ⟨z.gr,0,none⟩))∧W.cell? ⟨c,28,none⟩=some (.bool s.word) from⟨((h.no hs).bk.at 25 (v:=.bool s.ending) rfl).trans (by rw [he]),(h.no hs).bk.at 19 rfl,(h.no hs).bk.at 18 rfl,(h.no hs).bk.at 28 rfl⟩));have HP:=aa (fun (W:World) (hs:Sm No w W)=>dx W (D 5) z.gp s.p (h.no hs).pp);have HW:=aa (fun (W:World) (hs:Sm No w W)=>mY W (D 5) z.gp s.p (h.no hs).pp);have HR:=aa (fun (W:World) (hs:Sm No w W)=>(h.no hs).rg.elim fun gb e=>e.elim fun f e=>e.elim fun M e=>ew W z.gr gb K.n f M s.r e.1);have hcl:=h.bk.lt;have HI:=aa h;obtain⟨gq,gs,gr,gp,gm⟩:=z;dsimp only at HP HW HR HC;obtain⟨ph,hph⟩:∃ n,s.p.phase=n:=⟨_,rfl⟩;obtain⟨wt,hwt⟩:∃ n,s.p.waits=n:=⟨_,rfl⟩;obtain⟨nr,hnr⟩:∃ n,s.r.length=n:=⟨_,rfl⟩;obtain⟨wo,hwo⟩:∃ n,s.word=n:=⟨_,rfl⟩;have hie:s.r.isEmpty=decide (nr=0):=by rw [←hnr];cases s.r<;>simp
 rw [hph] at HP h3 h4;rw [hwt] at HW;rw [hnr] at HR;rw [hwo] at HC;rw [hwt,hwo,hie] at hs;have HS:=aa hs;have e3:(ph==3)=false:=by simpa using h3
 have e4:(ph==4)=false:=by simpa using h4
 clear hf h hph hwt hnr hwo hie h3 h4 hs;go_in;go_wp2_with fail;refine HFd.out.mono ?_;rintro e w1 ⟨rfl,hs1⟩;obtain⟨c25,c19,c18, -⟩:=HC.out w1 hs1;have hcl1:=Nat.lt_of_lt_of_le hcl hs1.size;have HP1:=aa (HP.out w1 hs1);have HW1:=aa (HW.out w1 hs1);have H1:=aa hs1;clear hs1
 cases wt with
 |false=>
  go_wp2_with (first
   |(go_at_call 68;refine HP1.out.mono ?_;rintro e w2 ⟨rfl,rfl⟩)
   |(go_at_call 103;refine HW1.out.mono ?_;rintro e w3 ⟨rfl,hs3⟩;have H3:=aa (H1.out.tt hs3);clear hs3))
  go_ret;exact⟨rfl,D,HI.out.no H3.out,aZ.no D H3.out⟩
 |true=>
  have hsz:nr=0→wo=true:=fun e=>by have:=HS.out;rw [e] at this;simpa using this
  by_cases h0:nr=0
  ·have hwo:=hsz h0;subst h0 hwo;go_wp2_with (first
    |(go_at_call 68;refine HP1.out.mono ?_;rintro e w2 ⟨rfl,rfl⟩)
    |(go_at_call 103;refine HW1.out.mono ?_;rintro e w3 ⟨rfl,hs3⟩;have hs13:=H1.out.tt hs3;obtain⟨-, -,d18,d28⟩:=HC.out w3 hs13;have hcl3:=Nat.lt_of_lt_of_le hcl1 hs3.size;have H3:=aa hs13;clear hs3 hs13)
    |(go_at_call 69;refine(HR.out _ H3.out).mono ?_;rintro e w5 ⟨rfl,rfl⟩))
   go_ret;exact⟨rfl,D,HI.out.no H3.out,aZ.no D H3.out⟩
  ·have k0:((nr:Int)==0)=false:=by simpa using h0
   go_wp2_with (first
    |(go_at_call 68;refine HP1.out.mono ?_;rintro e w2 ⟨rfl,rfl⟩)
    |(go_at_call 103;refine HW1.out.mono ?_;rintro e w3 ⟨rfl,hs3⟩;have hs13:=H1.out.tt hs3;obtain⟨-, -,d18,d28⟩:=HC.out w3 hs13;have hcl3:=Nat.lt_of_lt_of_le hcl1 hs3.size;have H3:=aa hs13;clear hs3 hs13)
    |(go_at_call 69;refine(HR.out _ H3.out).mono ?_;rintro e w5 ⟨rfl,rfl⟩))
   go_ret;exact⟨rfl,D,HI.out.no H3.out,aZ.no D H3.out⟩
end Go.Proofs.YtadcjgopaadfjaaGreatDoor
