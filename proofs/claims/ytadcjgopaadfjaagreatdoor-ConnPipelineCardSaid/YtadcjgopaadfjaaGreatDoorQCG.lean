import Derived.Test.YtadcjgopaadfjaaGreatDoorQCF
import Derived.Test.YtadcjgopaadfjaaGreatDoorQJ
import Derived.Test.YtadcjgopaadfjaaGreatDoorQPG
set_option maxRecDepth 1000000
namespace Go.Proofs.YtadcjgopaadfjaaGreatDoor
open Go.RowKit Go.Proofs
def IH(K:Kn)(s:Cn)(t:ah)(now:Int):Option Cn:=match rM K s t now with
 |some (s1,_)=>some s1
 |none=>none
def Hh(body:Bool):ah:=if body=true then [80,79,83,84,32,47,101,99,104,111,32,72,84,84,80,47,49,46,49,13,10,72,111,115,116,58,32,97,13,10,67,111,110,116,101,110,116,45,76,101,110,103,116,104,58,32,57,48,13,10,13,10] else [71,69,84,32,47,32,72,84,84,80,47,49,46,49,13,10,72,111,115,116,58,32,97,13,10,88,58,32]
def Hn(body:Bool):Nat:=if body=true then 30 else 20
def Hw:ah:=[72,84,84,80,47,49,46,49,32,52,48,56]
def IG(n i:Nat)(s:Cn):Option Cn:=if i % n=0 then IH G6 s [120] i else some s
def Hg(m n:Nat):Nat→Nat→Cn→Bool
 |0,_,s=>Hl G6 s m&&IQ (Iq G6 s m) fun s=>decide (s.phase=3)&&(decide (s.since=m)&&(decide (s.b.length≤1000000)&&(s.b.take (pR s.b 12)==Hw)))
 |j+1,i,s=>IQ (IG n i s) fun s1=>Hl G6 s1 i&&IQ (Iq G6 s1 i) fun s2=>Hi s2&&(decide (s2.since+eu G6.C s2.phase=m)&&(s2.b.isEmpty&&Hg m n j (i+1) s2))
def It:Bool:=[true,false].all fun body=>(List.range 19).all fun k=>G5 (rM G6 (Cn.new 0) (Hh body) 0) fun s _=>Hg (Hn body) (k+1) (Hn body-1) 1 s
theorem II:It=true:=by decide+kernel
def IV:Kn:=⟨eD 2,lK,4096⟩
def I4:ah:=[71,69,84,32,47,97,32,72,84,84,80,47,49,46,49,13,10,72,111,115,116,58,32,97,13,10,13,10]
def Kl:ah:=[67,111,110,110,101,99,116,105,111,110,58,32,99,108,111,115,101]
def JQ(q:ah):Nat→Nat→Bool
 |0,_=>false
 |j+1,i=>((q.drop i).take 17==Kl)||JQ q j (i+1)
def JZ(q:ah):Bool:=JQ q (q.length-16) 0
def JS(cut:Nat):Bool:=G5 (rM IV (Cn.new 0) (I4.take cut) 0) fun s1 _=>IQ (JA IV s1 1) fun s2=>
 if cut=0 then decide (s2.phase=5)&&(decide (s2.since=1)&&(G5 (rM IV s2 I4 2) fun s3 n=>decide (n=28)&&s3.b.isEmpty)) else
 G5 (rM IV s2 (I4.drop cut) 2) fun s3 _=>(s3.ending==decide (cut < 28))&&(JZ s3.b==decide (cut < 28))&&JJ s3&&
  (IQ (Ie IV s3 s3.b.length 4) fun s4=>decide (cut=28)||(decide (s4.phase=4)&&(decide (s4.since=4)&&decide (s4.taken=1))))
theorem JP:(List.range 29).all JS=true:=by decide+kernel
def I8:ah:=[71,69,84,32,47,107,101,121,63,97,32,72,84,84,80,47,49,46,49,13,10,72,111,115,116,58,32,97,13,10,13,10]
def IW(n:Nat):ah:=(List.replicate n I8).flatten
def Ja(n:Nat):Nat→Nat→Cn→Bool
 |0,_,_=>false
 |j+1,k,s=>if s.b.isEmpty=true then decide (s.phase=5)&&(decide (k=n)&&(decide (s.taken=n)&&(decide (s.laid=n)&&s.closed))) else
  decide (s.phase=3)&&(s.ended&&(JJ s&&IQ (Ie IV s 40 2) fun s2=>Ja n j s2.whole s2))
def JN(n rest:Nat):Bool:=G5 (rM IV (Cn.new 0) (IW n++I8.take rest) 0) fun s1 _=>IQ (JY IV s1 1) fun s2=>Ja n 100 0 s2
theorem JR:(List.range 11).all (fun n=>(List.range 21).all (JN n))=true:=by decide+kernel
def J6(p:Nat):Kn:=⟨eD p,lK,4096⟩
def IY(n:Nat):ah:=(List.replicate n I4).flatten
def Ji(p n:Nat):Nat→Nat→Cn→Bool
 |0,_,s=>decide (s.phase=0)&&s.b.isEmpty
 |j+1,k,s=>decide (s.taken=min n (k+p))&&(decide (s.laid=min n (k+p))&&(decide (s.whole=k)&&(decide (s.ps.length=min n (k+p)-k)&&(JJ s&&(!s.ended&&(!s.ending&&(decide (s.r.length < 4096)&&
  IQ (Ie (J6 p) s ((s.b.length / (min n (k+p)-k):Nat):Int) k) fun s2=>Ji p n j (k+1) s2)))))))
def Ks(p n:Nat):Bool:=G5 (rM (J6 p) (Cn.new 0) (IY n) 0) fun s m=>decide (m=n * 28)&&Ji p n n 0 s
def IT(p:Nat):Bool:=(List.range 30).all fun n=>Ks p (n+1)
def Jn:ah:=[80,79,83,84,32,47,101,99,104,111,32,72,84,84,80,47,49,46,49,13,10,72,111,115,116,58,32,97,13,10,69,120,112,101,99,116,58,32,49,48,48,45,99,111,110,116,105,110,117,101,13,10,67,111,110,116,101,110,116,45,76,101,110,103,116,104,58,32]
def IX(n:Nat):ah:=Jn++(Lib.itoa (n:Int)++[13,10,13,10])
def IU(h:Hd)(n:Nat):ah:=lE (AF (lz h.fields) (List.replicate n 0)) 1 false
def Jf(n:Nat)(h:Hd):Bool:=decide (h.how.len=(n:Int))&&(!h.how.close&&((h.method==nW)&&(decide (h.minor=1)&&(decide (h.target.form=1)&&((h.target.path==dX)&&(((IU h n).take 15==B1)&&decide ((IU h n).length≤1000)))))))
def J1(n:Nat)(s:Cn):Bool:=match s.p with
 | .len h []=>Jf n h
 |_=>false
def J2(n:Nat):Bool:=G5 (rM IV (Cn.new 0) (IX n) 0) fun s1 m=>decide (m=(IX n).length)&&((s1.b==ic)&&(JJ s1&&IQ (Ie IV s1 25 1) fun s=>J1 n s&&(s.r.isEmpty&&(s.b.isEmpty&&(s.ps.isEmpty&&(decide (s.last≤1000)&&(decide (s.phase=2)&&(decide (s.since=1)&&(decide (-1000000≤s.fed)&&(decide (s.fed≤1000000)&&(!s.quitting&&(!s.ending&&(!s.ended&&(!s.closed&&(decide (s.taken=0)&&(decide (s.laid=0)&&decide (s.whole=0)))))))))))))))))
theorem JM:(List.range 200).all (fun n=>J2 (n+1))=true:=by decide+kernel
theorem Js(q:Rq)(hf:q.form=1)(hm:af q.m=nW)(hp:af q.path=dX):co lK q=AF (lz q.fs) q.body:=by
 have e:(aW (ao lK) nW dX).1=1∧(aW (ao lK) nW dX).2.2.2=200:=by decide+kernel
 unfold co;rw [hm,hp,hf,e.1,e.2,if_neg (by decide),if_neg (by decide),if_neg (by decide),if_neg (by decide)];unfold Dg;rw [if_pos rfl]
theorem I6{n:Nat}{h:Hd}(w:Jf n h=true):h.how.len=(n:Int)∧h.how.close=false∧h.method=nW∧h.minor=1∧h.target.form=1∧h.target.path=dX∧(IU h n).take 15=B1∧(IU h n).length≤1000:=by
 simp only [Jf,Bool.and_eq_true,decide_eq_true_eq,Bool.not_eq_true',beq_iff_eq] at w;exact w
theorem JT{n:Nat}{h:Hd}(w:Jf n h=true){body:ah}(hn:body.length=n):co lK (CA (h,body))=AF (lz h.fields) body∧Ax lK false (h,body)=IU h n++body:=by
 obtain⟨w1,w2,w3,w4,w5,w6,w7,w8⟩:=I6 w;have e:co lK (CA (h,body))=AF (lz h.fields) body:=Js _ w5 (show h.method.toArray.toList=nW by rw [w3]) (show h.target.path.toArray.toList=dX by rw [w6]);refine⟨e,?_⟩;unfold Ax;rw [e];dsimp only;rw [w2,w3,w4];show lE _ 1 false++iL _ false 1=_;have e1:lE (AF (lz h.fields) body) 1 false=IU h n:=by
  unfold IU lE kW Ey AF;dsimp only;rw [hn,List.length_replicate]
 rw [e1];rfl
theorem JH{n:Nat}{h:Hd}(hl:h.how.len=(n:Int)){body:ah}(hn:body.length=n)(h1:1≤n):aS (.len h []) body=(.whole h body,n):=by
 have e:=oW h (n-1) [] body (by omega) (by rw [hl,List.length_nil];omega);rw [e,if_pos (by rw [hl,List.length_nil];omega),show n-1+1=n by omega,←hn,List.take_length,List.drop_length,List.nil_append];show ((cP.whole h body),0+body.length)=_;rw [Nat.zero_add]
theorem Jh{K:Kn}{k:Nat}{s s':Cn}(h1:s.closed=false)(h2:Gj K s=true)(h3:xe K s=some s'):mP K (k+1) s=mP K k s':=by
 rw [mP,if_neg (by rw [h1];decide),if_neg (by rw [h2];decide),h3]
theorem I7{K:Kn}{k:Nat}{s:Cn}(h1:s.closed=false)(h2:Gj K s=true)(h3:xe K s=none)(hb:s.b≠[]):mP K (k+1) s=some s:=by
 rw [mP,if_neg (by rw [h1];decide),if_neg (by rw [h2];decide),h3];show some s.fin=_;unfold Cn.fin;rw [if_pos (by cases e:s.b with
  |nil=>exact absurd e hb
  |cons a l=>rfl)]
theorem Jo(s:Cn)(now ph:Int)(td:Nat):(s.turn now ph td).b=s.b∧(s.turn now ph td).taken=s.taken∧(s.turn now ph td).laid=s.laid∧(s.turn now ph td).whole=s.whole:=by
 unfold Cn.turn;split<;>exact⟨rfl,rfl,rfl,rfl⟩
theorem JI{n:Nat}(hn1:1≤n∧n≤200){body:ah}(hn:body.length=n){s:Cn}(hl:J1 n s=true)(hr:s.r=[])(hb:s.b=[])(hps:s.ps=[])(hla:s.last≤1000)(hf1: -1000000≤s.fed)(hf2:s.fed≤1000000)(hq:s.quitting=false)(he:s.ending=false)(hd:s.ended=false)(hc:s.closed=false)(ht:s.taken=0)(hld:s.laid=0)(hw:s.whole=0):
 ∃ h s4,Jf n h=true∧rM IV s body 2=some (s4,n)∧s4.taken=1∧s4.laid=1∧s4.whole=0∧s4.b=IU h n++body:=by
 obtain⟨r,p,b,ps,last,phase,since,paced,fed,quitting,ending,ended,closed,word,words,taken,laid,whole,told⟩:=s;dsimp only at hr hb hps hla hf1 hf2 hq he hd hc ht hld hw;subst hr hb hps hq he hd hc ht hld hw;unfold J1 at hl;dsimp only at hl;split at hl
 case h_2=>cases hl
 case h_1 h=>
 obtain⟨w1,w2,w3,w4,w5,w6,w7,w8⟩:=I6 hl;obtain⟨a1,a2⟩:=JT hl hn;have hbn:body≠[]:=fun e=>by rw [e] at hn;simp at hn;omega
 have hbe:body.isEmpty=false:=by cases body with
  |nil=>exact absurd rfl hbn
  |cons a l=>rfl
 have hfe:=JH w1 hn hn1.1;have hal:(IU h n++body).length≤1200:=by rw [List.length_append,hn];omega
 have hane:IU h n++body≠[]:=fun e=>hbn (List.append_eq_nil_iff.1 e).2;obtain⟨sA,hA⟩:∃ x:Cn,x=⟨body,.len h [],[],[],last,phase,since,paced,fed,false,false,false,false,word,words,0,0,0,told⟩:=⟨_,rfl⟩;obtain⟨sB,hB⟩:∃ x:Cn,x=⟨[],.whole h body,[],[],last,phase,since,paced,fed+(n:Int),false,false,false,false,word,words,0,0,0,told⟩:=⟨_,rfl⟩;obtain⟨sC,hC⟩:∃ x:Cn,x=⟨[],.idle,IU h n++body,[(last+1,(IU h n++body).length)],last+1,phase,since,paced,fed+(n:Int),false,false,false,false,false,words,1,1,0,told⟩:=⟨_,rfl⟩;have oA:Gj IV sA=true:=by rw [hA];simp [Gj];omega
 have tA:xe IV sA=some sB:=by
  have hfd:fD IV sA=true:=by rw [hA];simp [fD,cP.phase,hbe,IV,eD]
  unfold xe;rw [if_pos hfd,hA,hB];unfold Cn.feed;dsimp only;rw [hfe];dsimp only;rw [List.drop_eq_nil_of_le (by omega)]
 have oB:Gj IV sB=true:=by
  rw [hB];have e:(co IV.T (CA (h,body))).parts.isEmpty=true:=by rw [show IV.T=lK from rfl,a1];rfl
  simp [Gj];refine⟨by omega,by omega,by omega,?_⟩;exact List.isEmpty_iff.1 e
 have tB:xe IV sB=some sC:=by
  have hfd:fD IV sB=false:=by rw [hB];simp [fD,cP.phase]
  unfold xe;rw [if_neg (by rw [hfd];decide),hB];dsimp only;rw [if_neg (by decide),hC];unfold Cn.take Cn.lay Cn.add;dsimp only;rw [show IV.T=lK from rfl,a2,w2];simp
 have oC:Gj IV sC=true:=by rw [hC];simp [Gj];rw [List.length_append] at hal;omega
 have tC:xe IV sC=none:=by
  have hfd:fD IV sC=false:=by rw [hC];simp [fD]
  unfold xe;rw [if_neg (by rw [hfd];decide),hC];dsimp only;rw [if_neg (by decide)];simp [cP.waits]
 have cA:sA.closed=false:=by rw [hA]
 have cB:sB.closed=false:=by rw [hB]
 have cC:sC.closed=false:=by rw [hC]
 have bC:sC.b≠[]:=by rw [hC];exact hane
 have wA:lp IV sA=some sC:=by
  show mP IV (39997+1+1+1) sA=_;rw [Jh cA oA tA,Jh cB oB tB,I7 cC oC tC bC]
 have wC:lp IV sC=some sC:=by
  show mP IV (39999+1) sC=_;rw [I7 cC oC tC bC]
 refine⟨h,sC.turn 2 phase told,hl,?_,?_⟩
 ·unfold rM;rw [if_neg (show ¬((false||(false||false))=true) by decide)];have hwr:(Cn.write IV ⟨[],.len h [],[],[],last,phase,since,paced,fed,false,false,false,false,word,words,0,0,0,told⟩ body)=sA:=by
   rw [hA];unfold Cn.write;dsimp only;rw [List.nil_append,List.take_of_length_le (by show _≤4096-0;omega)]
  have hpf:kt IV bY ⟨[],.len h [],[],[],last,phase,since,paced,fed,false,false,false,false,word,words,0,0,0,told⟩ body=some (sC,n):=by
   show kt IV (39999+1) _ _=_;rw [kt,hwr,wA];dsimp only;have hm:min body.length (IV.n-([]:ah).length)=n:=by show min body.length (4096-0)=n;omega
   rw [if_neg (by rw [hC];exact(show ¬((false||false)=true) by decide)),hm,hn,if_pos (Or.inr rfl)]
  rw [hpf];dsimp only;unfold ET;dsimp only;rw [wC]
 ·obtain⟨k1,k2,k3,k4⟩:=Jo sC 2 phase told;rw [k1,k2,k3,k4,hC];exact⟨rfl,rfl,rfl,rfl⟩
end Go.Proofs.YtadcjgopaadfjaaGreatDoor
