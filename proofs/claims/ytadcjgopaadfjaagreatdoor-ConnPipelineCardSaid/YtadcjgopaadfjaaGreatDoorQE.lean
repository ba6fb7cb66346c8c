import Derived.Test.YtadcjgopaadfjaaGreatDoorQQ
import Derived.Test.YtadcjgopaadfjaaGreatDoorQD
import Derived.Test.YtadcjgopaadfjaaGreatDoorQJ
import Derived.Test.YtadcjgopaadfjaaGreatDoorQX
import Derived.Lib.AppendStr
import Derived.Test.YtadcjgopaadfjaaGreatDoorQS
import Derived.Test.YtadcjgopaadfjaaGreatDoorQO
namespace Go.Proofs.YtadcjgopaadfjaaGreatDoor
open Go.RowKit Go.Proofs
def yV(n:ah):Bool:=dp n eH.data.toList||(dp n gS.data.toList||dp n lJ.data.toList)
def gX(n:Nat):Nat→List Nat→Option Nat
 |last,[]=>some last
 |last,p::r=>if p≤last∨n < p then none else gX n p r
def gG(n:Nat)(l:List Nat):Bool:=match gX n 0 l with
 |none=>false
 |some last=>l.isEmpty||last==n
def fI(x:aM):Bool:=oz x&& !yV (af x.1)
def yt(r:fQ):Bool:=(decide (200≤r.st)&&decide (r.st≤599))&&(decide (r.fs.length≤24)&&(r.fs.all fI&&(gG r.body.length r.parts&&(r.body.isEmpty|| !bR r.st))))
theorem Cv{r:fQ}(h1:200≤r.st∧r.st≤599)(h2:r.fs.length≤24)(h3:r.fs.all fI=true)(h4:gG r.body.length r.parts=true):yt r=(r.body.isEmpty|| !bR r.st):=by
 unfold yt;rw [decide_eq_true h1.1,decide_eq_true h1.2,decide_eq_true h2,h3,h4];simp
def cZ:ah:=[13,10]
def nV:ah:=[72,84,84,80,47,49,46,49,32]
def Gm:ah:=[84,114,97,110,115,102,101,114,45,69,110,99,111,100,105,110,103,58,32,99,104,117,110,107,101,100]
def FT:ah:=[67,111,110,116,101,110,116,45,76,101,110,103,116,104,58,32]
def GQ:ah:=[67,111,110,110,101,99,116,105,111,110,58,32,99,108,111,115,101]
def F9:ah:=[67,111,110,110,101,99,116,105,111,110,58,32,107,101,101,112,45,97,108,105,118,101]
def F4:ah:=[48,13,10,13,10]
def oy(c:Int):ah:=nV++(Lib.itoa c++(32::(aE c++cZ)))
def B8(x:aM):ah:=af x.1++(58::32::(af x.2++cZ))
def ci(l:List aM):ah:=(l.map B8).flatten
def Ey(r:fQ)(minor:Int):Bool:= !r.parts.isEmpty&&decide (0 < minor)
def kW(r:fQ)(minor:Int):ah:=if bR r.st=true then [] else if Ey r minor=true then Gm++cZ else FT++(Lib.itoa r.body.length++cZ)
def nT(minor:Int)(close:Bool):ah:=if close=true then GQ++cZ else if minor < 1 then F9++cZ else []
def lE(r:fQ)(minor:Int)(close:Bool):ah:=oy r.st++(ci r.fs++(kW r minor++(nT minor close++cZ)))
def pX(p:ah):ah:=if p=[] then [] else tm 16 p.length++(cZ++(p++cZ))
def wR(l:List ah):ah:=(l.map pX).flatten++F4
def Cm(b:ah):Nat→List Nat→List ah
 |_,[]=>[]
 |f,p::l=>(b.take p).drop f::Cm b p l
def iL(r:fQ)(head:Bool)(minor:Int):ah:=if head=true then [] else if Ey r minor=true then wR (Cm r.body 0 r.parts) else r.body
def gw(r:fQ)(head:Bool)(minor:Int)(close:Bool):ah:=lE r minor close++iL r head minor
def qR(r:fQ)(head:Bool)(minor:Int)(close:Bool):Int:=if yt r=false then 1 else if 65536 < (gw r head minor close).length then 9 else 0
theorem FF{r:fQ}{head close:Bool}{minor:Int}(h:yt r=true)(hl:65536 < (gw r head minor close).length):qR r head minor close=9:=by unfold qR;rw [if_neg (by rw [h];decide),if_pos hl]
theorem E0{r:fQ}{head close:Bool}{minor:Int}(h:yt r=true)(hl:(gw r head minor close).length≤65536):qR r head minor close=0:=by unfold qR;rw [if_neg (by rw [h];decide),if_neg (by omega)]
theorem vK{l:List aM}{k:Nat}(h:k < l.length):ci (l.take (k+1))=ci (l.take k)++B8 l[k]:=by
 unfold ci;rw [List.take_add_one,List.getElem?_eq_getElem h,List.map_append,List.flatten_append];simp
theorem vf(l:List aM)(k:Nat):(ci (l.take k)).length≤(ci l).length:=by
 have h:ci l=ci (l.take k)++ci (l.drop k):=by
  unfold ci;rw [←List.flatten_append,←List.map_append,List.take_append_drop]
 rw [h,List.length_append];omega
theorem oN(r:fQ)(head close:Bool)(minor:Int)(k:Nat):(oy r.st++ci (r.fs.take k)).length≤(gw r head minor close).length:=by
 have:=vf r.fs k;unfold gw lE;simp only [List.length_append] at *;omega
theorem pC(r:fQ)(head close:Bool)(minor:Int):(gw r head minor close).length=(lE r minor close).length+(iL r head minor).length:=by unfold gw;rw [List.length_append]
theorem px{n:Nat}:∀ {l:List Nat} {f m:Nat},gX n f l=some m→f≤n→m≤n∧f≤m∧∀ p∈l,p≤n∧f < p
 |[],f,m,h,hf=>by
  injection h with h;subst h;exact⟨hf,Nat.le_refl _,fun p hp=>by cases hp⟩
 |p::l,f,m,h,hf=>by
  unfold gX at h;by_cases hc:p≤f∨n < p
  ·rw [if_pos hc] at h;cases h
  ·rw [if_neg hc] at h;obtain⟨h1,h2,h3⟩:=px h (by omega);refine⟨h1,by omega,fun q hq=> ?_⟩;rcases List.mem_cons.1 hq with rfl|hq
   ·omega
   ·have:=h3 q hq;omega
theorem su(r:fQ)(minor:Int)(h:r.body.length≤1000000):(kW r minor).length≤40:=by
 have:=fF (c:=(r.body.length:Int)) (by omega) (by omega);unfold kW;split
 ·simp
 ·split
  ·simp only [List.length_append];have:Gm.length=26:=rfl;have:cZ.length=2:=rfl;omega
  ·simp only [List.length_append];have:FT.length=16:=rfl;have:cZ.length=2:=rfl;omega
theorem sk(minor:Int)(close:Bool):(nT minor close).length≤24:=by
 unfold nT;split
 ·decide
 ·split
  ·decide
  ·decide
theorem AM(m:Nat):(tm 16 m).length≤m+1:=by
 induction m using Nat.strongRecOn with
 |_ m ih=>
  by_cases h:m < 16
  ·rw [wj h];simp
  ·rw [yp h (by omega),List.length_append];have h1:=ih (m / 16) (by omega);have:[BZ (m % 16)].length=1:=rfl;omega
theorem zk(p:ah):(pX p).length≤2 * p.length+5:=by
 unfold pX;split
 ·simp
 ·simp only [List.length_append];have:=AM p.length;have:cZ.length=2:=rfl;omega
theorem se(b:ah){n:Nat}:∀ (l:List Nat) (f m:Nat),gX n f l=some m→((Cm b f l).map pX).flatten.length+7 * f≤7 * m
 |[],f,m,h=>by
  injection h with h;subst h;simp [Cm]
 |p::l,f,m,h=>by
  unfold gX at h;by_cases hc:p≤f∨n < p
  ·rw [if_pos hc] at h;cases h
  ·rw [if_neg hc] at h;have h1:=se b l p m h;have h2:=zk ((b.take p).drop f);have h3:((b.take p).drop f).length≤p-f:=by
    rw [List.length_drop,List.length_take];omega
   unfold Cm;rw [List.map_cons,List.flatten_cons,List.length_append];omega
theorem I3{w:World}{bb off f p:Nat}{b:ah}(h:ax w (some ⟨bb,off,none⟩) (aL b)):ax w (some ⟨bb,off+f,none⟩) (aL ((b.take p).drop f)):=by
 intro j u hj;have hj2:(aL b)[f+j]?=some u:=by
  unfold aL at hj ⊢;rw [List.getElem?_map] at hj ⊢;rw [List.getElem?_drop,List.getElem?_take] at hj;split at hj
  ·exact hj
  ·cases hj
 obtain⟨b1,o1,e,h1,h2⟩:=h (f+j) u hj2;injection e with e;injection e with e1 e2;subst e1 e2;exact⟨_,_,rfl,h1,by rw [←h2];congr 1;rw [Nat.add_assoc]⟩
def qX(w:World)(A:Option Addr)(ls:List ah):Prop:=
 ∀ j,(h:j < ls.length)→∃ bb off A' c',A=some ⟨bb,off,none⟩∧bb < w.heap.size∧w.cell? ⟨bb,off+j,none⟩=some (.slice A' ls[j].length c')∧ax w A' (aL ls[j])∧(A'=none→ls[j].length=0∧c'=0)
theorem qX.no{w w':World}{A:Option Addr}{ls:List ah}(h:qX w A ls)(hs:Sm No w w'):qX w' A ls:=by
 intro j hj;obtain⟨bb,off,A',c',h1,h2,h3,h4,h5⟩:=h j hj;exact⟨bb,off,A',c',h1,Nat.lt_of_lt_of_le h2 hs.size,hs.keep h2 (fun h=>h) h3,h4.no hs,h5⟩
section
variable {ops:Array Oper} {rest:List Oper} {o:Oper} {a:Act} {w:World} {Q:Exit→Act→World→Prop}
theorem JB (hgd:o.guard=none) (s x:Operand) (ho:o.op=.call {callee:=.builtin .append,args:=#[s,x],argTypes:=#[34,9]})
 (B:Nat) (hB:B≤w.heap.size) (b:ByteArray) (v:Value) (l:ah) (hs:a.eval s=v) (hO:aG w B v l) (hx:a.eval x=.string b) (hl:l.length+b.size≤1000000)
 (h:∀ v' w',aG w' B v' (l++af b)→Sm (fun b=>v.ownBlock=some b) w w'→wpList Tryz.prog ops Q rest (a.put o.dst v') w'):
 wpList Tryz.prog ops Q (o::rest) a w:=by
 obtain⟨i0,hi0,hz0,hz1,hz2⟩:=info_parts fC;refine Lib.wpList_append_own_string w hgd s x 34 9 ho B 5 i0 Tryz.underlying34 Tryz.underlying9 hi0 hz0 hz1 hz2 v l.length (l.map aU) hs hO b hx (by unfold maxLen;omega) (by omega) hB ?_;intro v' w' h1 h2 _;refine h v' w' ?_ ((Sm.refl _ w).grown h2 (fun k hk=>Or.inl hk));have e:(l++af b).length=l.length+b.size:=by rw [List.length_append,ag]
 show w'.ownsRow B 5 1 v' (l++af b).length ((l++af b).map aU);rw [e,List.map_append];exact h1
end
theorem aG.push2{w:World}{B:Nat}{v:Value}{l m:ah}(h:w.ownsRow B 5 1 v (l.length+m.length) (l.map aU++aL m)):aG w B v (l++m):=by
 show w.ownsRow B 5 1 v (l++m).length ((l++m).map aU);rw [List.length_append,List.map_append];exact h
theorem Jc{w0 w w':World}{B:Nat}{v:Value}{l:ah}(h0:Sm No w0 w)(hO:aG w B v l)(hB:w0.heap.size≤B)(hs:Sm (fun b=>v.ownBlock=some b) w w'):Sm No w0 w':=
 h0.trans hs (fun b hb e=>by have:=(World.ownsRow.lt hO b e).1;omega)
def xK(w:World)(r:fQ)(head:Bool)(minor:Int)(close:Bool)(e:Ending)(w':World):Prop:=
 ∃ v,e=.returned (.tuple #[v,.int .i64 (qR r head minor close)])∧(qR r head minor close=0→je w' w.heap.size 5 v (gw r head minor close))∧Sm No w w'
theorem xK.no{w w':World}{r:fQ}{head close:Bool}{minor c:Int}(h:qR r head minor close=c)(hc:c≠0)(hs:Sm No w w'):xK w r head minor close (.returned (.tuple #[.slice none 0 0,.int .i64 c])) w':=
 ⟨.slice none 0 0,by rw [h],fun e=>absurd (h.symm.trans e) hc,hs⟩
def G4(w:World)(T:ah)(v:Value)(wx:World):Prop:=je wx w.heap.size 5 v T∧Sm No w wx
theorem G4.push{w w6 w7:World}{v v':Value}{l m:ah}(h6:Sm No w w6)(h0:je w6 w.heap.size 5 v l)(h:aH w7 w.heap.size 5 1 v' (l.length+m.length) (aL l++aL m))(hs:Sm (fun b=>v.ownBlock=some b) w6 w7):G4 w (l++m) v' w7:=by
 refine⟨?_,h6.trans hs (fun b hb e=>by have:=(h0.lt b e).1;omega)⟩;show aH w7 w.heap.size 5 1 v' (l++m).length (aL (l++m));rw [List.length_append,kG];exact h
theorem Au{c:Int}(h0:200≤c)(h1:c≤9223372036854775807):(oy c).length≤63:=by
 have:=fF (c:=c) (by omega) h1;have:=eR c;unfold oy;simp only [List.length_append,List.length_cons];have:nV.length=9:=rfl;have:cZ.length=2:=rfl;omega
end Go.Proofs.YtadcjgopaadfjaaGreatDoor
