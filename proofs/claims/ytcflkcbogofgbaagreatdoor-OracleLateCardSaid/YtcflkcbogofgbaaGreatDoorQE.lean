import Derived.Test.YtcflkcbogofgbaaGreatDoorQQ
import Derived.Test.YtcflkcbogofgbaaGreatDoorQD
import Derived.Test.YtcflkcbogofgbaaGreatDoorQJ
import Derived.Test.YtcflkcbogofgbaaGreatDoorQX
import Derived.Lib.AppendStr
import Derived.Test.YtcflkcbogofgbaaGreatDoorQS
import Derived.Test.YtcflkcbogofgbaaGreatDoorQO
namespace Go.Proofs.YtcflkcbogofgbaaGreatDoor
open Go.RowKit Go.Proofs
def yN(n:af):Bool:=bA n cQ.data.toList||(bA n fq.data.toList||bA n ji.data.toList)
def iK(n:Nat):Nat→List Nat→Option Nat
 |last,[]=>some last
 |last,p::r=>if p≤last∨n < p then none else iK n p r
def iy(n:Nat)(l:List Nat):Bool:=match iK n 0 l with
 |none=>false
 |some last=>l.isEmpty||last==n
def fL(x:aJ):Bool:=ny x&& !yN (ab x.1)
def zU(r:gA):Bool:=(decide (200≤r.st)&&decide (r.st≤599))&&(decide (r.fs.length≤24)&&(r.fs.all fL&&(iy r.body.length r.parts&&(r.body.isEmpty|| !ck r.st))))
theorem BX{r:gA}(h1:200≤r.st∧r.st≤599)(h2:r.fs.length≤24)(h3:r.fs.all fL=true)(h4:iy r.body.length r.parts=true):zU r=(r.body.isEmpty|| !ck r.st):=by
 unfold zU;rw [decide_eq_true h1.1,decide_eq_true h1.2,decide_eq_true h2,h3,h4];simp
def dn:af:=[13,10]
def zN:af:=[72,84,84,80,47,49,46,49,32]
def G8:af:=[84,114,97,110,115,102,101,114,45,69,110,99,111,100,105,110,103,58,32,99,104,117,110,107,101,100]
def GX:af:=[67,111,110,116,101,110,116,45,76,101,110,103,116,104,58,32]
def II:af:=[67,111,110,110,101,99,116,105,111,110,58,32,99,108,111,115,101]
def Hx:af:=[67,111,110,110,101,99,116,105,111,110,58,32,107,101,101,112,45,97,108,105,118,101]
def Ij:af:=[48,13,10,13,10]
def pL(c:Int):af:=zN++(Lib.itoa c++(32::(aQ c++dn)))
def CR(x:aJ):af:=ab x.1++(58::32::(ab x.2++dn))
def cE(l:List aJ):af:=(l.map CR).flatten
def E6(r:gA)(minor:Int):Bool:= !r.parts.isEmpty&&decide (0 < minor)
def lN(r:gA)(minor:Int):af:=if ck r.st=true then [] else if E6 r minor=true then G8++dn else GX++(Lib.itoa r.body.length++dn)
def oc(minor:Int)(close:Bool):af:=if close=true then II++dn else if minor < 1 then Hx++dn else []
def ml(r:gA)(minor:Int)(close:Bool):af:=pL r.st++(cE r.fs++(lN r minor++(oc minor close++dn)))
def ra(p:af):af:=if p=[] then [] else tU 16 p.length++(dn++(p++dn))
def yy(l:List af):af:=(l.map ra).flatten++Ij
def C0(b:af):Nat→List Nat→List af
 |_,[]=>[]
 |f,p::l=>(b.take p).drop f::C0 b p l
def jn(r:gA)(head:Bool)(minor:Int):af:=if head=true then [] else if E6 r minor=true then yy (C0 r.body 0 r.parts) else r.body
def gQ(r:gA)(head:Bool)(minor:Int)(close:Bool):af:=ml r minor close++jn r head minor
def sd(r:gA)(head:Bool)(minor:Int)(close:Bool):Int:=if zU r=false then 1 else if 65536 < (gQ r head minor close).length then 9 else 0
theorem Dw{r:gA}{head close:Bool}{minor:Int}(h:zU r=true)(hl:65536 < (gQ r head minor close).length):sd r head minor close=9:=by unfold sd;rw [if_neg (by rw [h];decide),if_pos hl]
theorem Gr{r:gA}{head close:Bool}{minor:Int}(h:zU r=true)(hl:(gQ r head minor close).length≤65536):sd r head minor close=0:=by unfold sd;rw [if_neg (by rw [h];decide),if_neg (by omega)]
theorem wO{l:List aJ}{k:Nat}(h:k < l.length):cE (l.take (k+1))=cE (l.take k)++CR l[k]:=by
 unfold cE;rw [List.take_add_one,List.getElem?_eq_getElem h,List.map_append,List.flatten_append];simp
theorem vG(l:List aJ)(k:Nat):(cE (l.take k)).length≤(cE l).length:=by
 have h:cE l=cE (l.take k)++cE (l.drop k):=by
  unfold cE;rw [←List.flatten_append,←List.map_append,List.take_append_drop]
 rw [h,List.length_append];omega
theorem qv(r:gA)(head close:Bool)(minor:Int)(k:Nat):(pL r.st++cE (r.fs.take k)).length≤(gQ r head minor close).length:=by
 have:=vG r.fs k;unfold gQ ml;simp only [List.length_append] at *;omega
theorem qJ(r:gA)(head close:Bool)(minor:Int):(gQ r head minor close).length=(ml r minor close).length+(jn r head minor).length:=by unfold gQ;rw [List.length_append]
theorem qh{n:Nat}:∀ {l:List Nat} {f m:Nat},iK n f l=some m→f≤n→m≤n∧f≤m∧∀ p∈l,p≤n∧f < p
 |[],f,m,h,hf=>by
  injection h with h;subst h;exact⟨hf,Nat.le_refl _,fun p hp=>by cases hp⟩
 |p::l,f,m,h,hf=>by
  unfold iK at h;by_cases hc:p≤f∨n < p
  ·rw [if_pos hc] at h;cases h
  ·rw [if_neg hc] at h;obtain⟨h1,h2,h3⟩:=qh h (by omega);refine⟨h1,by omega,fun q hq=> ?_⟩;rcases List.mem_cons.1 hq with rfl|hq
   ·omega
   ·have:=h3 q hq;omega
theorem ub(r:gA)(minor:Int)(h:r.body.length≤1000000):(lN r minor).length≤40:=by
 have:=fS (c:=(r.body.length:Int)) (by omega) (by omega);unfold lN;split
 ·simp
 ·split
  ·simp only [List.length_append];have:G8.length=26:=rfl;have:dn.length=2:=rfl;omega
  ·simp only [List.length_append];have:GX.length=16:=rfl;have:dn.length=2:=rfl;omega
theorem ux(minor:Int)(close:Bool):(oc minor close).length≤24:=by
 unfold oc;split
 ·decide
 ·split
  ·decide
  ·decide
theorem CC(m:Nat):(tU 16 m).length≤m+1:=by
 induction m using Nat.strongRecOn with
 |_ m ih=>
  by_cases h:m < 16
  ·rw [vA h];simp
  ·rw [AQ h (by omega),List.length_append];have h1:=ih (m / 16) (by omega);have:[CO (m % 16)].length=1:=rfl;omega
theorem zk(p:af):(ra p).length≤2 * p.length+5:=by
 unfold ra;split
 ·simp
 ·simp only [List.length_append];have:=CC p.length;have:dn.length=2:=rfl;omega
theorem uK(b:af){n:Nat}:∀ (l:List Nat) (f m:Nat),iK n f l=some m→((C0 b f l).map ra).flatten.length+7 * f≤7 * m
 |[],f,m,h=>by
  injection h with h;subst h;simp [C0]
 |p::l,f,m,h=>by
  unfold iK at h;by_cases hc:p≤f∨n < p
  ·rw [if_pos hc] at h;cases h
  ·rw [if_neg hc] at h;have h1:=uK b l p m h;have h2:=zk ((b.take p).drop f);have h3:((b.take p).drop f).length≤p-f:=by
    rw [List.length_drop,List.length_take];omega
   unfold C0;rw [List.map_cons,List.flatten_cons,List.length_append];omega
def qX(w:World)(A:Option Addr)(ls:List af):Prop:=
 ∀ j,(h:j < ls.length)→∃ bb off A' c',A=some ⟨bb,off,none⟩∧bb < w.heap.size∧w.cell? ⟨bb,off+j,none⟩=some (.slice A' ls[j].length c')∧ar w A' (bC ls[j])∧(A'=none→ls[j].length=0∧c'=0)
theorem qX.no{w w':World}{A:Option Addr}{ls:List af}(h:qX w A ls)(hs:Sm No w w'):qX w' A ls:=by
 intro j hj;obtain⟨bb,off,A',c',h1,h2,h3,h4,h5⟩:=h j hj;exact⟨bb,off,A',c',h1,Nat.lt_of_lt_of_le h2 hs.size,hs.keep h2 (fun h=>h) h3,h4.no hs,h5⟩
section
variable {ops:Array Oper} {rest:List Oper} {o:Oper} {a:Act} {w:World} {Q:Exit→Act→World→Prop}
end
theorem ay.push2{w:World}{B:Nat}{v:Value}{l m:af}(h:w.ownsRow B 5 1 v (l.length+m.length) (l.map aM++bC m)):ay w B v (l++m):=by
 show w.ownsRow B 5 1 v (l++m).length ((l++m).map aM);rw [List.length_append,List.map_append];exact h
def yj(w:World)(r:gA)(head:Bool)(minor:Int)(close:Bool)(e:Ending)(w':World):Prop:=
 ∃ v,e=.returned (.tuple #[v,.int .i64 (sd r head minor close)])∧(sd r head minor close=0→lO w' w.heap.size 5 v (gQ r head minor close))∧Sm No w w'
theorem yj.no{w w':World}{r:gA}{head close:Bool}{minor c:Int}(h:sd r head minor close=c)(hc:c≠0)(hs:Sm No w w'):yj w r head minor close (.returned (.tuple #[.slice none 0 0,.int .i64 c])) w':=
 ⟨.slice none 0 0,by rw [h],fun e=>absurd (h.symm.trans e) hc,hs⟩
def IT(w:World)(T:af)(v:Value)(wx:World):Prop:=lO wx w.heap.size 5 v T∧Sm No w wx
theorem Gw:(Tryz.prog.info? 22).map (fun i=>(i.zero,i.size,i.bytes))=some (some (.slice none 0 0),1,24):=by kernel_rfl
theorem IT.push{w w6 w7:World}{v v':Value}{l m:af}(h6:Sm No w w6)(h0:lO w6 w.heap.size 5 v l)(h:aV w7 w.heap.size 5 1 v' (l.length+m.length) (bC l++bC m))(hs:Sm (fun b=>v.ownBlock=some b) w6 w7):IT w (l++m) v' w7:=by
 refine⟨?_,h6.trans hs (fun b hb e=>by have:=(h0.lt b e).1;omega)⟩;show aV w7 w.heap.size 5 1 v' (l++m).length (bC (l++m));rw [List.length_append,ky];exact h
theorem yO{c:Int}(h0:200≤c)(h1:c≤9223372036854775807):(pL c).length≤63:=by
 have:=fS (c:=c) (by omega) h1;have:=fo c;unfold pL;simp only [List.length_append,List.length_cons];have:zN.length=9:=rfl;have:dn.length=2:=rfl;omega
end Go.Proofs.YtcflkcbogofgbaaGreatDoor
