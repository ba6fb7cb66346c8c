import Derived.Test.YtadcjgopaadfjaaGreatDoorQV
import Derived.Test.YtadcjgopaadfjaaGreatDoorQM
import Derived.Test.YtadcjgopaadfjaaGreatDoorQJ
import Derived.Test.YtadcjgopaadfjaaGreatDoorQG
namespace Go.Proofs.YtadcjgopaadfjaaGreatDoor
open Go.RowKit Go.Proofs
def Gt:List Int:=[400,413,414,417,431,501,505]
theorem Eh(b:ah)(p:dG)(c:UInt8)(s:Int)(h:fM b p c=.bad s):s∈Gt:=by
 cases p with
 |data n=>rw [gu] at h;cases h
 |tail k=>
  have e:fM b (.tail k) c=if c=(if k=0 then 13 else 10) then .at b (if k=0 then .tail 1 else .size []) else .bad 400:=rfl;rw [e] at h;by_cases hc:c=(if k=0 then 13 else 10)
  ·rw [if_pos hc] at h;cases h
  ·rw [if_neg hc] at h;injection h with h;subst h;decide
 |size l=>
  rw [fG] at h;split at h
  ·split at h
   ·injection h with h;subst h;decide
   ·unfold dM at h;split at h
    ·injection h with h;subst h;decide
    ·split at h
     ·injection h with h;subst h;decide
     ·split at h
      ·injection h with h;subst h;decide
      ·split at h<;>cases h
  ·split at h
   ·injection h with h;subst h;decide
   ·cases h
 |trail l e ts=>
  rw [ej] at h;split at h
  ·split at h
   ·injection h with h;subst h;decide
   ·unfold cM at h;split at h
    ·cases h
    ·split at h
     ·injection h with h;subst h;decide
     ·split at h
      ·injection h with h;subst h;decide
      ·cases h
  ·split at h
   ·injection h with h;subst h;decide
   ·cases h
theorem E3{c:Int}(h:c∈Gt):c≠0:=by rintro rfl;exact absurd h (by decide)
theorem oU:∀ (a:ah) (s:cP),(aS s a).1.done=false→(aS s a).2=a.length
 |[],s,_=>rfl
 |c::a,s,h=>by
  cases hs:s.done with
  |true=>rw [ez hs] at h;rw [hs] at h;cases h
  |false=>
   rw [da hs] at h ⊢;dsimp only at h ⊢;rw [oU a _ h,List.length_cons]
def CA(x:Hd × ah):Rq:=Fq (Fu x.1 x.2)
def Ax(T:List br)(q:Bool)(x:Hd × ah):ah:=gw (co T (CA x)) (x.1.method==fo) x.1.minor (x.1.how.close||q)
def BW(c:Int):ah:=gw (aD c []) false 1 true
def DR(c a:ah):Prop:=c.length=3∧∃ r,a=nV++(c++32::r)
theorem DR.len{c a:ah}(h:DR c a):13≤a.length:=by
 obtain⟨hc,r,rfl⟩:=h;simp only [List.length_append,List.length_cons,hc];have:nV.length=9:=rfl;omega
theorem DR.ne{c a:ah}(h:DR c a):a≠[]:=fun e=>by have:=h.len;rw [e] at this;exact absurd this (by decide)
theorem Ev{c d a b z:ah}(h:DR c a)(k:DR d b)(hcd:c≠d)(h1:a <+:z)(h2:b <+:z):False:=by
 obtain⟨hc,r,rfl⟩:=h;obtain⟨hd,s,rfl⟩:=k;have e1:(nV++c) <+:z:=List.IsPrefix.trans ⟨32::r,by simp⟩ h1;have e2:(nV++d) <+:z:=List.IsPrefix.trans ⟨32::s,by simp⟩ h2;have e3:(nV++c) <+:(nV++d):=List.prefix_of_prefix_length_le e1 e2 (by simp [hc,hd]);have e4:=e3.eq_of_length (by simp [hc,hd]);exact hcd (List.append_cancel_left e4)
def Gq:ah:=[49,48,48]
def ic:ah:=[72,84,84,80,47,49,46,49,32,49,48,48,32,67,111,110,116,105,110,117,101,13,10,13,10]
theorem CF:DR Gq ic:=⟨rfl,[67,111,110,116,105,110,117,101,13,10,13,10],rfl⟩
def vO:List Int:=[200,204,400,404,405,413,414,417,431,501,505]
def tS(c:Int):ah:=Lib.itoa c
theorem Cw:∀ c∈vO,(tS c).length=3∧tS c≠Gq∧tS c≠tS 408∧tS c≠tS 503:=by decide+kernel
theorem sC{r:fQ}{head close:Bool}{minor:Int}(h:(tS r.st).length=3):DR (tS r.st) (gw r head minor close):=by
 refine⟨h,aE r.st++cZ++(ci r.fs++(kW r minor++(nT minor close++cZ)))++iL r head minor,?_⟩;unfold gw lE oy tS;simp only [List.append_assoc,List.cons_append]
theorem eE(c:Int)(l:List aM):(aD c l).st=c:=by unfold aD;split<;>rfl
theorem AA(T:List br)(q:Rq):(co T q).st∈vO:=by
 unfold co;split
 ·rw [eE];decide
 ·split
  ·rw [eE];decide
  ·split
   ·rw [eE];decide
   ·split
    ·rw [eE];split<;>decide
    ·unfold Dg;split
     ·show (200:Int)∈vO;decide
     ·split
      ·unfold qn;split
       ·show (200:Int)∈vO;decide
       ·rw [eE];decide
      ·split
       ·show (200:Int)∈vO;decide
       ·split
        ·show (200:Int)∈vO;decide
        ·rw [eE];decide
def pG(a:ah):Prop:=∃ c∈vO,DR (tS c) a
theorem pG.ne{a:ah}(h:pG a):a≠[]:=by obtain⟨c,_,h⟩:=h;exact h.ne
theorem pG.len{a:ah}(h:pG a):13≤a.length:=by obtain⟨c,_,h⟩:=h;exact h.len
theorem pG.word{a z:ah}(h:pG a)(h1:a <+:z)(h2:ic <+:z):False:=by
 obtain⟨c,hc,h⟩:=h;exact Ev h CF (Cw c hc).2.1 h1 h2
theorem ow(c:Int)(l:List aM):(aD c l).parts=[]:=by unfold aD;split<;>rfl
end Go.Proofs.YtadcjgopaadfjaaGreatDoor
