import Derived.Test.YtcflkcbogofgbaaGreatDoorQV
import Derived.Test.YtcflkcbogofgbaaGreatDoorQM
import Derived.Test.YtcflkcbogofgbaaGreatDoorQJ
import Derived.Test.YtcflkcbogofgbaaGreatDoorQG
namespace Go.Proofs.YtcflkcbogofgbaaGreatDoor
open Go.RowKit Go.Proofs
def gi:List Int:=[400,413,414,417,431,501,505]
def Ig:cu→Prop
 | .bad s=>s∈gi
 |_=>True
theorem oh(h:Hd):h.long∈gi:=by unfold Hd.long;split<;>decide
theorem vq(h:Hd):Ig (cz h):=by unfold cz;split<;>(try split)<;>trivial
theorem Cv(l:List af):gD l=0∨gD l∈gi:=by
 unfold gD;split
 ·split
  ·exact Or.inl rfl
  ·split<;>exact Or.inr (by decide)
 ·exact Or.inr (by decide)
theorem BU(m:Int)(a b:List ByteArray):iU m a b=0∨iU m a b∈gi:=by
 unfold iU;split
 ·exact Or.inr (by decide)
 ·split
  ·exact Or.inr (by decide)
  ·exact Cv _
theorem Cj(l:List af):(jb l).2=0∨(jb l).2∈gi:=by
 unfold jb;split
 ·exact Or.inr (by decide)
 ·split
  ·split
   ·exact Or.inr (by decide)
   ·exact Or.inl rfl
  ·exact Or.inr (by decide)
theorem zi(m:Int)(fs:List aJ):(bw m fs).2.2=0∨(bw m fs).2.2∈gi:=by
 unfold bw;split
 ·exact BU _ _ _
 ·split
  ·unfold ke;split
   ·exact Or.inr (by decide)
   ·exact Cj _
  ·exact Or.inl rfl
theorem DY(m:Int)(fs:List aJ):(eP m fs).2=0∨(eP m fs).2∈gi:=by
 unfold eP;split
 ·exact Or.inr (by decide)
 ·split
  ·exact zi _ _
  ·split
   ·exact Or.inr (by decide)
   ·split
    ·split
     ·exact Or.inr (by decide)
     ·exact Or.inl rfl
    ·exact Or.inl rfl
theorem DV(v:af):(dI v).1=0∨(dI v).1∈gi:=by
 unfold dI;split
 ·split
  ·split
   ·exact Or.inl rfl
   ·exact Or.inr (by decide)
  ·exact Or.inr (by decide)
 ·exact Or.inr (by decide)
theorem vY(h:Hd)(l:List af):(bz h l).2=0∨(bz h l).2∈gi:=by
 unfold bz;split
 ·split
  ·exact Or.inr (show (400:Int)∈gi by decide)
  ·split
   ·exact DV _
   ·split
    ·exact Or.inl rfl
    ·right;dsimp only;split<;>decide
 ·exact Or.inr (show (400:Int)∈gi by decide)
theorem B3(h:Hd)(s:af):(gH h s).2=0∨(gH h s).2∈gi:=by
 unfold gH;split
 ·exact Or.inr (show (400:Int)∈gi by decide)
 ·dsimp only;split
  ·exact Or.inr (by decide)
  ·exact Or.inl rfl
theorem yV(h:Hd)(s:af):(aW h s).2=0∨(aW h s).2∈gi:=by
 unfold aW;split
 ·exact Or.inr (oh h)
 ·split
  ·exact Or.inr (oh h)
  ·split
   ·split
    ·dsimp only;split
     ·exact Or.inr (by decide)
     ·exact Or.inl rfl
    ·exact vY _ _
   ·split
    ·exact DY _ _
    ·exact B3 _ _
def xM(h:Hd):Prop:=h.status=0∨h.status∈gi
theorem Ao{h:Hd}(hh:xM h)(s:af):xM (bf h s):=by
 unfold bf;split
 ·exact yV h s
 ·exact hh
def nh:cu→Prop
 | .head h _=>xM h
 | .bad s=>s∈gi
 |_=>True
theorem qg{h:Hd}(hh:xM h)(l:af)(c:UInt8):nh (dK h l c):=by
 unfold dK;split
 ·split
  ·show (400:Int)∈gi;decide
  ·rename_i s _
   have h2:=Ao hh s;split
   ·rename_i h3
    exact h2.resolve_left h3
   ·split
    ·have h4:=vq (bf h s);revert h4;unfold cz;split<;>(try split)<;>(intro _;trivial)
    ·exact h2
 ·split
  ·exact oh h
  ·exact hh
theorem ye(b:af)(p:df)(c:UInt8)(s:Int)(h:db b p c=.bad s):s∈gi:=by
 cases p with
 |data n=>rw [dG] at h;cases h
 |tail k=>
  have e:db b (.tail k) c=if c=(if k=0 then 13 else 10) then .at b (if k=0 then .tail 1 else .size []) else .bad 400:=rfl;rw [e] at h;by_cases hc:c=(if k=0 then 13 else 10)
  ·rw [if_pos hc] at h;cases h
  ·rw [if_neg hc] at h;injection h with h;subst h;decide
 |size l=>
  rw [cj] at h;split at h
  ·split at h
   ·injection h with h;subst h;decide
   ·unfold cP at h;split at h
    ·injection h with h;subst h;decide
    ·split at h
     ·injection h with h;subst h;decide
     ·split at h
      ·injection h with h;subst h;decide
      ·split at h<;>cases h
  ·split at h
   ·injection h with h;subst h;decide
   ·cases h
 |trail l e ts=>
  rw [bB] at h;split at h
  ·split at h
   ·injection h with h;subst h;decide
   ·unfold bN at h;split at h
    ·cases h
    ·split at h
     ·injection h with h;subst h;decide
     ·split at h
      ·injection h with h;subst h;decide
      ·cases h
  ·split at h
   ·injection h with h;subst h;decide
   ·cases h
theorem DM{s:cu}(hs:nh s)(c:UInt8):nh (fi s c):=by
 cases s with
 |idle=>exact qg (Or.inl rfl) _ _
 |head h l=>exact qg hs _ _
 |len h b=>unfold fi;dsimp only;split<;>trivial
 |chunk h b p=>
  unfold fi;dsimp only
  cases hr:db b p c with
  |«at» b' p'=>trivial
  |whole b'=>trivial
  |bad s=>exact ye b p c s hr
 |whole h b=>trivial
 |bad s=>exact hs
theorem qG:∀ (t:af) {s:cu},nh s→nh (au s t).1
 |[],s,h=>h
 |c::r,s,h=>by
  cases hd:s.done with
  |true=>rw [ce hd];exact h
  |false=>rw [bJ hd];exact qG r (DM h c)
theorem B6{c:Int}(h:c∈gi):c≠0:=by rintro rfl;exact absurd h (by decide)
end Go.Proofs.YtcflkcbogofgbaaGreatDoor
namespace Go.Proofs.YtcflkcbogofgbaaGreatDoor
open Go.RowKit Go.Proofs
def cR:Nat→af→List (Hd × af) × Nat × cu
 |0,_=>([],0,.idle)
 |k+1,t=>match (au .idle t).1 with
  | .whole h b=>if h.how.close=true then ([(h,b)],(au .idle t).2,.idle) else ((h,b)::(cR k (t.drop (au .idle t).2)).1,(au .idle t).2+(cR k (t.drop (au .idle t).2)).2.1,(cR k (t.drop (au .idle t).2)).2.2)
  |s=>([],0,s)
def ap(t:af):List (Hd × af) × Nat × cu:=cR (t.length+1) t
theorem dS{k:Nat}{t b:af}{h:Hd}{n:Nat}(hf:au .idle t=(.whole h b,n))(hc:h.how.close=true):cR (k+1) t=([(h,b)],n,.idle):=by
 unfold cR;rw [hf];dsimp only;rw [if_pos hc]
theorem dX{k:Nat}{t b:af}{h:Hd}{n:Nat}(hf:au .idle t=(.whole h b,n))(hc:h.how.close=false):cR (k+1) t=((h,b)::(cR k (t.drop n)).1,n+(cR k (t.drop n)).2.1,(cR k (t.drop n)).2.2):=by
 rw [cR,hf];dsimp only;rw [if_neg (by rw [hc];decide)]
theorem dr{k:Nat}{t:af}{s:cu}{n:Nat}(hf:au .idle t=(s,n))(hs:s.phase≠3):cR (k+1) t=([],0,s):=by
 rw [cR,hf]
 cases s with
 |whole h b=>exact absurd rfl hs
 |_=>rfl
theorem gY{s:cu}(h:s.phase=3):∃ hd b,s=.whole hd b:=by
 cases s with
 |whole hd b=>exact⟨hd,b,rfl⟩
 |idle=>exact absurd h (by simp [cu.phase])
 |head _ _=>exact absurd h (by simp [cu.phase])
 |len _ _=>exact absurd h (by simp [cu.phase])
 |chunk _ _ _=>exact absurd h (by simp [cu.phase])
 |bad _=>exact absurd h (by simp [cu.phase])
theorem pY:∀ (a r:af) (s:cu),au s (a++r)=if (au s a).1.done=true then au s a else ((au (au s a).1 r).1,a.length+(au (au s a).1 r).2)
 |[],r,s=>by
  rw [List.nil_append,show au s []=(s,0) from rfl];dsimp only;split
  ·rename_i h;exact ce h r
  ·rw [List.length_nil,Nat.zero_add]
 |c::a,r,s=>by
  cases h:s.done with
  |true=>rw [ce h,ce h];dsimp only;rw [if_pos h]
  |false=>
   rw [List.cons_append,bJ h,bJ h,pY a r (fi s c)];dsimp only;split
   ·rfl
   ·dsimp only;rw [List.length_cons];congr 1;omega
theorem qH:∀ (a:af) (s:cu),(au s a).1.done=false→(au s a).2=a.length
 |[],s,_=>rfl
 |c::a,s,h=>by
  cases hs:s.done with
  |true=>rw [ce hs] at h;rw [hs] at h;cases h
  |false=>
   rw [bJ hs] at h ⊢;dsimp only at h ⊢;rw [qH a _ h,List.length_cons]
theorem gM{t:af}{s:cu}{n:Nat}(h:au .idle t=(s,n))(hs:s.done=true):1≤n∧n≤t.length:=by
 refine⟨?_,by have:=kR t .idle;rw [h] at this;exact this⟩
 cases t with
 |nil=>injection h with h1 h2;subst h1;cases hs
 |cons c r=>rw [bJ rfl] at h;injection h with h1 h2;omega
theorem jV:∀ (k m:Nat) (t:af),t.length < k→t.length < m→cR k t=cR m t
 |0,_,t,h,_=>absurd h (Nat.not_lt_zero _)
 |_,0,t,_,h=>absurd h (Nat.not_lt_zero _)
 |k+1,m+1,t,h1,h2=>by
  obtain⟨s,n,hf⟩:∃ s n,au .idle t=(s,n):=⟨_,_,rfl⟩;by_cases hp:s.phase=3
  ·obtain⟨h,b,rfl⟩:=gY hp
   cases hc:h.how.close with
   |true=>rw [dS hf hc,dS hf hc]
   |false=>
    have hp:=gM hf rfl;have hl:(t.drop n).length < t.length:=by rw [List.length_drop];omega
    rw [dX hf hc,dX hf hc,jV k m (t.drop n) (by omega) (by omega)]
  ·rw [dr hf hp,dr hf hp]
theorem nU{t b:af}{h:Hd}{n:Nat}(hf:au .idle t=(.whole h b,n))(hc:h.how.close=true):ap t=([(h,b)],n,.idle):=dS hf hc
theorem nw{t b:af}{h:Hd}{n:Nat}(hf:au .idle t=(.whole h b,n))(hc:h.how.close=false):ap t=((h,b)::(ap (t.drop n)).1,n+(ap (t.drop n)).2.1,(ap (t.drop n)).2.2):=by
 have hp:=gM hf rfl;have hl:(t.drop n).length < t.length:=by rw [List.length_drop];omega
 unfold ap;rw [dX hf hc,jV t.length ((t.drop n).length+1) (t.drop n) hl (by omega)]
theorem nR{t:af}{s:cu}{n:Nat}(hf:au .idle t=(s,n))(hs:s.phase≠3):ap t=([],0,s):=dr hf hs
def cU(l:List (Hd × af)):Bool:=match l.getLast? with
 |some x=>x.1.how.close
 |none=>false
theorem pw{x:Hd × af}{l:List (Hd × af)}(h:x.1.how.close=false):cU (x::l)=cU l:=by
 cases l with
 |nil=>exact h
 |cons y l=>unfold cU;rw [List.getLast?_cons_cons]
theorem qd:∀ (k:Nat) (t:af) (j:Nat),(cR k (t.take j)).1 <+:(cR k t).1∧((cR k (t.take j)).2.2.phase=4∨cU (cR k (t.take j)).1=true→cR k (t.take j)=cR k t)
 |0,_,_=>⟨List.prefix_refl _,fun _=>rfl⟩
 |k+1,t,j=>by
  obtain⟨s,n,hf⟩:∃ s n,au .idle (t.take j)=(s,n):=⟨_,_,rfl⟩;have ha:=pY (t.take j) (t.drop j) .idle;rw [List.take_append_drop,hf] at ha;dsimp only at ha
  cases hd:s.done with
  |false=>
   have hp:=kQ.2 hd;rw [dr hf (by omega)];refine⟨List.nil_prefix,fun h=> ?_⟩;rcases h with h|h
   ·dsimp only at h;omega
   ·cases h
  |true=>
   rw [if_pos hd] at ha;by_cases hp:s.phase=3
   ·obtain⟨h,b,rfl⟩:=gY hp
    cases hc:h.how.close with
    |true=>rw [dS hf hc,dS ha hc];exact⟨List.prefix_refl _,fun _=>rfl⟩
    |false=>
     rw [dX hf hc,dX ha hc,List.drop_take];obtain⟨h1,h2⟩:=qd k (t.drop n) (j-n);dsimp only;refine⟨(List.prefix_cons_inj _).2 h1,fun h3=> ?_⟩;rw [pw (x:=(h,b)) hc] at h3;rw [h2 h3]
   ·rw [dr hf hp,dr ha hp];exact⟨List.prefix_refl _,fun _=>rfl⟩
theorem AY(t:af)(j:Nat):(ap (t.take j)).1 <+:(ap t).1∧((ap (t.take j)).2.2.phase=4∨cU (ap (t.take j)).1=true→ap (t.take j)=ap t):=by
 have h:=qd (t.length+1) t j;have e:cR (t.length+1) (t.take j)=ap (t.take j):=jV _ _ _ (by rw [List.length_take];omega) (by omega);rw [e] at h;exact h
theorem jA{P:cu→Prop}(h0:∀ (t:af),P (au .idle t).1):∀ (k:Nat) (t:af),P .idle→(∀ x∈(cR k t).1,P (.whole x.1 x.2))∧P (cR k t).2.2
 |0,_,hI=>⟨fun x hx=>(by cases hx),hI⟩
 |k+1,t,hI=>by
  obtain⟨s,n,hf⟩:∃ s n,au .idle t=(s,n):=⟨_,_,rfl⟩;have h1:=h0 t;rw [hf] at h1;by_cases hp:s.phase=3
  ·obtain⟨h,b,rfl⟩:=gY hp
   cases hc:h.how.close with
   |true=>
    rw [dS hf hc];exact⟨fun x hx=>by rw [List.mem_singleton] at hx;subst hx;exact h1,hI⟩
   |false=>
    rw [dX hf hc];obtain⟨h2,h3⟩:=jA h0 k (t.drop n) hI;refine⟨fun x hx=> ?_,h3⟩;rcases List.mem_cons.1 hx with rfl|hx
    ·exact h1
    ·exact h2 x hx
  ·rw [dr hf hp];exact⟨fun x hx=>(by cases hx),h1⟩
theorem sC(t:af):(∀ x∈(ap t).1,bI (.whole x.1 x.2))∧bI (ap t).2.2:=jA (P:=bI) (fun t=>kM t (s:=.idle) (by trivial)) _ _ (by trivial)
theorem CP(t:af):∀ x∈(ap t).1,hY (.whole x.1 x.2):=(jA (P:=hY) (fun t=>sk t (s:=.idle) (by trivial)) _ _ (by trivial)).1
theorem qm(t:af){st:Int}(h:(ap t).2.2=.bad st):st∈gi:=by
 have:=(jA (P:=nh) (fun t=>qG t (s:=.idle) (by trivial)) (t.length+1) t (by trivial)).2
 change nh (ap t).2.2 at this
 rw [h] at this;exact this
end Go.Proofs.YtcflkcbogofgbaaGreatDoor
namespace Go.Proofs.YtcflkcbogofgbaaGreatDoor
open Go.RowKit Go.Proofs
def oC(x:Hd × af):Rq:=GV (Ds x.1 x.2)
def BA(T:List bE)(q:Bool)(x:Hd × af):af:=gQ (cZ T (oC x)) (x.1.method==fW) x.1.minor (x.1.how.close||q)
def uN(c:Int):af:=gQ (aC c []) false 1 true
def tC(s:cu):List af:=if s.phase=4 then [uN s.status] else []
def iW(T:List bE)(q:Bool)(t:af):List af:=(ap t).1.map (BA T q)++tC (ap t).2.2
def gc(t:af):Bool:=decide ((ap t).2.2.phase=4)||cU (ap t).1
def Gg(c a:af):Prop:=c.length=3∧∃ r,a=zN++(c++32::r)
theorem Gg.len{c a:af}(h:Gg c a):13≤a.length:=by
 obtain⟨hc,r,rfl⟩:=h;simp only [List.length_append,List.length_cons,hc];have:zN.length=9:=rfl;omega
theorem Gg.ne{c a:af}(h:Gg c a):a≠[]:=fun e=>by have:=h.len;rw [e] at this;exact absurd this (by decide)
def Ix:List Int:=[200,204,400,404,405,413,414,417,431,501,505]
def tS(c:Int):af:=Lib.itoa c
theorem DE{r:gA}{head close:Bool}{minor:Int}(h:(tS r.st).length=3):Gg (tS r.st) (gQ r head minor close):=by
 refine⟨h,aQ r.st++dn++(cE r.fs++(lN r minor++(oc minor close++dn)))++jn r head minor,?_⟩;unfold gQ ml pL tS;simp only [List.append_assoc,List.cons_append]
theorem zh(c:Int)(l:List aJ):(aC c l).st=c:=by unfold aC;split<;>rfl
def yt(a:af):Prop:=∃ c∈Ix,Gg (tS c) a
theorem Db{c:Int}(h:(tS c).length=3):Gg (tS c) (uN c):=by
 have e:=DE (r:=aC c []) (head:=false) (close:=true) (minor:=1);rw [zh] at e;exact e h
theorem yt.ne{a:af}(h:yt a):a≠[]:=by obtain⟨c,_,h⟩:=h;exact h.ne
theorem yt.len{a:af}(h:yt a):13≤a.length:=by obtain⟨c,_,h⟩:=h;exact h.len
end Go.Proofs.YtcflkcbogofgbaaGreatDoor
namespace Go.Proofs.YtcflkcbogofgbaaGreatDoor
open Go.RowKit Go.Proofs
theorem cY(c:Int)(l:List aJ):(aC c l).parts=[]:=by unfold aC;split<;>rfl
theorem sV{T:List bE}(h:∀ x∈T,Lib.hasPrefix (ab x.type) jz=false)(q:Rq):(cZ T q).parts=[]:=by
 unfold cZ;split
 ·exact cY _ _
 split
 ·exact cY _ _
 split
 ·exact cY _ _
 split
 ·exact cY _ _
 unfold EG;split
 ·rfl
 split
 ·unfold rj;split
  ·rfl
  ·exact cY _ _
 split
 ·rfl
 split
 ·rename_i x hx
  have hm:=h x (List.mem_of_getElem? hx);unfold wM;rw [hm];rfl
 ·exact cY _ _
end Go.Proofs.YtcflkcbogofgbaaGreatDoor
namespace Go.Proofs.YtcflkcbogofgbaaGreatDoor
open Go.RowKit Go.Proofs
theorem sh(T:List bE)(q:Bool)(t:af)(j:Nat):iW T q (t.take j) <+:iW T q t∧(gc (t.take j)=true→iW T q (t.take j)=iW T q t∧gc t=true):=by
 obtain⟨h1,h2⟩:=AY t j;by_cases h:(ap (t.take j)).2.2.phase=4∨cU (ap (t.take j)).1=true
 ·have e:=h2 h;unfold iW;rw [e];refine⟨List.prefix_refl _,fun _=>⟨rfl,?_⟩⟩;rw [e] at h;unfold gc;rcases h with h|h
  ·rw [h];rfl
  ·rw [h];simp
 ·have h4:¬(ap (t.take j)).2.2.phase=4:=fun e=>h (Or.inl e);have hc:¬cU (ap (t.take j)).1=true:=fun e=>h (Or.inr e);refine⟨?_,fun hl=> ?_⟩
  ·have e:tC (ap (t.take j)).2.2=[]:=by unfold tC;rw [if_neg h4]
   unfold iW;rw [e,List.append_nil];exact(List.IsPrefix.map _ h1).trans (List.prefix_append _ _)
  ·unfold gc at hl;rw [Bool.or_eq_true,decide_eq_true_eq] at hl;exact absurd hl h
theorem pN{t:af}(h:(ap t).2.2.phase=4):gc t=true:=by unfold gc;rw [h];rfl
end Go.Proofs.YtcflkcbogofgbaaGreatDoor
namespace Go.Proofs.YtcflkcbogofgbaaGreatDoor
open Go.RowKit Go.Proofs
def EE:af:=[71,69,84,32,47,115,116,97,116,117,115,32,72,84,84,80,47,49,46,49,13,10,72,111,115,116,58,32,97,13,10,13,10,88,10]
theorem EM:(ap EE).1.length=1∧(ap EE).2.2.phase=4∧(ap EE).2.2.status=400:=by decide+kernel
end Go.Proofs.YtcflkcbogofgbaaGreatDoor
