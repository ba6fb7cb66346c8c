import Derived.Test.YtcflkcbogofgbaaGreatDoorQV
import Derived.Test.YtcflkcbogofgbaaGreatDoorQM
import Derived.Test.YtcflkcbogofgbaaGreatDoorQJ
import Derived.Test.YtcflkcbogofgbaaGreatDoorQG
namespace Go.Proofs.YtcflkcbogofgbaaGreatDoor
open Go.RowKit Go.Proofs
def gi:List Int:=[400,413,414,417,431,501,505]
def Ig:cu→Prop
 | .bad s=>s∈gi
 |_=>True
theorem oh(h:Hd):h.long∈gi:=by unfold Hd.long;split<;>decide
theorem vq(h:Hd):Ig (cz h):=by unfold cz;split<;>(try split)<;>trivial
theorem Cv(l:List af):gD l=0∨gD l∈gi:=by
 unfold gD;split
 ·split
  ·exact Or.inl rfl
  ·split<;>exact Or.inr (by decide)
 ·exact Or.inr (by decide)
theorem BU(m:Int)(a b:List ByteArray):iU m a b=0∨iU m a b∈gi:=by
 unfold iU;split
 ·exact Or.inr (by decide)
 ·split
  ·exact Or.inr (by decide)
  ·exact Cv _
theorem Cj(l:List af):(jb l).2=0∨(jb l).2∈gi:=by
 unfold jb;split
 ·exact Or.inr (by decide)
 ·split
  ·split
   ·exact Or.inr (by decide)
   ·exact Or.inl rfl
  ·exact Or.inr (by decide)
theorem zi(m:Int)(fs:List aJ):(bw m fs).2.2=0∨(bw m fs).2.2∈gi:=by
 unfold bw;split
 ·exact BU _ _ _
 ·split
  ·unfold ke;split
   ·exact Or.inr (by decide)
   ·exact Cj _
  ·exact Or.inl rfl
theorem DY(m:Int)(fs:List aJ):(eP m fs).2=0∨(eP m fs).2∈gi:=by
 unfold eP;split
 ·exact Or.inr (by decide)
 ·split
  ·exact zi _ _
  ·split
   ·exact Or.inr (by decide)
   ·split
    ·split
     ·exact Or.inr (by decide)
     ·exact Or.inl rfl
    ·exact Or.inl rfl
theorem DV(v:af):(dI v).1=0∨(dI v).1∈gi:=by
 unfold dI;split
 ·split
  ·split
   ·exact Or.inl rfl
   ·exact Or.inr (by decide)
  ·exact Or.inr (by decide)
 ·exact Or.inr (by decide)
theorem vY(h:Hd)(l:List af):(bz h l).2=0∨(bz h l).2∈gi:=by
 unfold bz;split
 ·split
  ·exact Or.inr (show (400:Int)∈gi by decide)
  ·split
   ·exact DV _
   ·split
    ·exact Or.inl rfl
    ·right;dsimp only;split<;>decide
 ·exact Or.inr (show (400:Int)∈gi by decide)
theorem B3(h:Hd)(s:af):(gH h s).2=0∨(gH h s).2∈gi:=by
 unfold gH;split
 ·exact Or.inr (show (400:Int)∈gi by decide)
 ·dsimp only;split
  ·exact Or.inr (by decide)
  ·exact Or.inl rfl
theorem yV(h:Hd)(s:af):(aW h s).2=0∨(aW h s).2∈gi:=by
 unfold aW;split
 ·exact Or.inr (oh h)
 ·split
  ·exact Or.inr (oh h)
  ·split
   ·split
    ·dsimp only;split
     ·exact Or.inr (by decide)
     ·exact Or.inl rfl
    ·exact vY _ _
   ·split
    ·exact DY _ _
    ·exact B3 _ _
def xM(h:Hd):Prop:=h.status=0∨h.status∈gi
theorem Ao{h:Hd}(hh:xM h)(s:af):xM (bf h s):=by
 unfold bf;split
 ·exact yV h s
 ·exact hh
def nh:cu→Prop
 | .head h _=>xM h
 | .bad s=>s∈gi
 |_=>True
theorem qg{h:Hd}(hh:xM h)(l:af)(c:UInt8):nh (dK h l c):=by
 unfold dK;split
 ·split
  ·show (400:Int)∈gi;decide
  ·rename_i s _
   have h2:=Ao hh s;split
   ·rename_i h3
    exact h2.resolve_left h3
   ·split
    ·have h4:=vq (bf h s);revert h4;unfold cz;split<;>(try split)<;>(intro _;trivial)
    ·exact h2
 ·split
  ·exact oh h
  ·exact hh
theorem ye(b:af)(p:df)(c:UInt8)(s:Int)(h:db b p c=.bad s):s∈gi:=by
 cases p with
 |data n=>rw [dG] at h;cases h
 |tail k=>
  have e:db b (.tail k) c=if c=(if k=0 then 13 else 10) then .at b (if k=0 then .tail 1 else .size []) else .bad 400:=rfl;rw [e] at h;by_cases hc:c=(if k=0 then 13 else 10)
  ·rw [if_pos hc] at h;cases h
  ·rw [if_neg hc] at h;injection h with h;subst h;decide
 |size l=>
  rw [cj] at h;split at h
  ·split at h
   ·injection h with h;subst h;decide
   ·unfold cP at h;split at h
    ·injection h with h;subst h;decide
    ·split at h
     ·injection h with h;subst h;decide
     ·split at h
      ·injection h with h;subst h;decide
      ·split at h<;>cases h
  ·split at h
   ·injection h with h;subst h;decide
   ·cases h
 |trail l e ts=>
  rw [bB] at h;split at h
  ·split at h
   ·injection h with h;subst h;decide
   ·unfold bN at h;split at h
    ·cases h
    ·split at h
     ·injection h with h;subst h;decide
     ·split at h
      ·injection h with h;subst h;decide
      ·cases h
  ·split at h
   ·injection h with h;subst h;decide
   ·cases h
theorem DM{s:cu}(hs:nh s)(c:UInt8):nh (fi s c):=by
 cases s with
 |idle=>exact qg (Or.inl rfl) _ _
 |head h l=>exact qg hs _ _
 |len h b=>unfold fi;dsimp only;split<;>trivial
 |chunk h b p=>
  unfold fi;dsimp only
  cases hr:db b p c with
  |«at» b' p'=>trivial
  |whole b'=>trivial
  |bad s=>exact ye b p c s hr
 |whole h b=>trivial
 |bad s=>exact hs
theorem qG:∀ (t:af) {s:cu},nh s→nh (au s t).1
 |[],s,h=>h
 |c::r,s,h=>by
  cases hd:s.done with
  |true=>rw [ce hd];exact h
  |false=>rw [bJ hd];exact qG r (DM h c)
theorem B6{c:Int}(h:c∈gi):c≠0:=by rintro rfl;exact absurd h (by decide)
def cR:Nat→af→List (Hd × af) × Nat × cu
 |0,_=>([],0,.idle)
 |k+1,t=>match (au .idle t).1 with
  | .whole h b=>if h.how.close=true then ([(h,b)],(au .idle t).2,.idle) else ((h,b)::(cR k (t.drop (au .idle t).2)).1,(au .idle t).2+(cR k (t.drop (au .idle t).2)).2.1,(cR k (t.drop (au .idle t).2)).2.2)
  |s=>([],0,s)
def ap(t:af):List (Hd × af) × Nat × cu:=cR (t.length+1) t
theorem dS{k:Nat}{t b:af}{h:Hd}{n:Nat}(hf:au .idle t=(.whole h b,n))(hc:h.how.close=true):cR (k+1) t=([(h,b)],n,.idle):=by
 unfold cR;rw [hf];dsimp only;rw [if_pos hc]
theorem dX{k:Nat}{t b:af}{h:Hd}{n:Nat}(hf:au .idle t=(.whole h b,n))(hc:h.how.close=false):cR (k+1) t=((h,b)::(cR k (t.drop n)).1,n+(cR k (t.drop n)).2.1,(cR k (t.drop n)).2.2):=by
 rw [cR,hf];dsimp only;rw [if_neg (by rw [hc];decide)]
theorem dr{k:Nat}{t:af}{s:cu}{n:Nat}(hf:au .idle t=(s,n))(hs:s.phase≠3):cR (k+1) t=([],0,s):=by
 rw [cR,hf]
 cases s with
 |whole h b=>exact absurd rfl hs
 |_=>rfl
theorem gY{s:cu}(h:s.phase=3):∃ hd b,s=.whole hd b:=by
 cases s with
 |whole hd b=>exact⟨hd,b,rfl⟩
 |idle=>exact absurd h (by simp [cu.phase])
 |head _ _=>exact absurd h (by simp [cu.phase])
 |len _ _=>exact absurd h (by simp [cu.phase])
 |chunk _ _ _=>exact absurd h (by simp [cu.phase])
 |bad _=>exact absurd h (by simp [cu.phase])
theorem qH:∀ (a:af) (s:cu),(au s a).1.done=false→(au s a).2=a.length
 |[],s,_=>rfl
 |c::a,s,h=>by
  cases hs:s.done with
  |true=>rw [ce hs] at h;rw [hs] at h;cases h
  |false=>
   rw [bJ hs] at h ⊢;dsimp only at h ⊢;rw [qH a _ h,List.length_cons]
theorem gM{t:af}{s:cu}{n:Nat}(h:au .idle t=(s,n))(hs:s.done=true):1≤n∧n≤t.length:=by
 refine⟨?_,by have:=kR t .idle;rw [h] at this;exact this⟩
 cases t with
 |nil=>injection h with h1 h2;subst h1;cases hs
 |cons c r=>rw [bJ rfl] at h;injection h with h1 h2;omega
theorem jV:∀ (k m:Nat) (t:af),t.length < k→t.length < m→cR k t=cR m t
 |0,_,t,h,_=>absurd h (Nat.not_lt_zero _)
 |_,0,t,_,h=>absurd h (Nat.not_lt_zero _)
 |k+1,m+1,t,h1,h2=>by
  obtain⟨s,n,hf⟩:∃ s n,au .idle t=(s,n):=⟨_,_,rfl⟩;by_cases hp:s.phase=3
  ·obtain⟨h,b,rfl⟩:=gY hp
   cases hc:h.how.close with
   |true=>rw [dS hf hc,dS hf hc]
   |false=>
    have hp:=gM hf rfl;have hl:(t.drop n).length < t.length:=by rw [List.length_drop];omega
    rw [dX hf hc,dX hf hc,jV k m (t.drop n) (by omega) (by omega)]
  ·rw [dr hf hp,dr hf hp]
theorem nU{t b:af}{h:Hd}{n:Nat}(hf:au .idle t=(.whole h b,n))(hc:h.how.close=true):ap t=([(h,b)],n,.idle):=dS hf hc
theorem nw{t b:af}{h:Hd}{n:Nat}(hf:au .idle t=(.whole h b,n))(hc:h.how.close=false):ap t=((h,b)::(ap (t.drop n)).1,n+(ap (t.drop n)).2.1,(ap (t.drop n)).2.2):=by
 have hp:=gM hf rfl;have hl:(t.drop n).length < t.length:=by rw [List.length_drop];omega
 unfold ap;rw [dX hf hc,jV t.length ((t.drop n).length+1) (t.drop n) hl (by omega)]
theorem nR{t:af}{s:cu}{n:Nat}(hf:au .idle t=(s,n))(hs:s.phase≠3):ap t=([],0,s):=dr hf hs
def cU(l:List (Hd × af)):Bool:=match l.getLast? with
 |some x=>x.1.how.close
 |none=>false
theorem jA{P:cu→Prop}(h0:∀ (t:af),P (au .idle t).1):∀ (k:Nat) (t:af),P .idle→(∀ x∈(cR k t).1,P (.whole x.1 x.2))∧P (cR k t).2.2
 |0,_,hI=>⟨fun x hx=>(by cases hx),hI⟩
 |k+1,t,hI=>by
  obtain⟨s,n,hf⟩:∃ s n,au .idle t=(s,n):=⟨_,_,rfl⟩;have h1:=h0 t;rw [hf] at h1;by_cases hp:s.phase=3
  ·obtain⟨h,b,rfl⟩:=gY hp
   cases hc:h.how.close with
   |true=>
    rw [dS hf hc];exact⟨fun x hx=>by rw [List.mem_singleton] at hx;subst hx;exact h1,hI⟩
   |false=>
    rw [dX hf hc];obtain⟨h2,h3⟩:=jA h0 k (t.drop n) hI;refine⟨fun x hx=> ?_,h3⟩;rcases List.mem_cons.1 hx with rfl|hx
    ·exact h1
    ·exact h2 x hx
  ·rw [dr hf hp];exact⟨fun x hx=>(by cases hx),h1⟩
theorem sC(t:af):(∀ x∈(ap t).1,bI (.whole x.1 x.2))∧bI (ap t).2.2:=jA (P:=bI) (fun t=>kM t (s:=.idle) (by trivial)) _ _ (by trivial)
theorem CP(t:af):∀ x∈(ap t).1,hY (.whole x.1 x.2):=(jA (P:=hY) (fun t=>sk t (s:=.idle) (by trivial)) _ _ (by trivial)).1
theorem qm(t:af){st:Int}(h:(ap t).2.2=.bad st):st∈gi:=by
 have:=(jA (P:=nh) (fun t=>qG t (s:=.idle) (by trivial)) (t.length+1) t (by trivial)).2
 change nh (ap t).2.2 at this
 rw [h] at this;exact this
def oC(x:Hd × af):Rq:=GV (Ds x.1 x.2)
def BA(T:List bE)(q:Bool)(x:Hd × af):af:=gQ (cZ T (oC x)) (x.1.method==fW) x.1.minor (x.1.how.close||q)
def uN(c:Int):af:=gQ (aC c []) false 1 true
def tC(s:cu):List af:=if s.phase=4 then [uN s.status] else []
def iW(T:List bE)(q:Bool)(t:af):List af:=(ap t).1.map (BA T q)++tC (ap t).2.2
def gc(t:af):Bool:=decide ((ap t).2.2.phase=4)||cU (ap t).1
def Gg(c a:af):Prop:=c.length=3∧∃ r,a=zN++(c++32::r)
theorem Gg.len{c a:af}(h:Gg c a):13≤a.length:=by
 obtain⟨hc,r,rfl⟩:=h;simp only [List.length_append,List.length_cons,hc];have:zN.length=9:=rfl;omega
theorem Gg.ne{c a:af}(h:Gg c a):a≠[]:=fun e=>by have:=h.len;rw [e] at this;exact absurd this (by decide)
theorem Kd{c d a b z:af}(h:Gg c a)(k:Gg d b)(hcd:c≠d)(h1:a <+:z)(h2:b <+:z):False:=by
 obtain⟨hc,r,rfl⟩:=h;obtain⟨hd,s,rfl⟩:=k;have e1:(zN++c) <+:z:=List.IsPrefix.trans ⟨32::r,by simp⟩ h1;have e2:(zN++d) <+:z:=List.IsPrefix.trans ⟨32::s,by simp⟩ h2;have e3:(zN++c) <+:(zN++d):=List.prefix_of_prefix_length_le e1 e2 (by simp [hc,hd]);have e4:=e3.eq_of_length (by simp [hc,hd]);exact hcd (List.append_cancel_left e4)
theorem Gg.app{c a:af}(h:Gg c a)(z:af):Gg c (a++z):=by
 obtain⟨hc,r,rfl⟩:=h;exact⟨hc,r++z,by simp⟩
theorem JO{c d a b:af}(h:Gg c a)(k:Gg d b)(hcd:c≠d):¬a <+:b:=fun e=>Kd h k hcd e (List.prefix_refl _)
def KE:af:=[49,48,48]
def I6:af:=[72,84,84,80,47,49,46,49,32,49,48,48,32,67,111,110,116,105,110,117,101,13,10,13,10]
theorem JB:Gg KE I6:=⟨rfl,[67,111,110,116,105,110,117,101,13,10,13,10],rfl⟩
theorem Kq:I6.length=25:=rfl
def Ix:List Int:=[200,204,400,404,405,413,414,417,431,501,505]
def tS(c:Int):af:=Lib.itoa c
theorem JA:∀ c∈Ix,(tS c).length=3∧tS c≠KE∧tS c≠tS 408∧tS c≠tS 503:=by decide+kernel
theorem DE{r:gA}{head close:Bool}{minor:Int}(h:(tS r.st).length=3):Gg (tS r.st) (gQ r head minor close):=by
 refine⟨h,aQ r.st++dn++(cE r.fs++(lN r minor++(oc minor close++dn)))++jn r head minor,?_⟩;unfold gQ ml pL tS;simp only [List.append_assoc,List.cons_append]
theorem zh(c:Int)(l:List aJ):(aC c l).st=c:=by unfold aC;split<;>rfl
theorem JF(T:List bE)(q:Rq):(cZ T q).st∈Ix:=by
 unfold cZ;split
 ·rw [zh];decide
 ·split
  ·rw [zh];decide
  ·split
   ·rw [zh];decide
   ·split
    ·rw [zh];split<;>decide
    ·unfold EG;split
     ·show (200:Int)∈Ix;decide
     ·split
      ·unfold rj;split
       ·show (200:Int)∈Ix;decide
       ·rw [zh];decide
      ·split
       ·show (200:Int)∈Ix;decide
       ·split
        ·show (200:Int)∈Ix;decide
        ·rw [zh];decide
def yt(a:af):Prop:=∃ c∈Ix,Gg (tS c) a
theorem Kt(T:List bE)(q:Bool)(x:Hd × af):yt (BA T q x):=⟨_,JF T _,DE (JA _ (JF T _)).1⟩
theorem Db{c:Int}(h:(tS c).length=3):Gg (tS c) (uN c):=by
 have e:=DE (r:=aC c []) (head:=false) (close:=true) (minor:=1);rw [zh] at e;exact e h
theorem Kv:∀ c∈gi,c∈Ix:=by decide
theorem Ku(T:List bE)(q:Bool)(t:af):∀ a∈iW T q t,yt a:=by
 intro a ha;unfold iW at ha;rcases List.mem_append.1 ha with ha|ha
 ·obtain⟨x,_,rfl⟩:=List.mem_map.1 ha;exact Kt T q x
 ·unfold tC at ha;split at ha
  ·rename_i hp
   rw [List.mem_singleton] at ha;subst ha;obtain⟨s,hs⟩:=Iu ((ap t).2.2);rw [hs] at hp ⊢
   cases s with
   |bad st=>
    have h:=Kv _ (qm t hs);exact⟨st,h,Db (JA _ h).1⟩
   |idle=>exact absurd hp (by decide)
   |head _ _=>exact absurd hp (by simp [cu.phase])
   |len _ _=>exact absurd hp (by simp [cu.phase])
   |chunk _ _ _=>exact absurd hp (by simp [cu.phase])
   |whole _ _=>exact absurd hp (by simp [cu.phase])
  ·cases ha
theorem yt.ne{a:af}(h:yt a):a≠[]:=by obtain⟨c,_,h⟩:=h;exact h.ne
theorem yt.len{a:af}(h:yt a):13≤a.length:=by obtain⟨c,_,h⟩:=h;exact h.len
theorem yt.app{a:af}(h:yt a)(z:af):yt (a++z):=by obtain⟨c,hc,h⟩:=h;exact⟨c,hc,h.app z⟩
theorem yt.word{a z:af}(h:yt a)(h1:a <+:z)(h2:I6 <+:z):False:=by
 obtain⟨c,hc,h⟩:=h;exact Kd h JB (JA c hc).2.1 h1 h2
theorem yt.no408{a:af}(h:yt a):¬a <+:uN 408:=by
 obtain⟨c,hc,h⟩:=h;exact JO h (Db (by decide+kernel)) (JA c hc).2.2.1
theorem yt.no503{a:af}(h:yt a):¬a <+:uN 503:=by
 obtain⟨c,hc,h⟩:=h;exact JO h (Db (by decide+kernel)) (JA c hc).2.2.2
theorem J6(z:af):¬(I6++z) <+:uN 408:=JO (JB.app z) (Db (by decide+kernel)) (by decide+kernel)
theorem J7(z:af):¬(I6++z) <+:uN 503:=JO (JB.app z) (Db (by decide+kernel)) (by decide+kernel)
def I7(p l:af):Bool:=Lib.hasPrefix l p
theorem Jc{p l:af}:I7 p l=true↔p <+:l:=List.isPrefixOf_iff_prefix
theorem Jh{p l:af}(h:¬p <+:l):I7 p l=false:=by
 cases e:I7 p l with
 |false=>rfl
 |true=>exact absurd (Jc.1 e) h
def IH(out:af):af:=if I7 I6 out=true then out.drop 25 else out
def I9:List af→af→af × Bool
 |[],out=>if IH out=[]∨(I7 I6 out=false∧I7 out I6=true) then ([],true) else (IH out,false)
 |a::l,out=>if I7 a (IH out)=true then (a++(I9 l ((IH out).drop a.length)).1,(I9 l ((IH out).drop a.length)).2) else
   if I7 (IH out) a=true then (IH out,true) else
   if IH out=[]∨(I7 I6 out=false∧I7 out I6=true) then ([],true) else (IH out,false)
def Jv(q:Bool)(cl:Option af)(out:af):Bool:=I7 out (uN 408)||(I7 out (uN 503)||(q&&(match cl with
 |some c=>I7 out c
 |none=>false)))
def Jd(q:Bool):List (af × af)→af→Bool
 |[],out=>Jv q none out||(I7 I6 out&&Jv q none (IH out))
 |(a,c)::l,out=>Jv q (some c) out||((I7 I6 out&&Jv q (some c) (IH out))||(I7 a (IH out)&&Jd q l ((IH out).drop a.length)))
def JL(q:Bool)(l:List (af × af))(out:af):Bool:=(I9 (l.map (·.1)) out).2||Jd q l out
theorem JU(z:af):IH (I6++z)=z:=by
 unfold IH;rw [if_pos (Jc.2 (List.prefix_append _ _))];exact List.drop_left' Kq
theorem JI{out:af}(h:¬I6 <+:out):IH out=out:=by
 unfold IH;rw [if_neg (by rw [Jh h];decide)]
theorem J2{a out:af}{l:List af}(h:a <+:IH out):I9 (a::l) out=(a++(I9 l ((IH out).drop a.length)).1,(I9 l ((IH out).drop a.length)).2):=by
 rw [I9,if_pos (Jc.2 h)]
theorem JN{out:af}{l:List af}(h1:IH out≠[])(h2:¬(¬I6 <+:out∧out <+:I6))(h3:∀ a,l.head?=some a→¬a <+:IH out∧¬IH out <+:a):I9 l out=(IH out,false):=by
 have k:¬(IH out=[]∨(I7 I6 out=false∧I7 out I6=true)):=by
  rintro(e|⟨e1,e2⟩)
  ·exact h1 e
  ·exact h2 ⟨fun e=>(by rw [Jc.2 e] at e1;cases e1),Jc.1 e2⟩
 cases l with
 |nil=>rw [I9,if_neg k]
 |cons a l=>
  obtain⟨k1,k2⟩:=h3 a rfl;rw [I9,if_neg (by rw [Jh k1];decide),if_neg (by rw [Jh k2];decide),if_neg k]
def Kb(f:Bool):af:=if f=true then I6 else []
def Jj:List (Bool × af)→af
 |[]=>[]
 |(f,a)::l=>Kb f++(a++Jj l)
theorem JV{f:Bool}{a z:af}(h:yt a):IH (Kb f++(a++z))=a++z:=by
 cases f with
 |true=>exact JU _
 |false=>exact JI (fun e=>h.word (List.prefix_append a z) e)
theorem Km{out:af}(h1:¬out <+:uN 408)(h2:¬out <+:uN 503)(cl:Option af):Jv false cl out=false:=by
 unfold Jv;rw [Jh h1,Jh h2];rfl
theorem JJ{l:List (af × af)}{out:af}(h1:∀ cl,Jv false cl out=false)(h2:∀ cl,Jv false cl (IH out)=false)(h3:∀ a c l',l=(a,c)::l'→a <+:IH out→Jd false l' ((IH out).drop a.length)=false):Jd false l out=false:=by
 cases l with
 |nil=>rw [Jd,h1,h2];simp
 |cons x l=>
  obtain⟨a,c⟩:=x;rw [Jd,h1,h2,Bool.and_false,Bool.false_or,Bool.false_or];by_cases hp:a <+:IH out
  ·rw [h3 a c l rfl hp,Bool.and_false]
  ·rw [Jh hp];rfl
theorem Jw{a z:af}(h:yt a)(cl:Option af):Jv false cl (a++z)=false:=Km (h.app z).no408 (h.app z).no503 cl
theorem Ko{f:Bool}{a z:af}(h:yt a)(cl:Option af):Jv false cl (Kb f++(a++z))=false:=by
 cases f with
 |true=>exact Km (J6 _) (J7 _) cl
 |false=>exact Jw h cl
theorem Kh{m:List (af × af)}{l:List (Bool × af)}{b:af}(h:∀ x∈l,yt x.2)(hb:yt b){a:af}{n:List (af × af)}(hm:m.map (·.1)=l.map (·.2))(ha:∀ x,n.head?=some x→x.1=a)(h1:¬a <+:b)(h2:¬b <+:a):
 JL false (m++n) (Jj l++b)=false:=by
 have hbb:=JI (out:=b) (fun e=>hb.word (List.prefix_refl _) e);have hbn:IH b≠[]:=by rw [hbb];exact hb.ne
 have hbw:¬(¬I6 <+:b∧b <+:I6):=fun e=>hb.word e.2 (List.prefix_refl _);have hst:(I9 (n.map (·.1)) b).2=false:=by
  rw [JN hbn hbw];intro x hx;rw [hbb]
  cases n with
  |nil=>cases hx
  |cons y n=>
   have e:=ha y rfl;rw [List.map_cons] at hx;injection hx with hx;rw [←hx,e];exact⟨h1,h2⟩
 have hlt:Jd false n b=false:=by
  refine JJ (fun cl=>by have:=Jw (z:=[]) hb cl;rwa [List.append_nil] at this) (fun cl=>by rw [hbb];have:=Jw (z:=[]) hb cl;rwa [List.append_nil] at this) (fun x c l' e hp=> ?_);have:=ha (x,c) (by rw [e];rfl);dsimp only at this;rw [hbb,this] at hp;exact absurd hp h1
 have key:∀ (l:List (Bool × af)) (m:List (af × af)),(∀ x∈l,yt x.2)→m.map (·.1)=l.map (·.2)→(I9 ((m++n).map (·.1)) (Jj l++b)).2=false∧Jd false (m++n) (Jj l++b)=false:=by
  intro l
  induction l with
  |nil=>
   intro m _ hm
   cases m with
   |nil=>exact⟨hst,hlt⟩
   |cons x m=>cases hm
  |cons y l ih=>
   obtain⟨f,c⟩:=y;intro m h hm
   cases m with
   |nil=>cases hm
   |cons x m=>
    obtain⟨x1,x2⟩:=x;rw [List.map_cons,List.map_cons] at hm;injection hm with e1 e2;dsimp only at e1;subst e1;have hc:=h _ (List.mem_cons_self ..);obtain⟨i1,i2⟩:=ih m (fun x hx=>h x (List.mem_cons_of_mem _ hx)) e2;have e:Jj ((f,x1)::l)++b=Kb f++(x1++(Jj l++b)):=by rw [Jj];simp
    have hbk:=JV (f:=f) (z:=Jj l++b) hc;rw [e,List.cons_append];constructor
    ·rw [List.map_cons,J2 (by rw [hbk];exact List.prefix_append _ _),hbk,List.drop_left];exact i1
    ·refine JJ (Ko hc) (fun cl=>by rw [hbk];exact Jw hc cl) (fun a c' l' e hp=> ?_);injection e with e3 e4;injection e3 with e3 _;subst e3 e4;rw [hbk,List.drop_left];exact i2
 obtain⟨k1,k2⟩:=key l m h hm;unfold JL;rw [k1,k2];rfl
theorem cY(c:Int)(l:List aJ):(aC c l).parts=[]:=by unfold aC;split<;>rfl
theorem sV{T:List bE}(h:∀ x∈T,Lib.hasPrefix (ab x.type) jz=false)(q:Rq):(cZ T q).parts=[]:=by
 unfold cZ;split
 ·exact cY _ _
 split
 ·exact cY _ _
 split
 ·exact cY _ _
 split
 ·exact cY _ _
 unfold EG;split
 ·rfl
 split
 ·unfold rj;split
  ·rfl
  ·exact cY _ _
 split
 ·rfl
 split
 ·rename_i x hx
  have hm:=h x (List.mem_of_getElem? hx);unfold wM;rw [hm];rfl
 ·exact cY _ _
theorem pN{t:af}(h:(ap t).2.2.phase=4):gc t=true:=by unfold gc;rw [h];rfl
def EE:af:=[71,69,84,32,47,115,116,97,116,117,115,32,72,84,84,80,47,49,46,49,13,10,72,111,115,116,58,32,97,13,10,13,10,88,10]
theorem EM:(ap EE).1.length=1∧(ap EE).2.2.phase=4∧(ap EE).2.2.status=400:=by decide+kernel
end Go.Proofs.YtcflkcbogofgbaaGreatDoor
