import Derived.Test.YtcflkcbogofgbaaGreatDoorQE
import Derived.Test.YtcflkcbogofgbaaGreatDoorQJ
import Derived.Test.YtcflkcbogofgbaaGreatDoorQZ
import Derived.Test.YtcflkcbogofgbaaGreatDoorQPrtB
import Derived.Test.YtcflkcbogofgbaaGreatDoorQY
import Derived.Test.YtcflkcbogofgbaaGreatDoorQG
namespace Go.Proofs.YtcflkcbogofgbaaGreatDoor
open Go.RowKit Go.Proofs
theorem oD(p:UInt8→Bool)(l:af):(l.dropWhile p).dropWhile p=l.dropWhile p:=by
 induction l with
 |nil=>rfl
 |cons c l ih=>
  cases h:p c with
  |true=>rw [List.dropWhile_cons_of_pos h,ih]
  |false=>rw [List.dropWhile_cons_of_neg (by simp [h]),List.dropWhile_cons_of_neg (by simp [h])]
theorem wS(l:af):aw (aw l)=aw l:=by
 rw [je,je,pX];show dD (dD _)=_;have e1:aO (aO l)=aO l:=oD _ _;have e2:∀ m:af,dD (dD m)=dD m:=fun m=>by
  unfold dD;rw [List.reverse_reverse,oD]
 rw [e1,e2]
theorem AD{l:af}(h:eg l=true):eg (aw l)=true:=by
 unfold eg at *;rw [List.all_eq_true] at *;intro c hc;refine h c ?_;rw [je] at hc;unfold dD at hc;rw [List.mem_reverse] at hc;have h1:=(List.dropWhile_sublist ia).subset hc;rw [List.mem_reverse] at h1;exact(List.dropWhile_sublist ia).subset h1
theorem oJ:∀ (l cur:List aJ),(∀ x∈l,ny x=true)→cur.length+l.length≤24→(aY cur l).1=cur++l
 |[],cur,_,_=>by simp [aY]
 |x::l,cur,hx,hl=>by
  rw [List.length_cons] at hl;have h1:=hx x List.mem_cons_self;unfold aY;rw [if_neg (by rw [h1];decide),if_neg (by omega)];show (aY (cur++[x]) l).1=_;rw [oJ l (cur++[x]) (fun y hy=>hx y (List.mem_cons_of_mem _ hy)) (by simp;omega),List.append_assoc];rfl
theorem FN{x:aJ}(h:ny x=true):eg (ab x.2)=true:=by
 unfold ny vf at h;simp only [Bool.and_eq_true] at h;exact h.2.1
theorem FA:eg iV=true:=by decide
theorem qq(name:ByteArray):∀ fs:List aJ,(∀ x∈fs,ny x=true)→eg (Lib.joinTail iV ((ag fs name).map (·.data.toList)))=true∧(Lib.joinTail iV ((ag fs name).map (·.data.toList))).length≤pD fs+2 * fs.length
 |[],_=>⟨rfl,Nat.le_refl _⟩
 |x::fs,hx=>by
  obtain⟨h1,h2⟩:=qq name fs (fun y hy=>hx y (List.mem_cons_of_mem _ hy));have hv:=FN (hx x List.mem_cons_self);have e3:pD (x::fs)=x.1.size+x.2.size+pD fs:=by simp [pD]
  rw [e3,List.length_cons];unfold ag;rw [List.filter_cons];by_cases hs:bA x.1.data.toList name.data.toList=true
  ·rw [if_pos hs];have e1:Lib.joinTail iV (((x::fs.filter fun x=>bA x.1.data.toList name.data.toList).map (·.2)).map (·.data.toList))=iV++(ab x.2++Lib.joinTail iV ((ag fs name).map (·.data.toList))):=by
    simp [Lib.joinTail,ag,ab]
   rw [e1];refine⟨?_,?_⟩
   ·unfold eg at *;rw [List.all_append,List.all_append,show List.all iV fa=true from FA,hv,h1];rfl
   ·rw [List.length_append,List.length_append];have:(ab x.2).length=x.2.size:=ae x.2;have:iV.length=2:=rfl;omega
  ·rw [if_neg hs];exact⟨h1,Nat.le_trans h2 (by omega)⟩
theorem FQ(name:ByteArray)(fs:List aJ)(hx:∀ x∈fs,ny x=true):eg (dN fs name)=true∧(dN fs name).length≤pD fs+2 * fs.length:=by
 obtain⟨h1,h2⟩:=qq name fs hx;unfold dN
 cases hv:(ag fs name).map (·.data.toList) with
 |nil=>exact⟨rfl,by rw [Lib.join_nil];exact Nat.zero_le _⟩
 |cons y r=>
  rw [hv] at h1 h2;have e1:Lib.joinTail iV (y::r)=iV++(y++Lib.joinTail iV r):=by simp [Lib.joinTail]
  rw [e1] at h1 h2;rw [Lib.join_cons];unfold eg at *;rw [List.all_append,Bool.and_eq_true] at h1;exact⟨h1.2,by rw [List.length_append] at h2;omega⟩
theorem Dv(fs:List aJ)(hx:∀ x∈fs,ny x=true)(hl:fs.length≤24):eg (ab (mw fs))=true∧aw (ab (mw fs))=ab (mw fs)∧(ab (mw fs)).length≤pD fs+100:=by
 obtain⟨h1,h2⟩:=FQ (co lD) fs hx;have e:(aY [] fs).1=fs:=by rw [oJ fs [] hx (by simpa using hl)];rfl
 unfold mw;rw [e];by_cases h0:aw (dN fs (co lD))=[]
 ·rw [if_pos h0];have:(ab (co rP)).length=24:=by decide
  exact⟨by decide+kernel,by decide+kernel,by omega⟩
 ·rw [if_neg h0];show eg (aw (dN fs (co lD)))=true∧aw (aw (dN fs (co lD)))=aw (dN fs (co lD))∧(aw (dN fs (co lD))).length≤_;have:=fQ (dN fs (co lD));exact⟨AD h1,wS _,by omega⟩
theorem Cd{kind:ByteArray}(h1:eg (ab kind)=true)(h2:aw (ab kind)=ab kind):fL (co lD,kind)=true:=by
 unfold fL ny vf;rw [show bP (co lD,kind).1.data.toList=true from(by decide+kernel:bP (co lD).data.toList=true),show yN (ab (co lD,kind).1)=false from(by decide+kernel:yN (ab (co lD))=false)];show (true&&(eg (ab kind)&&aw (ab kind)==ab kind))&& !false=true;rw [h1,h2];simp
structure iP (r:gA):Prop where
 st:200≤r.st∧r.st≤599
 len:r.fs.length≤2
 fld:∀ x∈r.fs,fL x=true∧(ab x.1).length≤100∧(ab x.2).length≤2000
 body:r.body.length≤2048
 parts:iy r.body.length r.parts=true
 nob:(r.body.isEmpty|| !ck r.st)=true
theorem EC{r:gA}(h:iP r)(head:Bool)(minor:Int):(jn r head minor).length≤16000:=by
 have hb:=h.body;unfold jn;split
 ·simp
 ·split
  ·unfold yy;rw [List.length_append];have hp:=h.parts;unfold iy at hp
   cases hm:iK r.body.length 0 r.parts with
   |none=>rw [hm] at hp;cases hp
   |some m=>
    have:=uK r.body r.parts 0 m hm;have:=(qh hm (Nat.zero_le _)).1;have:Ij.length=5:=rfl;omega
  ·omega
theorem sr:∀ (l:List aJ),(∀ x∈l,(ab x.1).length≤100∧(ab x.2).length≤2000)→(cE l).length≤2104 * l.length
 |[],_=>by simp [cE]
 |x::l,h=>by
  have h1:=sr l (fun y hy=>h y (List.mem_cons_of_mem _ hy));have h2:=h x List.mem_cons_self;have e:cE (x::l)=CR x++cE l:=by simp [cE]
  rw [e,List.length_append,List.length_cons];unfold CR;simp only [List.length_append,List.length_cons];have:dn.length=2:=rfl;omega
theorem EL{c:Int}(h0:0≤c)(h1:c≤9223372036854775807):(pL c).length≤63:=by
 have:=fS h0 h1;have:=fo c;unfold pL;simp only [List.length_append,List.length_cons];have:zN.length=9:=rfl;have:dn.length=2:=rfl;omega
theorem iP.may{r:gA}(h:iP r):zU r=true:=by
 have hf:r.fs.all fL=true:=List.all_eq_true.2 (fun x hx=>(h.fld x hx).1);rw [BX h.st (by have:=h.len;omega) hf h.parts];exact h.nob
theorem iP.enc{r:gA}(h:iP r)(head close:Bool)(minor:Int):sd r head minor close=0:=by
 refine Gr h.may ?_;rw [qJ];have h1:=EC h head minor;have h2:=sr r.fs (fun x hx=>(h.fld x hx).2);have h3:=EL (c:=r.st) (by have:=h.st;omega) (by have:=h.st;omega);have h4:=ub r minor (by have:=h.body;omega);have h5:=ux minor close;have h6:=h.len;unfold ml;simp only [List.length_append];have:dn.length=2:=rfl;have:2104 * r.fs.length≤2104 * 2:=Nat.mul_le_mul_left _ h6;omega
theorem xZ{kind:ByteArray}{l:af}(h1:eg (ab kind)=true)(h2:aw (ab kind)=ab kind)(h3:(ab kind).length≤2000)(hb:l.length≤2048):iP (BQ kind l):=
 ⟨⟨by show (200:Int)≤200;decide,by show (200:Int)≤599;decide⟩,by show 1≤2;decide,fun x hx=>by
   have hx:x∈[(co lD,kind)]:=hx;rw [List.mem_singleton] at hx;subst hx;exact⟨Cd h1 h2,by show (ab (co lD)).length≤100;decide,h3⟩,hb,rfl,by rw [show ck (BQ kind l).st=false from(by decide:ck 200=false)];simp⟩
theorem pm{l:af}(hb:l.length≤2048):iP (BQ (co cL) l):=xZ (by decide+kernel) (by decide+kernel) (by decide) hb
theorem zC:fL (mM cL)=true∧(ab (mM cL).1).length≤100∧(ab (mM cL).2).length≤2000:=⟨by decide+kernel,by decide,by decide⟩
theorem ee{c:Int}{more:List aJ}(hc:200≤c∧c≤599)(hl:more.length≤1)(h:∀ x∈more,fL x=true∧(ab x.1).length≤100∧(ab x.2).length≤2000):iP (aC c more):=by
 unfold aC;by_cases hn:ck c=true
 ·rw [if_pos hn];exact⟨hc,by show more.length≤2;omega,h,by show 0≤2048;decide,rfl,rfl⟩
 ·rw [if_neg hn];refine⟨hc,by show more.length+1≤2;omega,fun x hx=> ?_,?_,rfl,?_⟩
  ·rcases List.mem_cons.1 hx with rfl|hx
   ·exact zC
   ·exact h x hx
  ·show (Lib.itoa c++32::(aQ c++[10])).length≤_;simp only [List.length_append,List.length_cons,List.length_nil];have:=fS (c:=c) (by omega) (by omega);have:=fo c;omega
  ·show ((Lib.itoa c++32::(aQ c++[10])).isEmpty|| !ck c)=true;rw [show ck c=false from by simpa using hn];simp
theorem tP(n:Nat):∀ (m j:Nat),j+m=(n+15) / 16→iK n (min (16 * j) n) ((List.range' j m).map fun k=>min (16 * (k+1)) n)=some (min (16 * (j+m)) n)
 |0,j,_=>rfl
 |m+1,j,h=>by
  rw [List.range'_succ,List.map_cons];unfold iK;rw [if_neg (by omega)];rw [tP n m (j+1) (by omega)];congr 2;omega
theorem BB(n:Nat):iy n (dt n)=true:=by
 have h:=tP n ((n+15) / 16) 0 (by omega);unfold iy dt;rw [List.range_eq_range'];rw [show min (16 * 0) n=0 by omega] at h;rw [h];by_cases h0:n=0
 ·subst h0;rfl
 ·show (_||min (16 * (0+(n+15) / 16)) n==n)=true;rw [show min (16 * (0+(n+15) / 16)) n=n by omega];simp
theorem Ci{x:bE}(h:jg x=true):iP (wM x):=by
 obtain⟨_,_,h3,h4,h5,h6⟩:=oU h;unfold wM;have e:(ab x.data).length=x.data.size:=ae _;refine⟨⟨by show (200:Int)≤200;decide,by show (200:Int)≤599;decide⟩,by show 1≤2;decide,fun y hy=> ?_,by show (ab x.data).length≤_;omega,?_,by rw [show ck 200=false from by decide];simp⟩
 ·have hy:y∈[(co lD,x.type)]:=hy;rw [List.mem_singleton] at hy;subst hy;exact⟨Cd h4 h5,by show (ab (co lD)).length≤100;decide,by show (ab x.type).length≤_;rw [ae];omega⟩
 ·show iy (ab x.data).length (if _ then _ else _)=true;rw [e];split
  ·exact BB _
  ·rfl
def xj:List af:=[na,fW,px]
theorem Ge:∀ a∈xj,∀ b∈xj,∀ c∈xj,∀ d∈xj,¬(a < b∧b < c∧c < d):=by decide+kernel
def iI(x:aJ):Bool:=fL x&&(decide ((ab x.1).length≤100)&&decide ((ab x.2).length≤2000))
theorem nG{x:aJ}(h:iI x=true):fL x=true∧(ab x.1).length≤100∧(ab x.2).length≤2000:=by
 unfold iI at h;simpa using h
theorem Ae:iI (eK [])=true:=by decide+kernel
theorem zA:∀ a∈xj,iI (eK [a])=true:=by decide+kernel
theorem Am:∀ a∈xj,∀ b∈xj,iI (eK [a,b])=true:=by decide+kernel
theorem As:∀ a∈xj,∀ b∈xj,∀ c∈xj,iI (eK [a,b,c])=true:=by decide+kernel
theorem Fo{al:List af}(ha:Hy al)(h:∀ t∈al,t∈xj):iI (eK al)=true:=by
 match al,ha,h with
 |[],_,_=>exact Ae
 |[a],_,h=>exact zA a (h a (by simp))
 |[a,b],_,h=>exact Am a (h a (by simp)) b (h b (by simp))
 |[a,b,c],_,h=>exact As a (h a (by simp)) b (h b (by simp)) c (h c (by simp))
 |a::b::c::d::r,ha,h=>
  refine absurd ?_ (Ge a (h a (by simp)) b (h b (by simp)) c (h c (by simp)) d (h d (by simp)));have h1:=List.pairwise_cons.1 ha;have h2:=List.pairwise_cons.1 h1.2;have h3:=List.pairwise_cons.1 h2.2;exact⟨h1.1 b (by simp),h2.1 c (by simp),h3.1 d (by simp)⟩
theorem so(T:List bE)(m path:af)(h:(bl (am T) m path).2.2.2=405):Hy (bl (am T) m path).2.2.1∧∀ t∈(bl (am T) m path).2.2.1,t∈xj:=by
 unfold bl at h ⊢
 cases hf:jO (am T) path with
 |none=>rw [hf] at h;simp only at h;exact absurd h (by decide)
 |some kr=>
  obtain⟨k,rest⟩:=kr;rw [hf] at h
  cases hp:iO (iN (am T) k) m with
  |some i=>simp only [hp] at h;exact absurd h (by decide)
  |none=>
   simp only [hp];unfold ib;have hc:=mJ (sK (cJ (fI (iN (am T) k))));refine⟨hc.1,fun t ht=> ?_⟩;have ht:=(hc.2 t).1 ht;rw [zE] at ht;unfold cJ at ht;have h2:t=fW∨t∈fI (iN (am T) k):=by
    split at ht
    ·rcases List.mem_append.1 ht with h|h
     ·exact Or.inr h
     ·exact Or.inl (by simpa using h)
    ·exact Or.inr ht
   rcases h2 with rfl|h2
   ·simp [xj]
   ·obtain⟨y,hy,hty⟩:=List.mem_flatMap.1 h2;rcases eR (List.mem_filter.1 hy).1 with hb|⟨_,_,_,rfl⟩
    ·simp only [jS,List.mem_cons,List.not_mem_nil,or_false] at hb;rcases hb with rfl|rfl|rfl<;>(simp only [List.mem_cons,List.not_mem_nil,or_false] at hty;subst hty;simp [xj])
    ·have:t=na:=by simpa [cX] using hty
     subst this;simp [xj]
theorem oA:iP (aC 404 []):=ee (by decide) (by decide) (fun x hx=>by cases hx)
theorem Cu{T:List bE}(hT:cM T=true)(q:af):iP (rj T q):=by
 unfold rj;split
 ·rename_i x hx
  have hm:=List.mem_of_find?_eq_some hx;have hT2:jg x=true:=by
   unfold cM at hT;rw [Bool.and_eq_true,List.all_eq_true] at hT;exact hT.2 x hm
  have:=(oU hT2).2.2.2.2.2;exact pm (by rw [ae];exact this)
 ·exact oA
theorem xr(T:List bE)(q:Rq)(hT:cM T=true)(hx:∀ x∈q.fs,ny x=true)(hl:q.fs.length≤24)(hz:pD q.fs≤1100)(hb:q.body.length≤2048):iP (cZ T q):=by
 unfold cZ;split
 ·exact ee (by decide) (by decide) (fun x hx=>by
   rw [List.mem_singleton] at hx;subst hx;exact nG (by decide+kernel))
 ·split
  ·exact ee (by decide) (by decide) (fun x hx=>by cases hx)
  ·split
   ·exact oA
   ·split
    ·rename_i h405
     obtain⟨h1,h2⟩:=so T _ _ h405;refine ee (by split<;>decide) (Nat.le_refl 1) (fun x hx=> ?_);rw [List.mem_singleton] at hx;subst hx;exact nG (Fo h1 h2)
    ·unfold EG;split
     ·obtain⟨h1,h2,h3⟩:=Dv q.fs hx hl;exact xZ h1 h2 (by omega) hb
     ·split
      ·exact Cu hT _
      ·split
       ·exact pm (by decide)
       ·split
        ·rename_i x hxx
         have hm:=List.mem_of_getElem? hxx;unfold cM at hT;rw [Bool.and_eq_true,List.all_eq_true] at hT;exact Ci (hT.2 x hm)
        ·exact oA
theorem De{T:List bE}(h:dJ T=0):cM T=true:=by
 unfold dJ at h
 cases ht:cM T with
 |true=>rfl
 |false=>rw [if_neg (by rw [ht];decide)] at h;exact absurd h (by decide)
def GV(r:FT):Rq:=⟨⟨r.method.toArray⟩,r.target.form,⟨r.target.host.toArray⟩,⟨r.target.path.toArray⟩,⟨r.target.query.toArray⟩,r.minor,r.fields,r.body,r.close,r.expect⟩
theorem qE{T:List bE}(hT:dJ T=0){h:Hd}{bb:af}(ho:bI (.whole h bb)):iP (cZ T (GV (Ds h bb))):=
 xr T _ (De hT) ho.1.isx ho.1.ok.len ho.1.ok.light.size ho.2
def q0(b:af):Rq:=⟨⟨#[]⟩,0,⟨#[]⟩,⟨#[]⟩,⟨#[]⟩,0,[],b,false,false⟩
end Go.Proofs.YtcflkcbogofgbaaGreatDoor
