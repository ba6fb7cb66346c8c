import Derived.Test.YtadcjgopaadfjaaGreatDoorQE
import Derived.Test.YtadcjgopaadfjaaGreatDoorQJ
import Derived.Test.YtadcjgopaadfjaaGreatDoorQZ
import Derived.Test.YtadcjgopaadfjaaGreatDoorQY
import Derived.Test.YtadcjgopaadfjaaGreatDoorQG
namespace Go.Proofs.YtadcjgopaadfjaaGreatDoor
open Go.RowKit Go.Proofs
theorem mQ(p:UInt8→Bool)(l:ah):(l.dropWhile p).dropWhile p=l.dropWhile p:=by
 induction l with
 |nil=>rfl
 |cons c l ih=>
  cases h:p c with
  |true=>rw [List.dropWhile_cons_of_pos h,ih]
  |false=>rw [List.dropWhile_cons_of_neg (by simp [h]),List.dropWhile_cons_of_neg (by simp [h])]
theorem uL(l:ah):ay (ay l)=ay l:=by
 rw [it,it,pD];show dh (dh _)=_;have e1:aQ (aQ l)=aQ l:=mQ _ _;have e2:∀ m:ah,dh (dh m)=dh m:=fun m=>by
  unfold dh;rw [List.reverse_reverse,mQ]
 rw [e1,e2]
theorem xM{l:ah}(h:di l=true):di (ay l)=true:=by
 unfold di at *;rw [List.all_eq_true] at *;intro c hc;refine h c ?_;rw [it] at hc;unfold dh at hc;rw [List.mem_reverse] at hc;have h1:=(List.dropWhile_sublist io).subset hc;rw [List.mem_reverse] at h1;exact(List.dropWhile_sublist io).subset h1
theorem nK:∀ (l cur:List aM),(∀ x∈l,oz x=true)→cur.length+l.length≤24→(bh cur l).1=cur++l
 |[],cur,_,_=>by simp [bh]
 |x::l,cur,hx,hl=>by
  rw [List.length_cons] at hl;have h1:=hx x List.mem_cons_self;unfold bh;rw [if_neg (by rw [h1];decide),if_neg (by omega)];show (bh (cur++[x]) l).1=_;rw [nK l (cur++[x]) (fun y hy=>hx y (List.mem_cons_of_mem _ hy)) (by simp;omega),List.append_assoc];rfl
theorem Er{x:aM}(h:oz x=true):di (af x.2)=true:=by
 unfold oz Df at h;simp only [Bool.and_eq_true] at h;exact h.2.1
theorem DJ:di jg=true:=by decide
theorem oX(name:ByteArray):∀ fs:List aM,(∀ x∈fs,oz x=true)→di (Lib.joinTail jg ((ak fs name).map (·.data.toList)))=true∧(Lib.joinTail jg ((ak fs name).map (·.data.toList))).length≤oq fs+2 * fs.length
 |[],_=>⟨rfl,Nat.le_refl _⟩
 |x::fs,hx=>by
  obtain⟨h1,h2⟩:=oX name fs (fun y hy=>hx y (List.mem_cons_of_mem _ hy));have hv:=Er (hx x List.mem_cons_self);have e3:oq (x::fs)=x.1.size+x.2.size+oq fs:=by simp [oq]
  rw [e3,List.length_cons];unfold ak;rw [List.filter_cons];by_cases hs:dp x.1.data.toList name.data.toList=true
  ·rw [if_pos hs];have e1:Lib.joinTail jg (((x::fs.filter fun x=>dp x.1.data.toList name.data.toList).map (·.2)).map (·.data.toList))=jg++(af x.2++Lib.joinTail jg ((ak fs name).map (·.data.toList))):=by
    simp [Lib.joinTail,ak,af]
   rw [e1];refine⟨?_,?_⟩
   ·unfold di at *;rw [List.all_append,List.all_append,show List.all jg fm=true from DJ,hv,h1];rfl
   ·rw [List.length_append,List.length_append];have:(af x.2).length=x.2.size:=ag x.2;have:jg.length=2:=rfl;omega
  ·rw [if_neg hs];exact⟨h1,Nat.le_trans h2 (by omega)⟩
theorem Eg(name:ByteArray)(fs:List aM)(hx:∀ x∈fs,oz x=true):di (ee fs name)=true∧(ee fs name).length≤oq fs+2 * fs.length:=by
 obtain⟨h1,h2⟩:=oX name fs hx;unfold ee
 cases hv:(ak fs name).map (·.data.toList) with
 |nil=>exact⟨rfl,by rw [Lib.join_nil];exact Nat.zero_le _⟩
 |cons y r=>
  rw [hv] at h1 h2;have e1:Lib.joinTail jg (y::r)=jg++(y++Lib.joinTail jg r):=by simp [Lib.joinTail]
  rw [e1] at h1 h2;rw [Lib.join_cons];unfold di at *;rw [List.all_append,Bool.and_eq_true] at h1;exact⟨h1.2,by rw [List.length_append] at h2;omega⟩
theorem Cd(fs:List aM)(hx:∀ x∈fs,oz x=true)(hl:fs.length≤24):di (af (lz fs))=true∧ay (af (lz fs))=af (lz fs)∧(af (lz fs)).length≤oq fs+100:=by
 obtain⟨h1,h2⟩:=Eg (bS kQ) fs hx;have e:(bh [] fs).1=fs:=by rw [nK fs [] hx (by simpa using hl)];rfl
 unfold lz;rw [e];by_cases h0:ay (ee fs (bS kQ))=[]
 ·rw [if_pos h0];have:(af (bS pW)).length=24:=by decide
  exact⟨by decide+kernel,by decide+kernel,by omega⟩
 ·rw [if_neg h0];show di (ay (ee fs (bS kQ)))=true∧ay (ay (ee fs (bS kQ)))=ay (ee fs (bS kQ))∧(ay (ee fs (bS kQ))).length≤_;have:=iG (ee fs (bS kQ));exact⟨xM h1,uL _,by omega⟩
theorem B6{kind:ByteArray}(h1:di (af kind)=true)(h2:ay (af kind)=af kind):fI (bS kQ,kind)=true:=by
 unfold fI oz Df;rw [show bo (bS kQ,kind).1.data.toList=true from(by decide+kernel:bo (bS kQ).data.toList=true),show yV (af (bS kQ,kind).1)=false from(by decide+kernel:yV (af (bS kQ))=false)];show (true&&(di (af kind)&&ay (af kind)==af kind))&& !false=true;rw [h1,h2];simp
structure hY (r:fQ):Prop where
 st:200≤r.st∧r.st≤599
 len:r.fs.length≤2
 fld:∀ x∈r.fs,fI x=true∧(af x.1).length≤100∧(af x.2).length≤2000
 body:r.body.length≤2048
 parts:gG r.body.length r.parts=true
 nob:(r.body.isEmpty|| !bR r.st)=true
theorem CT{r:fQ}(h:hY r)(head:Bool)(minor:Int):(iL r head minor).length≤16000:=by
 have hb:=h.body;unfold iL;split
 ·simp
 ·split
  ·unfold wR;rw [List.length_append];have hp:=h.parts;unfold gG at hp
   cases hm:gX r.body.length 0 r.parts with
   |none=>rw [hm] at hp;cases hp
   |some m=>
    have:=se r.body r.parts 0 m hm;have:=(px hm (Nat.zero_le _)).1;have:F4.length=5:=rfl;omega
  ·omega
theorem sI:∀ (l:List aM),(∀ x∈l,(af x.1).length≤100∧(af x.2).length≤2000)→(ci l).length≤2104 * l.length
 |[],_=>by simp [ci]
 |x::l,h=>by
  have h1:=sI l (fun y hy=>h y (List.mem_cons_of_mem _ hy));have h2:=h x List.mem_cons_self;have e:ci (x::l)=B8 x++ci l:=by simp [ci]
  rw [e,List.length_append,List.length_cons];unfold B8;simp only [List.length_append,List.length_cons];have:cZ.length=2:=rfl;omega
theorem D5{c:Int}(h0:0≤c)(h1:c≤9223372036854775807):(oy c).length≤63:=by
 have:=fF h0 h1;have:=eR c;unfold oy;simp only [List.length_append,List.length_cons];have:nV.length=9:=rfl;have:cZ.length=2:=rfl;omega
theorem hY.may{r:fQ}(h:hY r):yt r=true:=by
 have hf:r.fs.all fI=true:=List.all_eq_true.2 (fun x hx=>(h.fld x hx).1);rw [Cv h.st (by have:=h.len;omega) hf h.parts];exact h.nob
theorem hY.enc{r:fQ}(h:hY r)(head close:Bool)(minor:Int):qR r head minor close=0:=by
 refine E0 h.may ?_;rw [pC];have h1:=CT h head minor;have h2:=sI r.fs (fun x hx=>(h.fld x hx).2);have h3:=D5 (c:=r.st) (by have:=h.st;omega) (by have:=h.st;omega);have h4:=su r minor (by have:=h.body;omega);have h5:=sk minor close;have h6:=h.len;unfold lE;simp only [List.length_append];have:cZ.length=2:=rfl;have:2104 * r.fs.length≤2104 * 2:=Nat.mul_le_mul_left _ h6;omega
theorem xy{kind:ByteArray}{l:ah}(h1:di (af kind)=true)(h2:ay (af kind)=af kind)(h3:(af kind).length≤2000)(hb:l.length≤2048):hY (AF kind l):=
 ⟨⟨by show (200:Int)≤200;decide,by show (200:Int)≤599;decide⟩,by show 1≤2;decide,fun x hx=>by
   have hx:x∈[(bS kQ,kind)]:=hx;rw [List.mem_singleton] at hx;subst hx;exact⟨B6 h1 h2,by show (af (bS kQ)).length≤100;decide,h3⟩,hb,rfl,by rw [show bR (AF kind l).st=false from(by decide:bR 200=false)];simp⟩
theorem nj{l:ah}(hb:l.length≤2048):hY (AF (bS cw) l):=xy (by decide+kernel) (by decide+kernel) (by decide) hb
theorem zN:fI (lR cw)=true∧(af (lR cw).1).length≤100∧(af (lR cw).2).length≤2000:=⟨by decide+kernel,by decide,by decide⟩
theorem dI{c:Int}{more:List aM}(hc:200≤c∧c≤599)(hl:more.length≤1)(h:∀ x∈more,fI x=true∧(af x.1).length≤100∧(af x.2).length≤2000):hY (aD c more):=by
 unfold aD;by_cases hn:bR c=true
 ·rw [if_pos hn];exact⟨hc,by show more.length≤2;omega,h,by show 0≤2048;decide,rfl,rfl⟩
 ·rw [if_neg hn];refine⟨hc,by show more.length+1≤2;omega,fun x hx=> ?_,?_,rfl,?_⟩
  ·rcases List.mem_cons.1 hx with rfl|hx
   ·exact zN
   ·exact h x hx
  ·show (Lib.itoa c++32::(aE c++[10])).length≤_;simp only [List.length_append,List.length_cons,List.length_nil];have:=fF (c:=c) (by omega) (by omega);have:=eR c;omega
  ·show ((Lib.itoa c++32::(aE c++[10])).isEmpty|| !bR c)=true;rw [show bR c=false from by simpa using hn];simp
theorem re(n:Nat):∀ (m j:Nat),j+m=(n+15) / 16→gX n (min (16 * j) n) ((List.range' j m).map fun k=>min (16 * (k+1)) n)=some (min (16 * (j+m)) n)
 |0,j,_=>rfl
 |m+1,j,h=>by
  rw [List.range'_succ,List.map_cons];unfold gX;rw [if_neg (by omega)];rw [re n m (j+1) (by omega)];congr 2;omega
theorem zQ(n:Nat):gG n (cS n)=true:=by
 have h:=re n ((n+15) / 16) 0 (by omega);unfold gG cS;rw [List.range_eq_range'];rw [show min (16 * 0) n=0 by omega] at h;rw [h];by_cases h0:n=0
 ·subst h0;rfl
 ·show (_||min (16 * (0+(n+15) / 16)) n==n)=true;rw [show min (16 * (0+(n+15) / 16)) n=n by omega];simp
theorem AQ{x:br}(h:fZ x=true):hY (yO x):=by
 obtain⟨_,_,h3,h4,h5,h6⟩:=jC h;unfold yO;have e:(af x.data).length=x.data.size:=ag _;refine⟨⟨by show (200:Int)≤200;decide,by show (200:Int)≤599;decide⟩,by show 1≤2;decide,fun y hy=> ?_,by show (af x.data).length≤_;omega,?_,by rw [show bR 200=false from by decide];simp⟩
 ·have hy:y∈[(bS kQ,x.type)]:=hy;rw [List.mem_singleton] at hy;subst hy;exact⟨B6 h4 h5,by show (af (bS kQ)).length≤100;decide,by show (af x.type).length≤_;rw [ag];omega⟩
 ·show gG (af x.data).length (if _ then _ else _)=true;rw [e];split
  ·exact zQ _
  ·rfl
def wG:List ah:=[lX,fo,nW]
theorem FS:∀ a∈wG,∀ b∈wG,∀ c∈wG,∀ d∈wG,¬(a < b∧b < c∧c < d):=by decide+kernel
def gZ(x:aM):Bool:=fI x&&(decide ((af x.1).length≤100)&&decide ((af x.2).length≤2000))
theorem nL{x:aM}(h:gZ x=true):fI x=true∧(af x.1).length≤100∧(af x.2).length≤2000:=by
 unfold gZ at h;simpa using h
theorem yT:gZ (dS [])=true:=by decide+kernel
theorem Ar:∀ a∈wG,gZ (dS [a])=true:=by decide+kernel
theorem zT:∀ a∈wG,∀ b∈wG,gZ (dS [a,b])=true:=by decide+kernel
theorem yv:∀ a∈wG,∀ b∈wG,∀ c∈wG,gZ (dS [a,b,c])=true:=by decide+kernel
theorem DI{al:List ah}(ha:F8 al)(h:∀ t∈al,t∈wG):gZ (dS al)=true:=by
 match al,ha,h with
 |[],_,_=>exact yT
 |[a],_,h=>exact Ar a (h a (by simp))
 |[a,b],_,h=>exact zT a (h a (by simp)) b (h b (by simp))
 |[a,b,c],_,h=>exact yv a (h a (by simp)) b (h b (by simp)) c (h c (by simp))
 |a::b::c::d::r,ha,h=>
  refine absurd ?_ (FS a (h a (by simp)) b (h b (by simp)) c (h c (by simp)) d (h d (by simp)));have h1:=List.pairwise_cons.1 ha;have h2:=List.pairwise_cons.1 h1.2;have h3:=List.pairwise_cons.1 h2.2;exact⟨h1.1 b (by simp),h2.1 c (by simp),h3.1 d (by simp)⟩
theorem rt(T:List br)(m path:ah)(h:(aW (ao T) m path).2.2.2=405):F8 (aW (ao T) m path).2.2.1∧∀ t∈(aW (ao T) m path).2.2.1,t∈wG:=by
 unfold aW at h ⊢
 cases hf:jt (ao T) path with
 |none=>rw [hf] at h;simp only at h;exact absurd h (by decide)
 |some kr=>
  obtain⟨k,rest⟩:=kr;rw [hf] at h
  cases hp:ig (gF (ao T) k) m with
  |some i=>simp only [hp] at h;exact absurd h (by decide)
  |none=>
   simp only [hp];unfold gN;have hc:=lD (sH (cz (fq (gF (ao T) k))));refine⟨hc.1,fun t ht=> ?_⟩;have ht:=(hc.2 t).1 ht;rw [za] at ht;unfold cz at ht;have h2:t=fo∨t∈fq (gF (ao T) k):=by
    split at ht
    ·rcases List.mem_append.1 ht with h|h
     ·exact Or.inr h
     ·exact Or.inl (by simpa using h)
    ·exact Or.inr ht
   rcases h2 with rfl|h2
   ·simp [wG]
   ·obtain⟨y,hy,hty⟩:=List.mem_flatMap.1 h2;rcases ep (List.mem_filter.1 hy).1 with hb|⟨_,_,_,rfl⟩
    ·simp only [jm,List.mem_cons,List.not_mem_nil,or_false] at hb;rcases hb with rfl|rfl|rfl<;>(simp only [List.mem_cons,List.not_mem_nil,or_false] at hty;subst hty;simp [wG])
    ·have:t=lX:=by simpa [bU] using hty
     subst this;simp [wG]
theorem nz:hY (aD 404 []):=dI (by decide) (by decide) (fun x hx=>by cases hx)
theorem BB{T:List br}(hT:bO T=true)(q:ah):hY (qn T q):=by
 unfold qn;split
 ·rename_i x hx
  have hm:=List.mem_of_find?_eq_some hx;have hT2:fZ x=true:=by
   unfold bO at hT;rw [Bool.and_eq_true,List.all_eq_true] at hT;exact hT.2 x hm
  have:=(jC hT2).2.2.2.2.2;exact nj (by rw [ag];exact this)
 ·exact nz
theorem vW(T:List br)(q:Rq)(hT:bO T=true)(hx:∀ x∈q.fs,oz x=true)(hl:q.fs.length≤24)(hz:oq q.fs≤1100)(hb:q.body.length≤2048):hY (co T q):=by
 unfold co;split
 ·exact dI (by decide) (by decide) (fun x hx=>by
   rw [List.mem_singleton] at hx;subst hx;exact nL (by decide+kernel))
 ·split
  ·exact dI (by decide) (by decide) (fun x hx=>by cases hx)
  ·split
   ·exact nz
   ·split
    ·rename_i h405
     obtain⟨h1,h2⟩:=rt T _ _ h405;refine dI (by split<;>decide) (Nat.le_refl 1) (fun x hx=> ?_);rw [List.mem_singleton] at hx;subst hx;exact nL (DI h1 h2)
    ·unfold Dg;split
     ·obtain⟨h1,h2,h3⟩:=Cd q.fs hx hl;exact xy h1 h2 (by omega) hb
     ·split
      ·exact BB hT _
      ·split
       ·exact nj (by decide)
       ·split
        ·rename_i x hxx
         have hm:=List.mem_of_getElem? hxx;unfold bO at hT;rw [Bool.and_eq_true,List.all_eq_true] at hT;exact AQ (hT.2 x hm)
        ·exact nz
theorem BK{T:List br}(h:cD T=0):bO T=true:=by
 unfold cD at h
 cases ht:bO T with
 |true=>rfl
 |false=>rw [if_neg (by rw [ht];decide)] at h;exact absurd h (by decide)
def Fq(r:Gb):Rq:=⟨⟨r.method.toArray⟩,r.target.form,⟨r.target.host.toArray⟩,⟨r.target.path.toArray⟩,⟨r.target.query.toArray⟩,r.minor,r.fields,r.body,r.close,r.expect⟩
theorem pj{T:List br}(hT:cD T=0){h:Hd}{bb:ah}(ho:cK (.whole h bb)):hY (co T (Fq (Fu h bb))):=
 vW T _ (BK hT) ho.1.isx ho.1.ok.len ho.1.ok.light.size ho.2
def q0(b:ah):Rq:=⟨⟨#[]⟩,0,⟨#[]⟩,⟨#[]⟩,⟨#[]⟩,0,[],b,false,false⟩
end Go.Proofs.YtadcjgopaadfjaaGreatDoor
