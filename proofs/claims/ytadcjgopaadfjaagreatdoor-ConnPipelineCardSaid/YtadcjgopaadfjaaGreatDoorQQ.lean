import Derived.Test.YtadcjgopaadfjaaGreatDoorQP
import Derived.Test.YtadcjgopaadfjaaGreatDoorQL
import Derived.Test.YtadcjgopaadfjaaGreatDoorQC
import Derived.Deep.RegionLaw
namespace Go.Proofs.YtadcjgopaadfjaaGreatDoor
open Go.RowKit Go.Proofs
def ji:ByteArray:=⟨#[72,111,115,116]⟩
def eH:ByteArray:=⟨#[67,111,110,116,101,110,116,45,76,101,110,103,116,104]⟩
def gS:ByteArray:=⟨#[84,114,97,110,115,102,101,114,45,69,110,99,111,100,105,110,103]⟩
def lJ:ByteArray:=⟨#[67,111,110,110,101,99,116,105,111,110]⟩
def lH:ByteArray:=⟨#[69,120,112,101,99,116]⟩
def bM:ah:=[99,104,117,110,107,101,100]
def CW:ah:=[99,108,111,115,101]
def ER:ah:=[107,101,101,112,45,97,108,105,118,101]
def ni:ah:=[49,48,48,45,99,111,110,116,105,110,117,101]
structure qN where
 kind:Int
 len:Int
 close:Bool
 expect:Bool
def nw:qN:=⟨0,0,false,false⟩
def jp(minor:Int)(l:List ByteArray):Bool:=match l with
 |[]=> !(minor==1)
 |[x]=>x.size==0||eh (af x)
 |_=>false
def jf(l:List ah):Int:=if l.getLast?=some bM then (if l.length=1 then 0 else if l.dropLast.any (·==bM)=true then 400 else 501) else 400
def qQ(minor:Int)(cl te:List ByteArray):Int:=if minor=0∨0 < cl.length then 400 else match aO (ar te) with
 |none=>400
 |some l=>jf l
def lM(l:List ah):Int × Int:=match l with
 |[]=>(0,400)
 |t::r=>if (t::r).all (fun x=>(fW x).2&&(fW x).1==(fW t).1)=true then (if 2048 < (fW t).1 then (0,413) else ((fW t).1,0)) else (0,400)
def sW(cl:List ByteArray):Int × Int:=match aO (ar cl) with
 |none=>(0,400)
 |some l=>lM l
def bC(minor:Int)(fs:List aM):Int × Int × Int:=
 if 0 < (ak fs gS).length then (2,0,qQ minor (ak fs eH) (ak fs gS)) else
 if 0 < (ak fs eH).length then (1,(sW (ak fs eH)).1,(sW (ak fs eH)).2) else (0,0,0)
def nR(minor:Int)(T:Option (List ah)):Bool:=DM T CW||((minor==0)&& !DM T ER)
def gW(minor:Int)(fs:List aM):qN × Int:=
 if jp minor (ak fs ji)=false then (nw,400) else
 if (bC minor fs).2.2≠0 then (nw,(bC minor fs).2.2) else
 if aO (ar (ak fs lJ))=none then (nw,400) else
 if minor=1∧0 < (ak fs lH).length then
  (if dp (ee fs lH) ni=false then (nw,417) else (⟨(bC minor fs).1,(bC minor fs).2.1,nR minor (aO (ar (ak fs lJ))),decide ((bC minor fs).1=2)||decide (0 < (bC minor fs).2.1)⟩,0))
 else (⟨(bC minor fs).1,(bC minor fs).2.1,nR minor (aO (ar (ak fs lJ))),false⟩,0)
structure Hd where
 fields:List aM
 method:ah
 target:Tg
 minor:Int
 how:qN
 started:Bool
 whole:Bool
 status:Int
 bytes:Nat
 empty:Nat
def Hd.new:Hd:=⟨[],[],⟨0,[],[],[]⟩,0,nw,false,false,0,0,0⟩
def wD:ah→ah→List ah
 |_,[]=>[]
 |cur,c::l=>if c=32 then cur::wD [] l else wD (cur++[c]) l
def mR(s:ah):List ah:=wD [] (s++[32])
def lV(c:UInt8):Bool:=decide (48≤c.toNat)&&decide (c.toNat≤57)
def fg(v:ah):Int × UInt8:=match v with
 |[72,84,84,80,47,a,46,b]=>if lV a=true∧lV b=true then (if a=49 then (0,b) else (505,0)) else (400,0)
 |_=>(400,0)
def qT(h:Hd)(m:ah)(t:Tg)(b:UInt8):Hd:= {h with started:=true,method:=m,target:=t,minor:=if b=48 then h.minor else 1}
def bH(h:Hd)(l:List ah):Hd × Int:=match l with
 |[m,s,v]=>if bo m=false then (h,400) else if (fg v).1≠0 then (h,(fg v).1) else match dJ m s with
  |(some t,_)=>(qT h m t (fg v).2,0)
  |(none,c)=>(h,if c=9 then 414 else 400)
 |_=>(h,400)
def kL(h:Hd)(s:ah):Hd × Int:=if (bf s).1≠0 then (h,400) else
 ({h with fields:=(bh h.fields [(⟨(bf s).2.1.toArray⟩,⟨(bf s).2.2.toArray⟩)]).1},if (bh h.fields [(⟨(bf s).2.1.toArray⟩,⟨(bf s).2.2.toArray⟩)]).2.2≠0 then 431 else 0)
def Hd.more(h:Hd)(n:Nat):Hd:= {h with bytes:=h.bytes+n+2}
def Hd.long(h:Hd):Int:=if h.started=true then 431 else 414
def Hd.ends(h:Hd):Hd:= {h with how:=(gW h.minor h.fields).1,whole:=decide ((gW h.minor h.fields).2=0)}
def bA(h:Hd)(s:ah):Hd × Int:=
 if 256 < s.length then (h,h.long) else
 if 1024 < h.bytes+s.length+2 then (h.more s.length,h.long) else
 if h.started=false then (if s=[] then ({h.more 0 with empty:=h.empty+1},if 4 < h.empty+1 then 400 else 0) else bH (h.more s.length) (mR s)) else
 if s=[] then ((h.more 0).ends,(gW h.minor h.fields).2) else kL (h.more s.length) s
def bw(h:Hd)(s:ah):Hd:=if h.whole=false∧h.status=0 then {(bA h s).1 with status:=(bA h s).2} else h
inductive dG where
 |size (line:ah)
 |data (left:Nat)
 |tail (k:Nat)
 |trail (line:ah) (ends:Nat) (ts:List aM)
inductive eW where
 |at (body:ah) (p:dG)
 |whole (body:ah)
 |bad (status:Int)
def dV(l:ah):Option ah:=if l.getLast?=some 13 then some l.dropLast else none
def cG(l:ah)(c:UInt8):Nat:=if c=13 then l.length else l.length+1
def bQ(c:UInt8):Bool:=decide (0≤aJ c)
def cC(s:ah):ah:=s.takeWhile bQ
def dM(body s:ah):eW:=
 if (cC s).length < 1∨6 < (cC s).length then .bad 400 else
 if cc (s.drop (cC s).length)=none then .bad 400 else
 if 2048 < (body.length:Int)+(fK (cC s)).1 then .bad 413 else
 if (fK (cC s)).1=0 then .at body (.trail [] 0 []) else .at body (.data (fK (cC s)).1.toNat)
def cM(body s:ah)(ends:Nat)(ts:List aM):eW:=
 if s=[] then .whole body else
 if (bf s).1≠0 then .bad 400 else
 if ts.length=8∨512 < ends+s.length+2 then .bad 431 else .at body (.trail [] (ends+s.length+2) (ts++[(⟨(bf s).2.1.toArray⟩,⟨(bf s).2.2.toArray⟩)]))
def fM(body:ah)(p:dG)(c:UInt8):eW:=match p with
 | .data n=>.at (body++[c]) (if n=1 then .tail 0 else .data (n-1))
 | .tail k=>if c=(if k=0 then 13 else 10) then .at body (if k=0 then .tail 1 else .size []) else .bad 400
 | .size l=>if c=10 then (match dV l with
  |none=>.bad 400
  |some s=>dM body s) else if 64 < cG l c then .bad 400 else .at body (.size (l++[c]))
 | .trail l e ts=>if c=10 then (match dV l with
  |none=>.bad 400
  |some s=>cM body s e ts) else if 256 < cG l c∨512 < e+cG l c then .bad 431 else .at body (.trail (l++[c]) e ts)
inductive cP where
 |idle
 |head (h:Hd) (l:ah)
 |len (h:Hd) (b:ah)
 |chunk (h:Hd) (b:ah) (p:dG)
 |whole (h:Hd) (b:ah)
 |bad (status:Int)
def dZ(h:Hd):cP:=
 if h.how.kind=0∨(h.how.kind=1∧h.how.len=0) then .whole h [] else
 if h.how.kind=1 then .len h [] else .chunk h [] (.size [])
def eP(h:Hd)(l:ah)(c:UInt8):cP:=
 if c=10 then (match dV l with
  |none=>.bad 400
  |some s=>if (bw h s).status≠0 then .bad (bw h s).status else if (bw h s).whole=true then dZ (bw h s) else .head (bw h s) []) else
 if 256 < cG l c then .bad h.long else .head h (l++[c])
def dy(h:Hd):eW→cP
 | .at b p=>.chunk h b p
 | .whole b=>.whole h b
 | .bad s=>.bad s
def lI(s:cP)(c:UInt8):cP:=match s with
 | .idle=>eP Hd.new [] c
 | .head h l=>eP h l c
 | .len h b=>if ((b.length+1:Nat):Int)=h.how.len then .whole h (b++[c]) else .len h (b++[c])
 | .chunk h b p=>dy h (fM b p c)
 |s=>s
def cP.done:cP→Bool
 | .whole _ _=>true
 | .bad _=>true
 |_=>false
def cP.phase:cP→Int
 | .idle=>0
 | .head _ _=>1
 | .len _ _=>2
 | .chunk _ _ _=>2
 | .whole _ _=>3
 | .bad _=>4
def cP.status:cP→Int
 | .bad s=>s
 |_=>0
def aS:cP→ah→cP × Nat
 |s,[]=>(s,0)
 |s,c::r=>if s.done=true then (s,0) else ((aS (lI s c) r).1,(aS (lI s c) r).2+1)
structure Gb where
 method:ah
 target:Tg
 minor:Int
 fields:List aM
 body:ah
 close:Bool
 expect:Bool
def Fu(h:Hd)(b:ah):Gb:=⟨h.method,h.target,h.minor,h.fields,b,h.how.close,h.how.expect⟩
theorem qm{l s:ah}(h:dV l=some s):l=s++[13]:=by
 unfold dV at h;split at h
 ·rename_i g
  injection h with h;rw [←h];obtain⟨ne,e⟩:=List.getLast?_eq_some_iff.1 g;rw [e];simp
 ·cases h
theorem vZ{l:ah}{c:UInt8}{n:Nat}(h:¬n < cG l c):(l++[c]).length≤n+1:=by
 unfold cG at h;rw [List.length_append,List.length_singleton];split at h<;>omega
theorem ez{s:cP}(h:s.done=true)(t:ah):aS s t=(s,0):=by
 cases t with
 |nil=>rfl
 |cons c r=>rw [aS,if_pos h]
theorem da{s:cP}(h:s.done=false)(c:UInt8)(r:ah):aS s (c::r)=((aS (lI s c) r).1,(aS (lI s c) r).2+1):=by
 rw [aS,if_neg (by rw [h];decide)]
theorem jT:∀ (t:ah) (s:cP),(aS s t).2≤t.length
 |[],s=>Nat.le_refl _
 |c::r,s=>by
  cases h:s.done with
  |true=>rw [ez h];exact Nat.zero_le _
  |false=>
   rw [da h];have:=jT r (lI s c);simp only [List.length_cons];omega
def cu(tt:TypeId)(tl:List Value)(w:World)(B g:Nat)(v:Value)(l:List aM):Prop:=
 Bk w g tt (v::tl).toArray∧w.ownsRow B 143 2 v l.length (av l)∧v.ownBlock≠some g
section
variable {tt:TypeId} {tl:List Value}
theorem cu.sm{S:Nat→Prop}{w w':World}{B g:Nat}{v:Value}{l:List aM}(h:cu tt tl w B g v l)(hs:Sm S w w')(hg:¬S g)(hv:∀ b,v.ownBlock=some b→¬S b):cu tt tl w' B g v l:=
 ⟨h.1.sm hs hg,ae h.2.1 hs hv,h.2.2⟩
theorem cu.no{w w':World}{B g:Nat}{v:Value}{l:List aM}(h:cu tt tl w B g v l)(hs:Sm No w w'):cu tt tl w' B g v l:=h.sm hs (fun h=>h) (fun _ _ h=>h)
theorem cu.len{w:World}{B g:Nat}{v:Value}{l:List aM}(h:cu tt tl w B g v l):∃ A c,v=.slice A l.length c:=by
 rcases aK h.2.1 with ⟨rfl,h0,_⟩|⟨b,cap,rfl,_⟩
 ·exact⟨none,0,by rw [h0]⟩
 ·exact⟨_,_,rfl⟩
theorem cu.row{w:World}{B g:Nat}{v:Value}{l:List aM}(h:cu tt tl w B g v l):∃ A c,v=.slice A l.length c∧ec w A l:=by
 rcases aK h.2.1 with ⟨rfl,h0,_⟩|⟨b,cap,rfl,_,_,hb,_,hc,_⟩
 ·exact⟨none,0,by rw [h0],fun k hk=>absurd hk (by omega)⟩
 ·refine⟨_,_,rfl,fun k hk=> ?_⟩;obtain⟨h1,h2⟩:=eT l k hk;exact⟨b,0,rfl,hb,by simpa using hc _ _ h1,by simpa using hc _ _ h2⟩
end
def oq(l:List aM):Nat:=(l.map fun x=>x.1.size+x.2.size).sum
structure fT (l:List aM):Prop where
 len:l.length≤24
 size:oq l≤1100
theorem qh{l:List aM}{x:aM}(h:x∈l):x.1.size+x.2.size≤oq l:=by
 induction l with
 |nil=>cases h
 |cons y l ih=>
  unfold oq at ih ⊢;rw [List.map_cons,List.sum_cons];rcases List.mem_cons.1 h with rfl|h
  ·omega
  ·have:=ih h;omega
theorem CC(l:List aM)(x:aM):oq (l++[x])=oq l+(x.1.size+x.2.size):=by unfold oq;simp
theorem fT.short{l:List aM}(h:fT l):jr l:=fun x hx=>by have:=qh hx;have:=h.size;omega
theorem tU(l:List aM)(nm:ByteArray):ik (ak l nm)≤oq l+l.length:=by
 induction l with
 |nil=>exact Nat.zero_le _
 |cons y l ih=>
  have e:oq (y::l)=y.1.size+y.2.size+oq l:=by unfold oq;rw [List.map_cons,List.sum_cons]
  rw [e,List.length_cons];unfold ak at ih ⊢;rw [List.filter_cons];split
  ·have e2:∀ L:List ByteArray,ik (y.2::L)=1+y.2.size+ik L:=fun L=>by unfold ik;rw [List.map_cons,List.sum_cons]
   rw [List.map_cons,e2];omega
  ·omega
theorem fT.light{l:List aM}(h:fT l)(nm:ByteArray):iI (ak l nm):=Cu (by have:=tU l nm;have:=h.len;have:=h.size;omega)
section
variable {tt:TypeId} {tl:List Value}
theorem bi.row2{w:World}{B:Nat}{v:Value}{r:List (List UInt8)}(h:bi w B v r):∃ A c,v=.slice A r.length c∧ax w A (r.map aP):=by
 obtain⟨A,c,hv,hR,_⟩:=au h;exact⟨A,c,hv,hR⟩
theorem xD{l:List ah}(h:¬l.getLast?=some bM):jf l=400:=by unfold jf;rw [if_neg h]
theorem CR{l:List ah}(h:l.getLast?=some bM)(h1:l.length=1):jf l=0:=by unfold jf;rw [if_pos h,if_pos h1]
theorem Br{l:List ah}(h:l.getLast?=some bM)(h1:¬l.length=1)(h2:l.dropLast.any (·==bM)=true):jf l=400:=by unfold jf;rw [if_pos h,if_neg h1,if_pos h2]
theorem vN{l:List ah}(h:l.getLast?=some bM)(h1:¬l.length=1)(h2:l.dropLast.any (·==bM)=false):jf l=501:=by unfold jf;rw [if_pos h,if_neg h1,if_neg (by rw [h2];decide)]
end
section
variable {tt:TypeId} {tl:List Value}
def sM(n0:Int)(x:ah):Bool:=(fW x).2&&(fW x).1==n0
def pm(n0:Int)(l:List ah):Int × Int:=if l.all (sM n0)=true then (if 2048 < n0 then (0,413) else (n0,0)) else (0,400)
theorem DF(t:ah)(r:List ah):lM (t::r)=pm (fW t).1 (t::r):=rfl
theorem Ap{n0:Int}{l:List ah}{x:ah}(hx:x∈l)(h:sM n0 x=false):pm n0 l=(0,400):=by
 unfold pm;rw [if_neg];intro e;rw [List.all_eq_true] at e;have:=e x hx;rw [h] at this
 cases this
theorem AE{n0:Int}{l:List ah}(h:l.all (sM n0)=true):pm n0 l=if 2048 < n0 then (0,413) else (n0,0):=by unfold pm;rw [if_pos h]
theorem xY{p:ah→Bool}{r:List ah}{k:Nat}(h:k < r.length)(hn:(r.take k).all p=true)(hp:p r[k]=true):(r.take (k+1)).all p=true:=by
 rw [List.take_succ_eq_append_getElem h,List.all_append,hn];simp [hp]
theorem pS(l:ah)(h:l.length≤100000):0≤(fW l).1∧(fW l).1≤1152921504606846976:=by
 unfold fW fL;split
 ·decide
 ·rename_i g
  split
  ·rename_i n hn
   obtain⟨a,b⟩:=mm (Or.inl rfl) (k:=0) hn (by decide) (by decide);refine⟨a,?_⟩;have:(16:Int) ^ (0+l.length)≤16 ^ 15:=by exact_mod_cast Nat.pow_le_pow_right (by decide) (by omega)
   have e:(16:Int) ^ 15=1152921504606846976:=by decide
   show n≤_;omega
  ·decide
def AY(w:World)(r:List ah)(n0:Int)(n i:Value)(wr:World):Prop:=∃ k:Nat,k≤r.length∧i=.int .i64 k∧n=.int .i64 (if k=0 then 0 else n0)∧Sm No w wr∧(r.take k).all (sM n0)=true
theorem AY.next{w wr:World}{r:List ah}{n0:Int}{k:Nat}(hlt:k < r.length)(hs:Sm No w wr)(h:(r.take (k+1)).all (sM n0)=true):AY w r n0 (.int .i64 n0) (.int .i64 ((k:Int)+1)) wr:=⟨k+1,by omega,by go_num,by rw [if_neg (by omega)],hs,h⟩
end
def qC(h:qN):Value:=.agg #[.int .i64 h.kind,.int .i64 h.len,.bool h.close,.bool h.expect]
def mg(p:qN × Int)(w:World)(e:Ending)(w':World):Prop:=Sm No w w'∧e=.returned (.tuple #[qC p.1,.int .i64 p.2])
theorem iQ{m:Int}{fs:List aM}(h:jp m (ak fs ji)=false):gW m fs=(nw,400):=by unfold gW;rw [if_pos h]
theorem ek{m:Int}{fs:List aM}(h:jp m (ak fs ji)=true)(h1:(bC m fs).2.2≠0):gW m fs=(nw,(bC m fs).2.2):=by unfold gW;rw [if_neg (by rw [h];decide),if_pos h1]
theorem tZ{m:Int}{fs:List aM}(h:jp m (ak fs ji)=true)(h1:(bC m fs).2.2=0)(h2:aO (ar (ak fs lJ))=none):gW m fs=(nw,400):=by
 unfold gW;rw [if_neg (by rw [h];decide),if_neg (by rw [h1];decide),if_pos h2]
def Dv(m:Int)(fs:List aM)(x:Bool):qN:=⟨(bC m fs).1,(bC m fs).2.1,nR m (aO (ar (ak fs lJ))),x⟩
theorem rx{m:Int}{fs:List aM}(h:jp m (ak fs ji)=true)(h1:(bC m fs).2.2=0)(h2:aO (ar (ak fs lJ))≠none):gW m fs=
 if m=1∧0 < (ak fs lH).length then (if dp (ee fs lH) ni=false then (nw,417) else (Dv m fs (decide ((bC m fs).1=2)||decide (0 < (bC m fs).2.1)),0)) else (Dv m fs false,0):=by
 unfold gW;rw [if_neg (by rw [h];decide),if_neg (by rw [h1];decide),if_neg h2];rfl
theorem pr{m:Int}{fs:List aM}(h:0 < (ak fs gS).length):bC m fs=(2,0,qQ m (ak fs eH) (ak fs gS)):=by unfold bC;rw [if_pos h]
theorem oS{m:Int}{fs:List aM}(h:¬0 < (ak fs gS).length)(h1:0 < (ak fs eH).length):bC m fs=(1,(sW (ak fs eH)).1,(sW (ak fs eH)).2):=by unfold bC;rw [if_neg h,if_pos h1]
theorem sr{m:Int}{fs:List aM}(h:¬0 < (ak fs gS).length)(h1:¬0 < (ak fs eH).length):bC m fs=(0,0,0):=by unfold bC;rw [if_neg h,if_neg h1]
section
variable {tt:TypeId} {tl:List Value}
theorem uR{l:List aM}{name:ByteArray}(h:∀ x∈l,x.2.size≤30000)(hl:l.length≤24):(ee l name).length≤900000:=by
 have hv:∀ x∈ak l name,x.size≤30000:=by
  intro x hx;unfold ak at hx;obtain⟨y,hy,rfl⟩:=List.mem_map.mp hx;exact h y (List.mem_filter.1 hy).1
 have hn:=iE l name;have hk:∀ xs:List ByteArray,(∀ x∈xs,x.size≤30000)→Lib.lens (xs.map (·.data.toList))≤30000 * xs.length:=by
  intro xs
  induction xs with
  |nil=>intro _;simp [Lib.lens]
  |cons x xs ih=>
   intro h;have h1:=ih (fun y hy=>h y (List.mem_cons_of_mem _ hy));have h2:=h x (List.mem_cons_self ..);have h3:x.data.toList.length=x.size:=by simp
   simp only [Lib.lens,List.map_cons,List.sum_cons,List.length_cons] at h1 ⊢;omega
 unfold ee
 cases hc:ak l name with
 |nil=>simp [Lib.join_nil]
 |cons x xs=>
  rw [hc] at hv hn;rw [List.map_cons,Lib.join_length];have:=hk (x::xs) hv;simp only [List.map_cons,List.length_cons,List.length_map] at this hn ⊢;have h2:jg.length=2:=rfl;rw [h2];omega
theorem vg{l:List aM}(h:fT l)(nm:ByteArray):(ee l nm).length≤900000:=
 uR (fun x hx=>by have:=qh hx;have:=h.size;omega) h.len
end
end Go.Proofs.YtadcjgopaadfjaaGreatDoor
