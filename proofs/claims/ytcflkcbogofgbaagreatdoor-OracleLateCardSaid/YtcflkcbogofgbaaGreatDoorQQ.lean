import Derived.Test.YtcflkcbogofgbaaGreatDoorQP
import Derived.Test.YtcflkcbogofgbaaGreatDoorQL
import Derived.Test.YtcflkcbogofgbaaGreatDoorQC
import Derived.Deep.RegionLaw
set_option maxHeartbeats 8000000
set_option maxRecDepth 100000
namespace Go.Proofs.YtcflkcbogofgbaaGreatDoor
open Go.RowKit Go.Proofs
def fV:ByteArray:=⟨#[72,111,115,116]⟩
def cQ:ByteArray:=⟨#[67,111,110,116,101,110,116,45,76,101,110,103,116,104]⟩
def fq:ByteArray:=⟨#[84,114,97,110,115,102,101,114,45,69,110,99,111,100,105,110,103]⟩
def ji:ByteArray:=⟨#[67,111,110,110,101,99,116,105,111,110]⟩
def jo:ByteArray:=⟨#[69,120,112,101,99,116]⟩
def aS:af:=[99,104,117,110,107,101,100]
def xG:af:=[99,108,111,115,101]
def Cs:af:=[107,101,101,112,45,97,108,105,118,101]
def lf:af:=[49,48,48,45,99,111,110,116,105,110,117,101]
structure rn where
 kind:Int
 len:Int
 close:Bool
 expect:Bool
def nZ:rn:=⟨0,0,false,false⟩
def gv(minor:Int)(l:List ByteArray):Bool:=match l with
 |[]=> !(minor==1)
 |[x]=>x.size==0||bR (ab x)
 |_=>false
def gD(l:List af):Int:=if l.getLast?=some aS then (if l.length=1 then 0 else if l.dropLast.any (·==aS)=true then 400 else 501) else 400
def iU(minor:Int)(cl te:List ByteArray):Int:=if minor=0∨0 < cl.length then 400 else match az (aj te) with
 |none=>400
 |some l=>gD l
def jb(l:List af):Int × Int:=match l with
 |[]=>(0,400)
 |t::r=>if (t::r).all (fun x=>(eG x).2&&(eG x).1==(eG t).1)=true then (if 2048 < (eG t).1 then (0,413) else ((eG t).1,0)) else (0,400)
def ke(cl:List ByteArray):Int × Int:=match az (aj cl) with
 |none=>(0,400)
 |some l=>jb l
def bw(minor:Int)(fs:List aJ):Int × Int × Int:=
 if 0 < (ag fs fq).length then (2,0,iU minor (ag fs cQ) (ag fs fq)) else
 if 0 < (ag fs cQ).length then (1,(ke (ag fs cQ)).1,(ke (ag fs cQ)).2) else (0,0,0)
def ir(minor:Int)(T:Option (List af)):Bool:=ru T xG||((minor==0)&& !ru T Cs)
def eP(minor:Int)(fs:List aJ):rn × Int:=
 if gv minor (ag fs fV)=false then (nZ,400) else
 if (bw minor fs).2.2≠0 then (nZ,(bw minor fs).2.2) else
 if az (aj (ag fs ji))=none then (nZ,400) else
 if minor=1∧0 < (ag fs jo).length then
  (if bA (dN fs jo) lf=false then (nZ,417) else (⟨(bw minor fs).1,(bw minor fs).2.1,ir minor (az (aj (ag fs ji))),decide ((bw minor fs).1=2)||decide (0 < (bw minor fs).2.1)⟩,0))
 else (⟨(bw minor fs).1,(bw minor fs).2.1,ir minor (az (aj (ag fs ji))),false⟩,0)
structure Hd where
 fields:List aJ
 method:af
 target:Tg
 minor:Int
 how:rn
 started:Bool
 whole:Bool
 status:Int
 bytes:Nat
 empty:Nat
def Hd.new:Hd:=⟨[],[],⟨0,[],[],[]⟩,0,nZ,false,false,0,0,0⟩
def iQ:af→af→List af
 |_,[]=>[]
 |cur,c::l=>if c=32 then cur::iQ [] l else iQ (cur++[c]) l
def iR(s:af):List af:=iQ [] (s++[32])
def jJ(c:UInt8):Bool:=decide (48≤c.toNat)&&decide (c.toNat≤57)
def dI(v:af):Int × UInt8:=match v with
 |[72,84,84,80,47,a,46,b]=>if jJ a=true∧jJ b=true then (if a=49 then (0,b) else (505,0)) else (400,0)
 |_=>(400,0)
def qM(h:Hd)(m:af)(t:Tg)(b:UInt8):Hd:= {h with started:=true,method:=m,target:=t,minor:=if b=48 then h.minor else 1}
def bz(h:Hd)(l:List af):Hd × Int:=match l with
 |[m,s,v]=>if bP m=false then (h,400) else if (dI v).1≠0 then (h,(dI v).1) else match cG m s with
  |(some t,_)=>(qM h m t (dI v).2,0)
  |(none,c)=>(h,if c=9 then 414 else 400)
 |_=>(h,400)
def gH(h:Hd)(s:af):Hd × Int:=if (aL s).1≠0 then (h,400) else
 ({h with fields:=(aY h.fields [(⟨(aL s).2.1.toArray⟩,⟨(aL s).2.2.toArray⟩)]).1},if (aY h.fields [(⟨(aL s).2.1.toArray⟩,⟨(aL s).2.2.toArray⟩)]).2.2≠0 then 431 else 0)
def Hd.more(h:Hd)(n:Nat):Hd:= {h with bytes:=h.bytes+n+2}
def Hd.long(h:Hd):Int:=if h.started=true then 431 else 414
def Hd.ends(h:Hd):Hd:= {h with how:=(eP h.minor h.fields).1,whole:=decide ((eP h.minor h.fields).2=0)}
def aW(h:Hd)(s:af):Hd × Int:=
 if 256 < s.length then (h,h.long) else
 if 1024 < h.bytes+s.length+2 then (h.more s.length,h.long) else
 if h.started=false then (if s=[] then ({h.more 0 with empty:=h.empty+1},if 4 < h.empty+1 then 400 else 0) else bz (h.more s.length) (iR s)) else
 if s=[] then ((h.more 0).ends,(eP h.minor h.fields).2) else gH (h.more s.length) s
def bf(h:Hd)(s:af):Hd:=if h.whole=false∧h.status=0 then {(aW h s).1 with status:=(aW h s).2} else h
inductive df where
 |size (line:af)
 |data (left:Nat)
 |tail (k:Nat)
 |trail (line:af) (ends:Nat) (ts:List aJ)
inductive ej where
 |at (body:af) (p:df)
 |whole (body:af)
 |bad (status:Int)
def eJ(l:af):Option af:=if l.getLast?=some 13 then some l.dropLast else none
def bO(l:af)(c:UInt8):Nat:=if c=13 then l.length else l.length+1
def bt(c:UInt8):Bool:=decide (0≤aG c)
def bX(s:af):af:=s.takeWhile bt
def cP(body s:af):ej:=
 if (bX s).length < 1∨6 < (bX s).length then .bad 400 else
 if br (s.drop (bX s).length)=none then .bad 400 else
 if 2048 < (body.length:Int)+(eO (bX s)).1 then .bad 413 else
 if (eO (bX s)).1=0 then .at body (.trail [] 0 []) else .at body (.data (eO (bX s)).1.toNat)
def bN(body s:af)(ends:Nat)(ts:List aJ):ej:=
 if s=[] then .whole body else
 if (aL s).1≠0 then .bad 400 else
 if ts.length=8∨512 < ends+s.length+2 then .bad 431 else .at body (.trail [] (ends+s.length+2) (ts++[(⟨(aL s).2.1.toArray⟩,⟨(aL s).2.2.toArray⟩)]))
def db(body:af)(p:df)(c:UInt8):ej:=match p with
 | .data n=>.at (body++[c]) (if n=1 then .tail 0 else .data (n-1))
 | .tail k=>if c=(if k=0 then 13 else 10) then .at body (if k=0 then .tail 1 else .size []) else .bad 400
 | .size l=>if c=10 then (match eJ l with
  |none=>.bad 400
  |some s=>cP body s) else if 64 < bO l c then .bad 400 else .at body (.size (l++[c]))
 | .trail l e ts=>if c=10 then (match eJ l with
  |none=>.bad 400
  |some s=>bN body s e ts) else if 256 < bO l c∨512 < e+bO l c then .bad 431 else .at body (.trail (l++[c]) e ts)
inductive cu where
 |idle
 |head (h:Hd) (l:af)
 |len (h:Hd) (b:af)
 |chunk (h:Hd) (b:af) (p:df)
 |whole (h:Hd) (b:af)
 |bad (status:Int)
def cz(h:Hd):cu:=
 if h.how.kind=0∨(h.how.kind=1∧h.how.len=0) then .whole h [] else
 if h.how.kind=1 then .len h [] else .chunk h [] (.size [])
def dK(h:Hd)(l:af)(c:UInt8):cu:=
 if c=10 then (match eJ l with
  |none=>.bad 400
  |some s=>if (bf h s).status≠0 then .bad (bf h s).status else if (bf h s).whole=true then cz (bf h s) else .head (bf h s) []) else
 if 256 < bO l c then .bad h.long else .head h (l++[c])
def dj(h:Hd):ej→cu
 | .at b p=>.chunk h b p
 | .whole b=>.whole h b
 | .bad s=>.bad s
def fi(s:cu)(c:UInt8):cu:=match s with
 | .idle=>dK Hd.new [] c
 | .head h l=>dK h l c
 | .len h b=>if ((b.length+1:Nat):Int)=h.how.len then .whole h (b++[c]) else .len h (b++[c])
 | .chunk h b p=>dj h (db b p c)
 |s=>s
def cu.done:cu→Bool
 | .whole _ _=>true
 | .bad _=>true
 |_=>false
def cu.phase:cu→Int
 | .idle=>0
 | .head _ _=>1
 | .len _ _=>2
 | .chunk _ _ _=>2
 | .whole _ _=>3
 | .bad _=>4
def cu.status:cu→Int
 | .bad s=>s
 |_=>0
def au:cu→af→cu × Nat
 |s,[]=>(s,0)
 |s,c::r=>if s.done=true then (s,0) else ((au (fi s c) r).1,(au (fi s c) r).2+1)
structure FT where
 method:af
 target:Tg
 minor:Int
 fields:List aJ
 body:af
 close:Bool
 expect:Bool
def Ds(h:Hd)(b:af):FT:=⟨h.method,h.target,h.minor,h.fields,b,h.how.close,h.how.expect⟩
theorem rX{l s:af}(h:eJ l=some s):l=s++[13]:=by
 unfold eJ at h;split at h
 ·rename_i g
  injection h with h;rw [←h];obtain⟨ne,e⟩:=List.getLast?_eq_some_iff.1 g;rw [e];simp
 ·cases h
theorem vj{l:af}{c:UInt8}{n:Nat}(h:¬n < bO l c):(l++[c]).length≤n+1:=by
 unfold bO at h;rw [List.length_append,List.length_singleton];split at h<;>omega
theorem ce{s:cu}(h:s.done=true)(t:af):au s t=(s,0):=by
 cases t with
 |nil=>rfl
 |cons c r=>rw [au,if_pos h]
theorem bJ{s:cu}(h:s.done=false)(c:UInt8)(r:af):au s (c::r)=((au (fi s c) r).1,(au (fi s c) r).2+1):=by
 rw [au,if_neg (by rw [h];decide)]
theorem kR:∀ (t:af) (s:cu),(au s t).2≤t.length
 |[],s=>Nat.le_refl _
 |c::r,s=>by
  cases h:s.done with
  |true=>rw [ce h];exact Nat.zero_le _
  |false=>
   rw [bJ h];have:=kR r (fi s c);simp only [List.length_cons];omega
def bi(tt:TypeId)(tl:List Value)(w:World)(B g:Nat)(v:Value)(l:List aJ):Prop:=
 Bk w g tt (v::tl).toArray∧w.ownsRow B 129 2 v l.length (ao l)∧v.ownBlock≠some g
section
variable {tt:TypeId} {tl:List Value}
theorem bi.sm{S:Nat→Prop}{w w':World}{B g:Nat}{v:Value}{l:List aJ}(h:bi tt tl w B g v l)(hs:Sm S w w')(hg:¬S g)(hv:∀ b,v.ownBlock=some b→¬S b):bi tt tl w' B g v l:=
 ⟨h.1.sm hs hg,aa h.2.1 hs hv,h.2.2⟩
theorem bi.no{w w':World}{B g:Nat}{v:Value}{l:List aJ}(h:bi tt tl w B g v l)(hs:Sm No w w'):bi tt tl w' B g v l:=h.sm hs (fun h=>h) (fun _ _ h=>h)
theorem bi.len{w:World}{B g:Nat}{v:Value}{l:List aJ}(h:bi tt tl w B g v l):∃ A c,v=.slice A l.length c:=by
 rcases aR h.2.1 with ⟨rfl,h0,_⟩|⟨b,cap,rfl,_⟩
 ·exact⟨none,0,by rw [h0]⟩
 ·exact⟨_,_,rfl⟩
theorem bi.row{w:World}{B g:Nat}{v:Value}{l:List aJ}(h:bi tt tl w B g v l):∃ A c,v=.slice A l.length c∧dM w A l:=by
 rcases aR h.2.1 with ⟨rfl,h0,_⟩|⟨b,cap,rfl,_,_,hb,_,hc,_⟩
 ·exact⟨none,0,by rw [h0],fun k hk=>absurd hk (by omega)⟩
 ·refine⟨_,_,rfl,fun k hk=> ?_⟩;obtain⟨h1,h2⟩:=fg l k hk;exact⟨b,0,rfl,hb,by simpa using hc _ _ h1,by simpa using hc _ _ h2⟩
def yR(tt:TypeId)(tl:List Value)(w:World)(B g:Nat)(v0:Value)(cur add:List aJ)(e:Ending)(w':World):Prop:=
 ∃ v,e=.returned (.tuple #[.int .i64 ((aY cur add).2.1:Int),.int .i64 (aY cur add).2.2])∧bi tt tl w' B g v (aY cur add).1∧(aY cur add).1.length≤24∧Sm (dY g v0) w w'∧cI w v0 v
def CV(tt:TypeId)(tl:List Value)(w:World)(B g:Nat)(v0:Value)(cur add:List aJ)(i:Value)(wr:World):Prop:=
 ∃ (k:Nat) (v:Value) (l:List aJ),k≤add.length∧i=.int .i64 k∧aY cur add=((aY l (add.drop k)).1,(aY l (add.drop k)).2.1+k,(aY l (add.drop k)).2.2)∧l.length≤24∧
   bi tt tl wr B g v l∧Sm (dY g v0) w wr∧cI w v0 v
theorem zT (w:World) (B g:Nat) (v0:Value) (cur add:List aJ) (A:Option Addr) (c:Nat) (h0:bi tt tl w B g v0 cur) (hcur:cur.length≤24) (hA:dM w A add)
 (hdis:0 < add.length→∀ a,A=some a→¬dY g v0 a.block) (hshort:gK add) (hadd:add.length≤1000000) (hB:B≤w.heap.size):
 Calls Tryz.prog 89 #[.pointer (some ⟨g,0,none⟩),.slice A add.length c] w (yR tt tl w B g v0 cur add):=by
 have H0:=ns (BT h0 (BT hA hdis));have HS:=ns hshort;clear h0 hA hdis hshort;go_in;go_wp2_with fail
 go_loopw [6] (fun i wr=>CV tt tl w B g v0 cur add i wr) (fun i _=>add.length-(intOf i).toNat)
 case atStart=>exact⟨0,v0,cur,Nat.zero_le _,rfl,by simp,hcur,H0.out.1,Sm.refl _ _,Or.inl rfl⟩
 case round=>
  obtain⟨k,v,l,hk,rfl,hL,hl,hF,hs,hfo⟩:=hrel;have HL:=ns hL;have HF:=ns (BT hF (BT hs hfo));clear hL hF hs hfo;by_cases hlt:k < add.length
  ·obtain⟨bb,off,rfl,hbb,r0,r1⟩:=(H0.out.2.1.sm HF.out.2.1 (H0.out.2.2 (by omega))) k hlt;obtain⟨s0,s1⟩:=HS.out _ (List.getElem_mem hlt);obtain⟨nm,hnm⟩:∃ x,add[k].1=x:=⟨_,rfl⟩;obtain⟨vl,hvl⟩:∃ x,add[k].2=x:=⟨_,rfl⟩;rw [hnm] at r0 s0;rw [hvl] at r1 s1;obtain⟨f,hf⟩:=Iu (vf nm.data.toList vl.data.toList);have hx:ny add[k]=f:=by unfold ny;rw [hnm,hvl];exact hf
   have HX:=ns (BT hx (BT hnm hvl));have HFF:=ns hf;clear hx hnm hvl hf;go_wp2_with fail;refine(yC HFF s0 s1 _).mono ?_;rintro e w1 ⟨rfl,hs1⟩;have hsm:=hs1;have r2:=hs1.cell hbb r0;have r3:=hs1.cell hbb r1;have hbb1:=Nat.lt_of_lt_of_le hbb hs1.size;have hF1:=HF.out.1.no hsm;have hS1:=HF.out.2.1.trans hsm (fun _ _ h=>h.elim);have hfo:=HF.out.2.2
   cases f
   ·have hend:aY cur add=(l,k,8):=by rw [HL.out,sW hlt HX.out.1];simp
    have HE:=ns hend;clear hend;go_wp2_with fail;exact bodyPost_ret (v:=.tuple #[.int .i64 k,.int .i64 8]) (by simp [results,Tryz.results89,go_sem]) rfl
     ⟨v,by rw [HE.out],by rw [HE.out];exact hF1,by rw [HE.out];exact hl,hS1,hfo⟩
   ·obtain⟨A',c',rfl⟩:=hF1.len;have cg:=hF1.1.at 0 (v:=.slice A' l.length c') rfl;have zg:=hF1.1.fz 0;by_cases hfull:24≤l.length
    ·have hend:aY cur add=(l,k,3):=by rw [HL.out,pO hlt HX.out.1 hfull];simp
     have HE:=ns hend;clear hend;go_wp2_with fail;exact bodyPost_ret (v:=.tuple #[.int .i64 k,.int .i64 3]) (by simp [results,Tryz.results89,go_sem]) rfl
      ⟨_,by rw [HE.out],by rw [HE.out];exact hF1,by rw [HE.out];exact hl,hS1,hfo⟩
    ·have hstep:=ma hlt HX.out.1 hfull;have HST:=ns hstep;have hfull2:l.length < 24:=by omega
     clear hstep hfull;have HR:=ns (BT hF1 (BT hS1 hfo));have HOwn:=ns ((hF1.2.1.alloc (.cells #[.string nm,.string vl] 129)).drew);have HBlk:=ns (Bk.new w1 129 #[.string nm,.string vl]).drew;have HKb:=ns ((hF1.1.alloc (.cells #[.string nm,.string vl] 129)).drew);have HNe:=ns (show ¬(Value.slice A' l.length c').ownBlock=some g from hF1.2.2);have HBB:=ns (show B≤((w1.alloc (.cells #[.string nm,.string vl] 129)).drew).heap.size by
      have:=hS1.size;simp;omega)
     have hgl:=hF1.1.lt;clear hF1 hS1 hfo hsm;go_wp2_with fail
     go_region_law
      ((refine hU (by rfl) _ _ 60 129 (by rfl) Tryz.underlying60 _ 2 32 eS rfl (by decide) (by decide) B l.length _ (ao l) (by rfl) HOwn.out w1.heap.size #[.string nm,.string vl] (by rfl) HBlk.out rfl (by simp [Value.oneCell']) (by omega) HBB.out ?_;intro r cap w2 hown2 hs2 hr2;have hb2:=HKb.out.sm hs2 HNe.out;have cg2:=hb2.at 0 (v:=.slice A' l.length c') rfl;have zg2:=hb2.fz 0))
     all_goals
      have hne:r≠g:=by
       rcases hr2 with e|e
       ·rintro rfl;exact HNe.out e
       ·simp at e;omega
      have hs3:=(Sm.refl (fun x=>x=g) w2).set1 0 (.slice (some ⟨r,0,none⟩) (l.length+1) cap);have hb3:Bk (w2.setCell ⟨g,0,none⟩ (.slice (some ⟨r,0,none⟩) (l.length+1) cap)) g tt (.slice (some ⟨r,0,none⟩) (l.length+1) cap::tl).toArray:=(hb2.set 0 _).eq (by simp);have ho3:=aa hown2 hs3 (fun b hb=>by injection hb with hb;subst hb;exact hne);have hF3:bi tt tl (w2.setCell ⟨g,0,none⟩ (.slice (some ⟨r,0,none⟩) (l.length+1) cap)) B g (.slice (some ⟨r,0,none⟩) (l.length+1) cap) (l++[add[k]]):=
       ⟨hb3,by rw [fe,HX.out.2.1,HX.out.2.2,List.length_append];exact ho3,by simp [Value.ownBlock];exact hne⟩
      have hS2:=((HR.out.2.1.alloc (.cells #[.string nm,.string vl] 129)).drew).trans hs2 (fun b hb e=>by
       rcases HR.out.2.2 with f|⟨q,f,hq⟩
       ·exact Or.inr (f ▸ e)
       ·rw [f] at e;injection e with e;omega)
      have hS3:=hS2.trans hs3 (fun b _ e=>Or.inl e);have hf3:cI w v0 (.slice (some ⟨r,0,none⟩) (l.length+1) cap):=by
       rcases hr2 with e|e
       ·rcases HR.out.2.2 with f|⟨q,f,hq⟩
        ·exact Or.inl (by rw [←f,e];rfl)
        ·rw [e] at f;injection f with f;exact Or.inr ⟨r,rfl,by omega⟩
       ·have:=HR.out.2.1.size;simp at e;exact Or.inr ⟨r,rfl,by omega⟩
      go_wp2_with fail;exact⟨⟨k+1,_,l++[add[k]],by omega,by go_num,by rw [HL.out,HST.out];simp;omega,by simp;omega,hF3,hS3,hf3⟩,by simp [intOf];omega⟩
  ·have hend:aY cur add=(l,add.length,0):=by
    have e:k=add.length:=by omega
    rw [HL.out,e,List.drop_length];simp [aY]
   have HE:=ns hend;clear hend;go_wp2_with fail;exact bodyPost_ret (v:=.tuple #[.int .i64 add.length,.int .i64 0]) (by simp [results,Tryz.results89,go_sem]) rfl
    ⟨v,by rw [HE.out],by rw [HE.out];exact HF.out.1,by rw [HE.out];exact hl,HF.out.2.1,HF.out.2.2⟩
theorem bY(w:World)(B g:Nat)(v:Value)(l:List aJ)(name:ByteArray)(hF:bi tt tl w B g v l)(hl:l.length≤24)(hshort:gK l)(hn:name.size≤1000000):
 Calls Tryz.prog 137 #[.pointer (some ⟨g,0,none⟩),.string name] w (bU w l name):=by
 obtain⟨A,c,rfl,hR⟩:=hF.row;have hgb:=hF.1.lt;have cg:=hF.1.at 0 (v:=.slice A l.length c) rfl;have HR:=ns hR;have HS:=ns hshort;clear hR hshort hF;go_in;go_wp2_with fail
 go_loopw [5,6] (fun acc i wr=>Cc w l name acc i wr) (fun _ i _=>l.length-(intOf i).toNat)
 case atStart=>exact⟨0,Nat.zero_le _,rfl,World.ownsRow_nil _ _ _ 1,Sm.refl _ _⟩
 case round=>
  obtain⟨k,hk,rfl,hO,hs⟩:=hrel;have cg':=hs.cell hgb cg;have HO:=ns (BT hO hs);clear hO hs;by_cases hlt:k < l.length
  ·obtain⟨bb,off,hA,hbb,r0,r1⟩:=(HR.out.sm HO.out.2 (fun _ _ h=>h)) k hlt;subst hA;obtain⟨s0,s1⟩:=HS.out _ (List.getElem_mem hlt);have hsn:=lr l name k hlt;obtain⟨nm,hnm⟩:∃ x,l[k].1=x:=⟨_,rfl⟩;obtain⟨vl,hvl⟩:∃ x,l[k].2=x:=⟨_,rfl⟩;have k1:(0:Int)≤(k:Int):=by omega
   have k2:(k:Int) < (l.length:Int):=by omega
   rw [hnm] at r0 s0 hsn;rw [hvl] at r1 hsn;obtain⟨f,hf⟩:=Iu (bA nm.data.toList name.data.toList);rw [hf] at hsn;have HF:=ns hf;have HN:=ns hsn;clear hnm hvl hf hsn;go_wp2_with fail;refine(fJ HF s0 hn _).mono ?_;rintro e w1 ⟨rfl,hs1⟩;have hsm:=hs1;have r2:=hs1.cell hbb r0;have r3:=hs1.cell hbb r1;have cg2:=HO.out.2.tt hs1 |>.cell hgb cg;have hS1:=HO.out.2.tt hsm;have hO1:mK w1 w.heap.size u5 (ag (l.take k) name):=aa HO.out.1 hsm (fun _ _ h=>h)
   cases f
   ·have HX:=ns (BT hS1 hO1);clear hsm hS1 hO1 hs1;go_wp2_with fail;exact⟨⟨k+1,by omega,by go_num,by rw [HN.out];exact HX.out.2,HX.out.1⟩,by simp [intOf];omega⟩
   ·have hkl:(ag (l.take k) name).length≤1000000:=by
     have h1:=List.length_filter_le (fun x:aJ=>bA x.1.data.toList name.data.toList) (l.take k);have h2:=List.length_take_le k l;unfold ag;rw [List.length_map];omega
    have hbb1:w.heap.size≤w1.heap.size:=hS1.size;have HX:=ns (BT hS1 hO1);clear hsm hS1 hO1 hs1;go_wp2_with (refine aq rfl _ _ 125 9 rfl Tryz.underlying125 _ 1 16 dR rfl (by decide) (by decide) w.heap.size _ u5 _ rfl (World.ownsRow.alloc HX.out.2 _) w1.heap.size #[.string vl] rfl (Bk.new w1 _ _) rfl (by simp [Value.oneCell']) hkl (by simp;omega) ?_;intro v' w2 hown2 hs2 hv2);have hO3:mK w2 w.heap.size v' (ag (l.take (k+1)) name):=by
     rw [HN.out];unfold mK;simpa using hown2
    have hS3:Sm No w w2:=(HX.out.1.alloc (.cells #[.string vl] 9)).trans hs2 (fun b hb e=>by
     have:=(World.ownsRow.lt HX.out.2 b e).1;omega)
    exact⟨⟨k+1,by omega,by go_num,hO3,hS3⟩,by simp [intOf];omega⟩
  ·have ha:l.take k=l:=List.take_of_length_le (by omega);have HA:=ns ha;clear ha;go_wp2_with fail;go_ret;exact⟨_,rfl,by have:=HO.out.1;rw [HA.out] at this;exact this,HO.out.2⟩
theorem AZ(w:World)(B g:Nat)(v:Value)(l:List aJ)(name:ByteArray)(hF:bi tt tl w B g v l)(hl:l.length≤24)(hshort:gK l)(hn:name.size≤1000000):
 Calls Tryz.prog 90 #[.pointer (some ⟨g,0,none⟩),.string name] w fun e w'=>∃ t:ByteArray,t.data.toList=dN l name∧e=.returned (.string t)∧Sm No w w':=by
 have HV:=ns (bY w B g v l name hF hl hshort hn);have hvl:=gu l name;have hvs:=jM (name:=name) hshort;have HS:=ns hvs;obtain⟨xs,hxs⟩:=Iu (ag l name);unfold bU at HV;rw [hxs] at HV hvl HS;have HG:=ns (show dN l name=Lib.join (xs.map (·.data.toList)) iV by unfold dN;rw [hxs]);clear hF hshort hvs hxs;go_in;go_wp2_with fail;refine HV.out.mono ?_;rintro e w1 ⟨vs,rfl,hO,hs⟩;obtain⟨A,c,rfl,hR⟩:=hO.row;have HR:=ns (BT hR hs);clear hO hs hR;go_wp2_with fail
 go_loop [6,7] (fun s i=>wW xs s i) (fun _ i=>xs.length-(intOf i).toNat)
 case atStart=>exact⟨0,⟨#[]⟩,Nat.zero_le _,rfl,rfl,rfl,Nat.zero_le _⟩
 case round=>
  obtain⟨k,t,hk,rfl,rfl,htd,hts⟩:=hrel;have HT:=ns htd;clear htd;by_cases hlt:k < xs.length
  ·obtain⟨bb,off,hAe,hbb,r0⟩:=HR.out.1 k hlt;subst hAe;have x0:=HS.out _ (List.getElem_mem hlt);have hj:=zt (ys:=xs.map (·.data.toList)) (k:=k) (y:=xs[k].data.toList) iV (by simp [hlt]);rw [←List.map_take,←List.map_take,←HT.out] at hj;obtain⟨x,hx⟩:=Iu (xs[k]);rw [hx] at r0 x0 hj;have HJ:=ns hj;have k1:(0:Int)≤(k:Int):=by omega
   have k2:(k:Int) < (xs.length:Int):=by omega
   have z1:t.size+2≤40000000:=by omega
   have z2:t.size+2+x.size≤40000000:=by omega
   have z3:t.size+x.size≤40000000:=by omega
   clear hx hj;by_cases hk0:k=0
   ·subst hk0;rw [Nat.add_zero] at r0;have ht0:t.data.toList=[]:=HT.out;have hR2:wW xs (.string (t++x)) (.int .i64 ((0+1:Nat):Int)):=by
     refine⟨0+1,_,hlt,rfl,rfl,?_,?_⟩
     ·rw [HJ.out,if_pos rfl,is,ht0];rfl
     ·rw [ByteArray.size_append];omega
    have HR2:=ns hR2;clear hR2 ht0;go_wp2_with fail;exact⟨HR2.out,by simp [intOf];omega⟩
   ·have hR2:wW xs (.string (t++(⟨#[44,32]⟩:ByteArray)++x)) (.int .i64 ((k+1:Nat):Int)):=by
     refine⟨k+1,_,hlt,rfl,rfl,?_,?_⟩
     ·rw [HJ.out,if_neg hk0,is,is];rfl
     ·rw [ByteArray.size_append,ByteArray.size_append];have:(⟨#[44,32]⟩:ByteArray).size=2:=rfl;omega
    have HR2:=ns hR2;have k3:(0:Int) < (k:Int):=by omega
    clear hR2;go_wp2_with fail;exact⟨HR2.out,by simp [intOf];omega⟩
  ·have ha:xs.take k=xs:=List.take_of_length_le (by omega);have h1:=HT.out;rw [ha,←HG.out] at h1;have H1:=ns h1;clear h1 ha;go_wp2_with fail;go_ret;exact⟨t,H1.out,rfl,HR.out.2⟩
end
def pD(l:List aJ):Nat:=(l.map fun x=>x.1.size+x.2.size).sum
structure eo (l:List aJ):Prop where
 len:l.length≤24
 size:pD l≤1100
theorem rc{l:List aJ}{x:aJ}(h:x∈l):x.1.size+x.2.size≤pD l:=by
 induction l with
 |nil=>cases h
 |cons y l ih=>
  unfold pD at ih ⊢;rw [List.map_cons,List.sum_cons];rcases List.mem_cons.1 h with rfl|h
  ·omega
  ·have:=ih h;omega
theorem DD(l:List aJ)(x:aJ):pD (l++[x])=pD l+(x.1.size+x.2.size):=by unfold pD;simp
theorem eo.short{l:List aJ}(h:eo l):gK l:=fun x hx=>by have:=rc hx;have:=h.size;omega
theorem tG(l:List aJ)(nm:ByteArray):iM (ag l nm)≤pD l+l.length:=by
 induction l with
 |nil=>exact Nat.zero_le _
 |cons y l ih=>
  have e:pD (y::l)=y.1.size+y.2.size+pD l:=by unfold pD;rw [List.map_cons,List.sum_cons]
  rw [e,List.length_cons];unfold ag at ih ⊢;rw [List.filter_cons];split
  ·have e2:∀ L:List ByteArray,iM (y.2::L)=1+y.2.size+iM L:=fun L=>by unfold iM;rw [List.map_cons,List.sum_cons]
   rw [List.map_cons,e2];omega
  ·omega
theorem eo.light{l:List aJ}(h:eo l)(nm:ByteArray):eT (ag l nm):=Es (by have:=tG l nm;have:=h.len;have:=h.size;omega)
section
variable {tt:TypeId} {tl:List Value}
theorem wI(w:World)(B g:Nat)(v:Value)(l:List aJ)(minor:Int)(hm:minor=0∨minor=1)(hF:bi tt tl w B g v l)(hL:eo l):
 Calls Tryz.prog 208 #[.int .i64 minor,.pointer (some ⟨g,0,none⟩)] w fun e w'=>e=.returned (.bool (gv minor (ag l fV)))∧Sm No w w':=by
 have HV:=bY w B g v l fV hF hL.len hL.short (by decide);have hsz:=(hL.light fV).size;unfold bU at HV;obtain⟨xs,hxs⟩:=Iu (ag l fV);rw [hxs] at HV hsz ⊢;have HV:=ns HV;clear hF hL hxs
 match xs,HV,hsz with
 |[],HV,hsz=>
  rcases hm with rfl|rfl
  all_goals
   go_in;go_wp2_with fail;refine HV.out.mono ?_;rintro e w1 ⟨vs,rfl,hO,hs⟩;obtain⟨A,c,rfl,hR⟩:=hO.row;have HS:=ns hs;clear hs hO hR;go_wp2_with fail;go_ret;exact⟨rfl,HS.out⟩
 |[x],HV,hsz=>
  have hx:=hsz x (by simp);obtain⟨f,hf⟩:=Iu (bR (ab x));have e0:gv minor [x]=(x.size==0||f):=by rw [←hf];rfl
  rw [e0];have HH:=ns hf;clear hsz hf e0;by_cases hz:x.size=0
  ·have z1:x.toList=[]:=by rw [ByteArray.toList_eq];exact List.eq_nil_of_length_eq_zero (by simpa using hz)
   have e1:(x.size==0||f)=true:=by simp [hz]
   rw [e1];clear hz e1;go_in;go_wp2_with fail;refine HV.out.mono ?_;rintro e w1 ⟨vs,rfl,hO,hs⟩;obtain⟨A,c,rfl,hR⟩:=hO.row;obtain⟨bb,off,rfl,hbb,r0⟩:=hR 0 (by simp);rw [Nat.add_zero] at r0;rw [List.getElem_cons_zero] at r0;have HS:=ns hs;clear hs hO hR;go_wp2_with fail;go_ret;exact⟨rfl,HS.out⟩
  ·have z1:¬x.toList=[]:=by rw [ByteArray.toList_eq];exact fun e=>hz (by have:=congrArg List.length e;simpa using this)
   have z2:x.toList.isEmpty=false:=by
    cases h:x.toList with
    |nil=>exact absurd h z1
    |cons=>rfl
   have e1:(x.size==0||f)=f:=by simp [hz]
   rw [e1];clear hz e1;go_in;go_wp2_with fail;refine HV.out.mono ?_;rintro e w1 ⟨vs,rfl,hO,hs⟩;obtain⟨A,c,rfl,hR⟩:=hO.row;obtain⟨bb,off,rfl,hbb,r0⟩:=hR 0 (by simp);rw [Nat.add_zero] at r0;rw [List.getElem_cons_zero] at r0;have HS:=ns hs;clear hs hO hR;go_wp2_with fail;refine(gR HH (by omega) _).mono ?_;rintro e w2 ⟨rfl,rfl⟩;go_wp2_with fail;go_ret;exact⟨rfl,HS.out⟩
 |x::y::r,HV,hsz=>
  have e0:gv minor (x::y::r)=false:=rfl;rw [e0];obtain⟨n,hn⟩:=Iu ((x::y::r).length);have hn2:1 < n:=by rw [←hn];simp
  have hn3:(1:Int) < (n:Int):=by omega
  have HN:=ns hn;clear hsz e0 hn;go_in;go_wp2_with fail;refine HV.out.mono ?_;rintro e w1 ⟨vs,rfl,hO,hs⟩;obtain⟨A,c,rfl,hR⟩:=hO.row;rw [HN.out];have HS:=ns hs;clear hs hO hR;go_wp2_with fail;go_ret;exact⟨rfl,HS.out⟩
theorem bo.row2{w:World}{B:Nat}{v:Value}{r:List (List UInt8)}(h:bo w B v r):∃ A c,v=.slice A r.length c∧ar w A (r.map aX):=by
 obtain⟨A,c,hv,hR,_⟩:=ak h;exact⟨A,c,hv,hR⟩
def GC(w:World)(r:List af)(i:Value)(wr:World):Prop:=∃ k:Nat,k+1≤r.length∧i=.int .i64 k∧Sm No w wr∧(r.take k).any (·==aS)=false
theorem yG{r:List af}{k:Nat}(h:k < r.length)(hn:(r.take k).any (·==aS)=false):(r.take (k+1)).any (·==aS)=(r[k]==aS):=by
 rw [List.take_succ_eq_append_getElem h,List.any_append,hn];simp
theorem Bh{r:List af}{k m:Nat}(h:k≤m)(hy:(r.take k).any (·==aS)=true):(r.take m).any (·==aS)=true:=by
 rw [List.any_eq_true] at hy ⊢;obtain⟨x,hx,e⟩:=hy;exact⟨x,(List.take_subset_take_left r h) hx,e⟩
theorem Dr{r:List af}(h:0 < r.length):r.getLast?=some (r[r.length-1]):=by
 rw [List.getLast?_eq_getElem?,List.getElem?_eq_getElem (by omega)]
theorem mX{l:List af}(h:¬l.getLast?=some aS):gD l=400:=by unfold gD;rw [if_neg h]
theorem vd{l:List af}(h:l.getLast?=some aS)(h1:l.length=1):gD l=0:=by unfold gD;rw [if_pos h,if_pos h1]
theorem uk{l:List af}(h:l.getLast?=some aS)(h1:¬l.length=1)(h2:l.dropLast.any (·==aS)=true):gD l=400:=by unfold gD;rw [if_pos h,if_neg h1,if_pos h2]
theorem oE{l:List af}(h:l.getLast?=some aS)(h1:¬l.length=1)(h2:l.dropLast.any (·==aS)=false):gD l=501:=by unfold gD;rw [if_pos h,if_neg h1,if_neg (by rw [h2];decide)]
theorem qu{m:Int}{cl te:List ByteArray}(h:m=0∨0 < cl.length):iU m cl te=400:=by unfold iU;rw [if_pos h]
theorem oG{m:Int}{cl te:List ByteArray}(h:¬(m=0∨0 < cl.length)):iU m cl te=match az (aj te) with
 |none=>400
 |some l=>gD l:=by unfold iU;(rw [if_neg h])<;>rfl
theorem uG(w:World)(B g:Nat)(v:Value)(l:List aJ)(minor:Int)(hm:minor=0∨minor=1)(hF:bi tt tl w B g v l)(hL:eo l):
 Calls Tryz.prog 209 #[.int .i64 minor,.pointer (some ⟨g,0,none⟩)] w fun e w'=>e=.returned (.int .i64 (iU minor (ag l cQ) (ag l fq)))∧Sm No w w':=by
 rcases hm with rfl|rfl
 ·rw [qu (Or.inl rfl)];clear hF hL;go_in;go_wp2_with fail;go_ret;exact⟨rfl,Sm.refl _ _⟩
 have HV:=bY w B g v l cQ hF hL.len hL.short (by decide);have HV2:=ns (fun (w1:World) (h:Sm No w w1)=>bY w1 B g v l fq (hF.no h) hL.len hL.short (by decide));have HLt:=ns (hL.light fq);unfold bU at HV HV2;obtain⟨xs,hxs⟩:=Iu (ag l cQ);obtain⟨ys,hys⟩:=Iu (ag l fq);rw [hxs] at HV ⊢;rw [hys] at HV2 HLt ⊢;obtain⟨n,hn⟩:=Iu xs.length;have HV:=ns (BT HV hn);obtain⟨m,hmm⟩:=Iu ys.length;have HM:=ns hmm;clear hF hL hxs hys hmm;by_cases hn0:0 < n
 ·rw [qu (Or.inr (by omega))];have i1:(0:Int) < (n:Int):=by omega
  clear hn;go_in;go_wp2_with fail;refine HV.out.1.mono ?_;rintro e w1 ⟨vs,rfl,hO,hs⟩;obtain⟨A,c,rfl,hR⟩:=hO.row;rw [HV.out.2];have HS:=ns hs;clear hs hO hR;go_wp2_with fail;go_ret;exact⟨rfl,HS.out⟩
 rw [oG (by omega)];have i1:¬(0:Int) < (n:Int):=by omega
 obtain⟨R,hR⟩:=Iu (iU 1 xs ys);rw [oG (by omega)] at hR;rw [hR];have HR:=ns hR;clear hn hR;go_in;go_wp2_with fail;refine HV.out.1.mono ?_;rintro e w1 ⟨vs,rfl,hO,hs⟩;obtain⟨A,c,rfl,hRw⟩:=hO.row;rw [HV.out.2];have HS:=ns hs;clear hs hO hRw;go_wp2_with fail;refine(HV2.out w1 HS.out).mono ?_;rintro e w2 ⟨vs,rfl,hO,hs⟩;obtain⟨A2,c2,rfl,hRw⟩:=hO.row;have HT:=ns (gl w2 A2 c2 ys hRw (by have:=HLt.out.len;omega) (fun s hs=>by have:=HLt.out.size s hs;omega) (by have:=HLt.out.rest;omega));unfold iG at HT;rw [HM.out] at HT ⊢;have HS2:=ns (HS.out.tt hs);clear hs hO hRw;go_wp2_with fail;refine HT.out.mono ?_;rintro e w3 (⟨r,vT,hr,rfl,hO,hs⟩|⟨hr,rfl,hs⟩)
 ·obtain⟨A3,c3,rfl,hRw⟩:=hO.row2;have hrl:=HLt.out.many hr;have HRR:=ns (show gD r=R from by have h:=HR.out;rw [hr] at h;exact h);have HS3:=ns (HS2.out.tt hs);have HRow:=ns hRw;clear hs hO hr hRw;by_cases hr0:r.length=0
  ·have hR4:R=400:=by rw [←HRR.out,mX (by rw [List.eq_nil_of_length_eq_zero hr0];simp)]
   subst hR4;rw [hr0];clear hr0;go_wp2_with fail;go_ret;exact⟨rfl,HS3.out⟩
  ·have hlast:r.length-1 < r.length:=by omega
   obtain⟨bb,off,rfl,hbb,r0⟩:=HRow.out.at (j:=r.length-1) (u:=aX (r[r.length-1])) (by simp [hlast]);obtain⟨y,hy⟩:=Iu (r[r.length-1]);rw [hy,aX] at r0;have HY:=ns (show r.getLast?=some y from by rw [Dr (by omega),hy]);obtain⟨yb,hyb⟩:=Iu ((⟨y.toArray⟩:ByteArray));have hyt:yb.toList=y:=by rw [ByteArray.toList_eq,←hyb]
   rw [hyb] at r0;have k1:((r.length-1:Nat):Int)=(r.length:Int)-1:=by omega
   have k0:(0:Int) < (r.length:Int):=by omega
   have k2:(0:Int)≤(r.length:Int)-1:=by omega
   have k3:((r.length:Int)-1).toNat=r.length-1:=by omega
   have k4:¬((r.length:Int)=0):=by omega
   clear hy hyb k1;by_cases hch:y=aS
   ·have e1:yb.toList=[99,104,117,110,107,101,100]:=hyt.trans hch;have HC:=ns (show r.getLast?=some aS from by rw [HY.out,hch]);clear hyt hch;by_cases h1:r.length=1
    ·have hR0:R=0:=by rw [←HRR.out,vd HC.out h1]
     subst hR0;rw [h1] at r0 ⊢;have r00:w3.cell? ⟨bb,off,none⟩=some (.string yb):=by simpa using r0
     clear r0;clear h1 k0 k2 k3 k4 hr0 hlast;go_wp2_with fail;go_ret;exact⟨rfl,HS3.out⟩
    ·have k5:¬((r.length:Int)=1):=by omega
     go_wp2_with fail
     go_loopw [7] (fun i wr=>GC w3 r i wr) (fun i _=>r.length-(intOf i).toNat)
     case atStart=>exact⟨0,by omega,rfl,Sm.refl _ _,rfl⟩
     case round=>
      obtain⟨k,hk,rfl,hsm,hno⟩:=hrel;have HS:=ns (BT hsm hno);clear hsm hno r0;by_cases hlt:k+1 < r.length
      ·have hkr:k < r.length:=by omega
       obtain⟨b2,o2,hA,hb2,r1⟩:=(HRow.out.no HS.out.1).at (j:=k) (u:=aX r[k]) (by simp [hkr]);injection hA with hA;injection hA with hA1 hA2;subst hA1 hA2;obtain⟨z,hz⟩:=Iu (r[k]);rw [hz,aX] at r1;have HAny:=ns (show (r.take (k+1)).any (·==aS)=(z==aS) from by rw [←hz];exact yG hkr HS.out.2);obtain⟨zb,hzb⟩:=Iu ((⟨z.toArray⟩:ByteArray));have hzt:zb.toList=z:=by rw [ByteArray.toList_eq,←hzb]
       rw [hzb] at r1;have j1:(k:Int) < (r.length:Int)-1:=by omega
       have j2:(0:Int)≤(k:Int):=by omega
       have j3:(k:Int) < (r.length:Int):=by omega
       clear hz hzb;by_cases hq:z=aS
       ·have f1:zb.toList=[99,104,117,110,107,101,100]:=hzt.trans hq;have hR4:R=400:=by
         rw [←HRR.out,uk HC.out h1 (by rw [List.dropLast_eq_take];exact Bh (by omega) (HAny.out.trans (by rw [hq];decide)))]
        subst hR4;clear hzt hq;go_wp2_with fail;go_ret;exact⟨rfl,HS3.out.tt HS.out.1⟩
       ·have f1:¬zb.toList=[99,104,117,110,107,101,100]:=fun e=>hq (hzt.symm.trans e);have f2:(zb.toList==[99,104,117,110,107,101,100])=false:=by simpa using f1
        have HNo:=ns (show (r.take (k+1)).any (·==aS)=false from HAny.out.trans (by simpa using hq));clear hzt hq;go_wp2_with fail;exact⟨⟨k+1,by omega,by go_num,HS.out.1,HNo.out⟩,by simp [intOf];omega⟩
      ·have hR5:R=501:=by
        rw [←HRR.out,oE HC.out h1 (by rw [List.dropLast_eq_take,show r.length-1=k by omega];exact HS.out.2)]
       subst hR5;have j1:¬(k:Int) < (r.length:Int)-1:=by omega
       go_wp2_with fail;go_ret;exact⟨rfl,HS3.out.tt HS.out.1⟩
   ·have e1:¬yb.toList=[99,104,117,110,107,101,100]:=fun e=>hch (hyt.symm.trans e);have e2:(yb.toList==[99,104,117,110,107,101,100])=false:=by simpa using e1
    have e3:(yb.toList != [99,104,117,110,107,101,100])=true:=by simpa using e1
    have hR4:R=400:=by rw [←HRR.out,mX (by rw [HY.out];exact fun e=>hch (Option.some.inj e))]
    subst hR4;clear hyt hch;go_wp2_with fail;go_ret;exact⟨rfl,HS3.out⟩
 ·have hR4:R=400:=by have h:=HR.out;rw [hr] at h;exact h.symm
  subst hR4;have HS3:=ns (HS2.out.tt hs);clear hs hr;go_wp2_with fail;go_ret;exact⟨rfl,HS3.out⟩
end
section
variable {tt:TypeId} {tl:List Value}
def pI(n0:Int)(x:af):Bool:=(eG x).2&&(eG x).1==n0
def oM(n0:Int)(l:List af):Int × Int:=if l.all (pI n0)=true then (if 2048 < n0 then (0,413) else (n0,0)) else (0,400)
theorem xQ(t:af)(r:List af):jb (t::r)=oM (eG t).1 (t::r):=rfl
theorem lE{n0:Int}{l:List af}{x:af}(hx:x∈l)(h:pI n0 x=false):oM n0 l=(0,400):=by
 unfold oM;rw [if_neg];intro e;rw [List.all_eq_true] at e;have:=e x hx;rw [h] at this
 cases this
theorem qe{n0:Int}{l:List af}(h:l.all (pI n0)=true):oM n0 l=if 2048 < n0 then (0,413) else (n0,0):=by unfold oM;rw [if_pos h]
theorem lS{p:af→Bool}{r:List af}{k:Nat}(h:k < r.length)(hn:(r.take k).all p=true)(hp:p r[k]=true):(r.take (k+1)).all p=true:=by
 rw [List.take_succ_eq_append_getElem h,List.all_append,hn];simp [hp]
theorem lh(l:af)(h:l.length≤100000):0≤(eG l).1∧(eG l).1≤1152921504606846976:=by
 unfold eG ei;split
 ·decide
 ·rename_i g
  split
  ·rename_i n hn
   obtain⟨a,b⟩:=mR (Or.inl rfl) (k:=0) hn (by decide) (by decide);refine⟨a,?_⟩;have:(16:Int) ^ (0+l.length)≤16 ^ 15:=by exact_mod_cast Nat.pow_le_pow_right (by decide) (by omega)
   have e:(16:Int) ^ 15=1152921504606846976:=by decide
   show n≤_;omega
  ·decide
def jU(w:World)(r:List af)(n0:Int)(n i:Value)(wr:World):Prop:=∃ k:Nat,k≤r.length∧i=.int .i64 k∧n=.int .i64 (if k=0 then 0 else n0)∧Sm No w wr∧(r.take k).all (pI n0)=true
theorem jU.next{w wr:World}{r:List af}{n0:Int}{k:Nat}(hlt:k < r.length)(hs:Sm No w wr)(h:(r.take (k+1)).all (pI n0)=true):jU w r n0 (.int .i64 n0) (.int .i64 ((k:Int)+1)) wr:=⟨k+1,by omega,by go_num,by rw [if_neg (by omega)],hs,h⟩
theorem sj(w:World)(B g:Nat)(v:Value)(l:List aJ)(hF:bi tt tl w B g v l)(hL:eo l):
 Calls Tryz.prog 210 #[.pointer (some ⟨g,0,none⟩)] w fun e w'=>e=.returned (.tuple #[.int .i64 (ke (ag l cQ)).1,.int .i64 (ke (ag l cQ)).2])∧Sm No w w':=by
 have HV:=bY w B g v l cQ hF hL.len hL.short (by decide);have HLt:=ns (hL.light cQ);unfold bU at HV;obtain⟨ys,hys⟩:=Iu (ag l cQ);rw [hys] at HV HLt ⊢;have HV:=ns HV;obtain⟨m,hmm⟩:=Iu ys.length;have HM:=ns hmm;obtain⟨R1,R2,hR⟩:∃ R1 R2,ke ys=(R1,R2):=⟨_,_,rfl⟩;rw [hR];unfold ke at hR;have HR:=ns hR;clear hF hL hys hmm hR;go_in;go_wp2_with fail;refine HV.out.mono ?_;rintro e w2 ⟨vs,rfl,hO,hs⟩;obtain⟨A2,c2,rfl,hRw⟩:=hO.row;have HT:=ns (gl w2 A2 c2 ys hRw (by have:=HLt.out.len;omega) (fun s hs=>by have:=HLt.out.size s hs;omega) (by have:=HLt.out.rest;omega));unfold iG at HT;rw [HM.out] at HT ⊢;have HS2:=ns hs;clear hs hO hRw;go_wp2_with fail;refine HT.out.mono ?_;rintro e w3 (⟨r,vT,hr,rfl,hO,hs⟩|⟨hr,rfl,hs⟩)
 ·obtain⟨A3,c3,rfl,hRw⟩:=hO.row2;have hrl:=HLt.out.many hr;have HRR:=ns (show jb r=(R1,R2) from by have h:=HR.out;rw [hr] at h;exact h);have HS3:=ns (HS2.out.tt hs);have HRow:=ns hRw;have HBd:=ns (show ∀ l∈r,l.length≤3001 from HLt.out.toks hr);clear hs hO hr hRw
  cases r with
  |nil=>
   have h:=HRR.out;rw [show jb []=(0,400) from rfl] at h;injection h with h1 h2;subst h1 h2;go_wp2_with fail;go_ret2;exact⟨rfl,HS3.out⟩
  |cons t r'=>
   obtain⟨n0,hn0⟩:=Iu ((eG t).1);have HR2:=ns (show oM n0 (t::r')=(R1,R2) from by rw [←hn0,←xQ];exact HRR.out);have hN0:=lh t (Nat.le_trans (HBd.out t (by simp)) (by decide));rw [hn0] at hN0;obtain⟨r,hrr⟩:=Iu (t::r');have HH:=ns (show ∀ h:0 < r.length,(eG r[0]).1=n0 from fun h=>by subst hrr;exact hn0);have hr0:0 < r.length:=by rw [←hrr];simp
   rw [hrr] at HR2 HRow hrl HBd ⊢;clear hrr hn0 HRR;have k0:(0:Int) < (r.length:Int):=by omega
   have k1:((r.length:Int)==0)=false:=by rw [beq_eq_false_iff_ne];omega
   go_wp2_with fail
   go_loopw [6,7] (fun n i wr=>jU w3 r n0 n i wr) (fun _ i _=>r.length-(intOf i).toNat)
   case atStart=>exact⟨0,by omega,rfl,rfl,Sm.refl _ _,rfl⟩
   case round=>
    obtain⟨k,hk,rfl,rfl,hsm,hall⟩:=hrel;have HS:=ns (BT hsm hall);obtain⟨nn,hnn⟩:=Iu ((if k=0 then 0 else n0));rw [hnn];have HNN:=ns hnn;clear hsm hall hnn;by_cases hlt:k < r.length
    ·obtain⟨b2,o2,hA,hb2,r1⟩:=(HRow.out.no HS.out.1).at (j:=k) (u:=aX r[k]) (by simp [hlt]);subst hA;have hzb:=HBd.out r[k] (List.getElem_mem hlt);obtain⟨z,hz⟩:=Iu (r[k]);rw [hz] at r1 hzb;rw [aX] at r1;have HZ:=ns hz;obtain⟨zb,hzb2⟩:=Iu ((⟨z.toArray⟩:ByteArray));have hzt:ab zb=z:=by rw [←hzb2];rfl
     have hzz:zb.size≤1000000:=by rw [←ae,hzt];omega
     rw [hzb2] at r1;obtain⟨a,ok,hno⟩:∃ a ok,eG z=(a,ok):=⟨_,_,rfl⟩;have HNum:=ut zb hzz wr;rw [hzt,hno] at HNum;have HNum:=ns HNum;have ha:=lh z (Nat.le_trans hzb (by decide));rw [hno] at ha;have HNo:=ns hno;have j2:(0:Int)≤(k:Int):=by omega
     have j3:(k:Int) < (r.length:Int):=by omega
     have HP:=ns (show pI n0 r[k]=(ok&&a==n0) from by rw [hz];unfold pI;rw [hno]);clear hzb2 hzt hno hz
     cases ok with
     |false=>
      have HE:=ns (lE (List.getElem_mem hlt) (HP.out.trans rfl));have h:=HR2.out;rw [HE.out] at h;injection h with h1 h2;subst h1 h2
      try clear h
      go_wp2_with fail;refine HNum.out.mono ?_;rintro e w4 ⟨rfl,rfl⟩;go_wp2_with fail;go_ret2;exact⟨rfl,HS3.out.tt HS.out.1⟩
     |true=>
      by_cases hk0:k=0
      ·have hk1:¬(0:Int) < (k:Int):=by omega
       have han:a=n0:=by
        have h3:=HH.out hr0;have h2:=HZ.out;subst hk0;rw [h2,HNo.out] at h3;exact h3
       have HAll:=ns (lS hlt HS.out.2 (HP.out.trans (by simp [han])));subst han;have hk2:=ns hk0;clear hk0;go_wp2_with fail;refine HNum.out.mono ?_;rintro e w4 ⟨rfl,rfl⟩;go_wp2_with fail;refine⟨?_,by simp [intOf];omega⟩
       first|exact jU.next hlt HS.out.1 HAll.out|((repeat apply Exists.intro);exact⟨jU.next hlt HS.out.1 HAll.out,rfl⟩)
      ·have hk1:(0:Int) < (k:Int):=by omega
       obtain rfl:n0=nn:=by rw [←HNN.out,if_neg hk0]
       by_cases han:a=n0
       ·have HAll:=ns (lS hlt HS.out.2 (HP.out.trans (by simp [han])));subst han;go_wp2_with fail;refine HNum.out.mono ?_;rintro e w4 ⟨rfl,rfl⟩;go_wp2_with fail;refine⟨?_,by simp [intOf];omega⟩
        first|exact jU.next hlt HS.out.1 HAll.out|((repeat apply Exists.intro);exact⟨jU.next hlt HS.out.1 HAll.out,rfl⟩)
       ·have HE:=ns (lE (List.getElem_mem hlt) (HP.out.trans (by simp [han])));have hb1:(a==n0)=false:=by simp [han]
        have hb2:(a != n0)=true:=by simp [han]
        have h:=HR2.out;rw [HE.out] at h;injection h with h1 h2;subst h1 h2;clear han;go_wp2_with fail;refine HNum.out.mono ?_;rintro e w4 ⟨rfl,rfl⟩;go_wp2_with fail;go_ret2;exact⟨rfl,HS3.out.tt HS.out.1⟩
    ·have hkr:k=r.length:=by omega
     obtain rfl:n0=nn:=by rw [←HNN.out,if_neg (by omega)]
     have h:=HR2.out;rw [qe (by have h:=HS.out.2;rw [List.take_of_length_le (by omega)] at h;exact h)] at h;have j3:¬(k:Int) < (r.length:Int):=by omega
     clear hkr;by_cases hbig:2048 < n0
     ·rw [if_pos hbig] at h;injection h with h1 h2;subst h1 h2
      try clear h
      go_wp2_with fail;go_ret2;exact⟨rfl,HS3.out.tt HS.out.1⟩
     ·rw [if_neg hbig] at h;injection h with h1 h2;subst h1 h2
      try clear h
      go_wp2_with fail;go_ret2;exact⟨rfl,HS3.out.tt HS.out.1⟩
 ·have h:=HR.out;rw [hr] at h;have h:((0:Int),(400:Int))=(R1,R2):=h;injection h with h1 h2;subst h1 h2;have HS3:=ns (HS2.out.tt hs);clear hs hr h;go_wp2_with fail;go_ret2;exact⟨rfl,HS3.out⟩
end
end Go.Proofs.YtcflkcbogofgbaaGreatDoor
