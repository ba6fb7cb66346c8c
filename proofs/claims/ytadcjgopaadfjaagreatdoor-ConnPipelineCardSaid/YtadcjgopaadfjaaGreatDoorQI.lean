import Derived.Lib.SplitLaws
import Derived.Lib.IndexBytes
import Derived.Test.YtadcjgopaadfjaaGreatDoorQF
import Derived.Test.YtadcjgopaadfjaaGreatDoorQO
import Derived.WalkSmall
import Derived.Lib.SlicesCompact
import Derived.Sort.KeysCollected
set_option maxHeartbeats 8000000
set_option maxRecDepth 100000
namespace Go.Proofs.YtadcjgopaadfjaaGreatDoor
abbrev ah:=List UInt8
def bF(d:UInt8):ah→ah→List ah
 |_,[]=>[]
 |cur,c::l=>if c=d then cur::bF d [] l else bF d (cur++[c]) l
def bL(d:UInt8)(v:ah):List ah:=bF d [] (v++[d])
theorem qi(d:UInt8)(cur x y:ah):bF d cur (x++d::y)=bF d cur (x++[d])++bF d [] y:=by
 induction x generalizing cur with
 |nil=>simp [bF]
 |cons c x ih=>
  simp only [List.cons_append,bF];split
  ·rw [ih];rfl
  ·exact ih _
theorem mT(d:UInt8)(cur x:ah)(h:∀ c∈x,c≠d):bF d cur (x++[d])=[cur++x]:=by
 induction x generalizing cur with
 |nil=>simp [bF]
 |cons c x ih=>
  rw [List.cons_append,bF,if_neg (h c (by simp)),ih _ (fun e he=>h e (by simp [he]))];simp
theorem Ao(d:UInt8)(cur x y:ah)(h:∀ c∈x,c≠d):bF d cur (x++d::y)=(cur++x)::bF d [] y:=by
 rw [qi,mT _ _ _ h];rfl
theorem zy(d:UInt8)(cur l:ah):((bF d cur l).map (·.length+1)).sum≤cur.length+l.length:=by
 induction l generalizing cur with
 |nil=>simp [bF]
 |cons c l ih=>
  rw [bF];split
  ·have:=ih [];simp at this ⊢;omega
  ·have:=ih (cur++[c]);simp at this ⊢;omega
theorem BJ{d:UInt8}{l:ah}{i:Nat}(h:∀ j,j < i→l[j]?≠some d):∀ c∈l.take i,c≠d:=by
 intro c hc e;subst e;obtain⟨j,hj⟩:=List.getElem?_of_mem hc;have hlt:j < i:=by
  have:=(List.getElem?_eq_some_iff.1 hj).1;rw [List.length_take] at this;omega
 rw [List.getElem?_take,if_pos hlt] at hj;exact h j hlt hj
theorem lu(d:UInt8):∀ (k:Nat) (s:ah),Lib.count s [d]=k→Lib.splitK [d] 0 k s=bL d s
 |0,s,h=>by
  rw [Lib.splitK];have:Lib.index s [d]= -1:=by
   rcases ce s d with g|⟨i,g⟩
   ·rw [Lib.index_one];exact g
   ·have:=Lib.count_hit (s:=s) (sub:=[d]) (i:=i) (by simp) (by rw [Lib.index_one];exact g);omega
  rw [Lib.index_one] at this;unfold bL;rw [mT d [] s (fun c hc e=>by
   subst e;obtain⟨j,hj⟩:=List.getElem?_of_mem hc;exact Lib.indexByte_none this j hj)]
  rfl
 |k+1,s,h=>by
  rw [Lib.splitK];rcases ce s d with g|⟨i,g⟩
  ·have:=Lib.count_miss (s:=s) (sub:=[d]) (by rw [Lib.index_one];exact g);omega
  ·have hi:=mx s d i g;have hix:Lib.index s [d]=i:=by rw [Lib.index_one];exact g
   have hc:=Lib.count_hit (s:=s) (sub:=[d]) (i:=i) (by simp) hix;have e0:([d]:ah).length=1:=rfl;rw [e0] at hc;obtain⟨g1,g2⟩:=Lib.indexByte_some g;rw [hix,if_neg (by simp)];have e1:((i:Int)).toNat=i:=by omega
   rw [e1,e0,Nat.add_zero,lu d k (s.drop (i+1)) (by omega)];have hs:s=s.take i++d::s.drop (i+1):=by
    have h1:s[i]?=some d:=g1;rw [List.getElem?_eq_getElem hi] at h1;injection h1 with h1;rw [←h1,List.getElem_cons_drop hi,List.take_append_drop]
   conv=>rhs;rw [hs]
   unfold bL;rw [List.append_assoc,List.cons_append,Ao _ _ _ _ (BJ g2)];rfl
theorem nF(d:UInt8)(s:ByteArray):(Lib.splitB ⟨#[d]⟩ 0 (Lib.countB s ⟨#[d]⟩) s).map (·.data.toList)=bL d s.data.toList:=by
 rw [Lib.splitB_data];exact lu d _ _ rfl
def fu:Option (List ah)→ah→Option (List ah)
 |none,_=>none
 |some l,p=>if p=[]∨p=[46] then some l else if p=[46,46] then (if l=[] then none else some l.dropLast) else some (l++[p])
def dn(st:Option (List ah))(ps:List ah):Option (List ah):=ps.foldl fu st
def ed:List ah→ah
 |[]=>[]
 |p::r=>47::(p++ed r)
def nl(last out:ah):ah:=if last=[]∨last=[46]∨last=[46,46]∨out=[] then out++[47] else out
def bt(s:ah):Option ah:=if s.head?=some 47 then (dn (some []) (bL 47 s)).map (fun l=>nl ((bL 47 s).getLastD []) (ed l)) else none
theorem jz(ps:List ah):dn none ps=none:=by
 induction ps with
 |nil=>rfl
 |cons p ps ih=>exact ih
theorem gP(st:Option (List ah))(p:ah)(ps:List ah):dn st (p::ps)=dn (fu st p) ps:=rfl
theorem fH(l:List ah)(p:ah)(h:p=[]∨p=[46]):fu (some l) p=some l:=by simp only [fu,if_pos h]
theorem oT:fu (some []) [46,46]=none:=by simp [fu]
theorem tK(l:List ah)(h:l≠[]):fu (some l) [46,46]=some l.dropLast:=by simp [fu,h]
theorem my(l:List ah)(p:ah)(h1:p≠[])(h2:p≠[46])(h3:p≠[46,46]):fu (some l) p=some (l++[p]):=by
 simp [fu,h1,h2,h3]
theorem tR(a b:List ah):ed (a++b)=ed a++ed b:=by
 induction a with
 |nil=>rfl
 |cons p a ih=>simp [ed,ih]
theorem iA{l:List ah}{k:Nat}(h:k < l.length):ed (l.take (k+1))=ed (l.take k)++47::l[k]:=by
 rw [List.take_succ_eq_append_getElem h,tR];simp [ed]
theorem sh(l:List ah):(ed l).length=(l.map (·.length+1)).sum:=by
 induction l with
 |nil=>rfl
 |cons p l ih=>simp [ed,ih];omega
theorem qA(l:List ah):((l.dropLast).map (·.length+1)).sum≤(l.map (·.length+1)).sum:=by
 rcases List.eq_nil_or_concat l with rfl|⟨r,a,rfl⟩
 ·simp
 ·simp
theorem tN(r:ah):bL 47 (47::r)=[]::bL 47 r:=by
 unfold bL;rw [List.cons_append,bF,if_pos rfl]
theorem qc(r:ah):bt (47::r)=(dn (some []) (bL 47 r)).map (fun l=>nl ((bL 47 r).getLastD []) (ed l)):=by
 unfold bt;rw [if_pos (show (47::r).head?=some 47 from rfl),tN,gP,fH _ _ (Or.inl rfl)];simp only [List.getLastD_cons]
theorem iS{s:ah}(h:s.head?≠some 47):bt s=none:=by
 unfold bt;rw [if_neg h]
end Go.Proofs.YtadcjgopaadfjaaGreatDoor
namespace Go.Proofs.YtadcjgopaadfjaaGreatDoor
open Go.RowKit Go.Proofs
def af(s:ByteArray):ah:=s.data.toList
def fp(l:ah):Value:=.string ⟨l.toArray⟩
def eI:Option ah→Value
 |some r=>.tuple #[fp r,.bool true]
 |none=>.tuple #[.string ⟨#[]⟩,.bool false]
theorem sT(s:ByteArray)(hs:s.size≤1000000)(w:World)(hg:G0 w):
 Calls Tryz.prog 113 #[.string s,.string ⟨#[47]⟩] w fun e w'=>∃ ps:List ByteArray,ar ps=bL 47 (af s)∧e=.returned (.slice (some ⟨w.heap.size,0,none⟩) ps.length ps.length)∧
  gE w' (some ⟨w.heap.size,0,none⟩) ps∧Sm No w w'∧w.heap.size < w'.heap.size:=by
 obtain⟨m,hm⟩:=hg;refine(Tryz.strings_Split s ⟨#[47]⟩ m w (by omega) hm (by decide)).mono fun e w' ⟨he,hw⟩=> ?_;have hlen:=Lib.splitB_all ⟨#[47]⟩ (by decide) 0 _ s rfl;refine⟨_,nF 47 s,?_,?_,?_,by rw [hw];simp⟩
 ·rw [hlen];exact he
 ·intro k hk;subst hw;have hb:=Bk.new w 9 ((Lib.splitB ⟨#[47]⟩ 0 (Lib.countB s ⟨#[47]⟩) s).map Value.string).toArray;exact⟨w.heap.size,0,rfl,hb.lt,by rw [Nat.zero_add];exact hb.at k (by simp [hk])⟩
 ·rw [hw];exact(Sm.refl No w).alloc _
theorem vM{ps:List ByteArray}{k:Nat}(h:k < ps.length):ar (ps.drop k)=af ps[k]::ar (ps.drop (k+1)):=by
 unfold ar;rw [List.drop_eq_getElem_cons h];rfl
theorem xZ{ps:List ByteArray}{k:Nat}(h:¬k < ps.length):ar (ps.drop k)=[]:=by
 unfold ar;rw [List.drop_eq_nil_of_le (by omega)];rfl
def wt(l:List ah):Nat:=(l.map (·.length+1)).sum
theorem qG(p:ah)(l:List ah):wt (p::l)=p.length+1+wt l:=by simp [wt]
theorem qw(l:List ah)(p:ah):wt (l++[p])=wt l+(p.length+1):=by simp [wt]
theorem qq(l:List ah):wt l.dropLast≤wt l:=qA l
theorem lY(l:List ah):l.length≤wt l:=by
 induction l with
 |nil=>simp
 |cons p l ih=>rw [qG];simp;omega
theorem xA(s:ah):wt (bL 47 s)≤s.length+1:=by
 have:=zy 47 [] (s++[47]);simpa [wt,bL] using this
def Bc(w:World)(gp n:Nat)(T:Option (List ah) × ah)(ps:List ByteArray)(v lv i:Value)(wr:World):Prop:=
 ∃ (k:Nat) (l:List ah) (last:ByteArray),k≤ps.length∧i=.int .i64 k∧lv=.string last∧T=(dn (some l) (ar (ps.drop k)),(ar (ps.drop k)).getLastD (af last))∧wt l+wt (ar (ps.drop k))≤n∧
   bi wr w.heap.size v l∧gE wr (some ⟨gp,0,none⟩) ps∧Sm No w wr∧v.ownBlock≠some gp∧gp < wr.heap.size∧last.size≤n
theorem bi.pop{w:World}{B:Nat}{v:Value}{l:List ah}(h:bi w B v l)(hl:l≠[]):∃ g cap,v=.slice (some ⟨g,0,none⟩) l.length cap∧l.length≤cap∧bi w B (.slice (some ⟨g,0,none⟩) (l.length-1) cap) l.dropLast:=by
 rcases aK h with ⟨_,h0,_⟩|⟨g,cap,rfl,_,_,_,hc,_⟩
 ·exact absurd (List.eq_nil_of_length_eq_zero h0) hl
 ·refine⟨g,cap,rfl,hc,?_⟩;obtain⟨a,x,rfl⟩:∃ a x,l=a++[x]:=⟨l.dropLast,l.getLast hl,(List.dropLast_concat_getLast hl).symm⟩;rw [List.dropLast_concat];unfold bi at h ⊢;rw [List.map_append,List.length_append] at h;simp only [List.length_singleton,List.map_cons,List.map_nil,List.length_append] at h ⊢;rw [Nat.add_sub_cancel];exact ownsRow_pop (by simp) h
theorem aN(p:ByteArray)(l:ah):p.toList=l↔af p=l:=by rw [Go.ByteArray.toList_eq];rfl
theorem cE(p:ByteArray):p.toList.isEmpty=decide (af p=[]):=by rw [Go.ByteArray.toList_eq];unfold af;cases p.data.toList<;>simp
theorem cN(p:ByteArray)(l:ah):(p.toList==l)=decide (af p=l):=by rw [Go.ByteArray.toList_eq];unfold af;by_cases h:p.data.toList=l<;>simp [h]
theorem du(a b:ByteArray):af (a++b)=af a++af b:=by simp [af]
theorem ag(a:ByteArray):(af a).length=a.size:=by simp [af]
theorem rc(s:ByteArray)(h:0 < s.size):(af s).head?=some s[0]:=by
 have e0:(af s)[0]?=some s[0]:=by
  unfold af;rw [List.getElem?_eq_getElem (by simpa using h)];simp [ByteArray.getElem_eq_getElem_data]
 rw [←e0,List.head?_eq_getElem?]
theorem iB(a:ByteArray):fp (af a)=.string a:=by unfold fp af;simp
theorem fR{w:World}{B size n c:Nat}{t:TypeId}{A:Option Addr}{xs:List Value}(h:w.ownsRow B t size (.slice A n c) n xs):ax w A xs:=by
 obtain⟨A',c',e,h2,_⟩:=au h;injection e with e1 _ _;rw [e1];exact h2
theorem FM(last out:ByteArray)(l:List ah)(hout:af out=ed l)(b:Bool)(hb:(last.toList.isEmpty||(last.toList==[46])||(last.toList==[46,46])||out.toList.isEmpty)=b):
 Ending.returned (.tuple #[.string (if b=true then out++⟨#[47]⟩ else out),.bool true])=.returned (eI (some (nl (af last) (ed l)))):=by
 rw [cE,cE,cN,cN] at hb;unfold nl;rw [←hout]
 cases b
 ·rw [if_neg (by simp),if_neg (by simpa [not_or,and_assoc] using hb)];show _=Ending.returned (.tuple #[fp (af out),.bool true]);rw [iB]
 ·have hb':af last=[]∨af last=[46]∨af last=[46,46]∨af out=[]:=by simpa [or_assoc] using hb
  have e:af (out++⟨#[47]⟩)=af out++[47]:=du _ _;rw [if_pos rfl,if_pos hb',←e];show _=Ending.returned (.tuple #[fp (af (out++⟨#[47]⟩)),.bool true]);rw [iB]
def xC(w:World)(B:Nat)(v:Value)(l:List ah)(ov i:Value)(wr:World):Prop:=
 ∃ (j:Nat) (out:ByteArray),j≤l.length∧i=.int .i64 j∧ov=.string out∧af out=ed (l.take j)∧bi wr B v l∧Sm No w wr
theorem lZ(l:List ah)(j:Nat):(ed (l.take j)).length≤wt l:=by
 rw [sh];show wt (l.take j)≤wt l;have:wt l=wt (l.take j)+wt (l.drop j):=by
  conv=>lhs;rw [←List.take_append_drop j l]
  simp only [wt,List.map_append,List.sum_append]
 omega
theorem rQ{s:ah}(h:dn (some []) (bL 47 s)=none):bt s=none:=by
 unfold bt;split
 ·rw [h];rfl
 ·rfl
theorem sQ{s:ah}{l:List ah}{last:ah}(h0:s.head?=some 47)(h:(dn (some []) (bL 47 s),(bL 47 s).getLastD [])=(some l,last)):bt s=some (nl last (ed l)):=by
 unfold bt;rw [if_pos h0,(Prod.mk.inj h).1,(Prod.mk.inj h).2];rfl
theorem kZ(s:ByteArray)(hs:s.size≤900000)(w:World)(hg:G0 w):
 Calls Tryz.prog 78 #[.string s] w fun e w'=>e=.returned (eI (bt (af s)))∧Sm No w w':=by
 by_cases h0:s.size=0
 ·have hn:af s=[]:=List.eq_nil_of_length_eq_zero (by rw [ag];exact h0);have hR:bt (af s)=none:=iS (by rw [hn];simp);rw [hR];have h1:s.toList.isEmpty=true:=by rw [cE,hn];rfl
  clear hn h0 hR;go_in;go_wp2_with fail;go_ret2;exact⟨rfl,Sm.refl _ _⟩
 ·have h2:0 < s.size:=by omega
  have h1:s.toList.isEmpty=false:=by rw [cE,decide_eq_false_iff_not];intro e;have:=ag s;rw [e] at this;simp at this;omega
  have hh:=rc s h2;by_cases hq0:s[0]=47
  ·have hq:((s[0].toNat:Int) != 47)=false:=by simp [hq0]
   rw [hq0] at hh;obtain⟨R,hR⟩:=ai (bt (af s));rw [hR];have HG:=aa (ab hh (ab hR hg));clear hh hR hg h0 hq0;go_in;go_wp2_with fail;refine(sT s (by omega) _ HG.out.2.2).mono ?_;rintro e w1 ⟨ps,hps,rfl,hSR,hs1,hgp⟩;have hT0:(dn (some []) (bL 47 (af s)),(bL 47 (af s)).getLastD [])=(dn (some []) (ar (ps.drop 0)),(ar (ps.drop 0)).getLastD (af ⟨#[]⟩)):=by rw [List.drop_zero,hps];rfl
   have hW:wt (ar (ps.drop 0))≤s.size+1:=by rw [List.drop_zero,hps,←ag];exact xA _
   have hpl:ps.length≤s.size+1:=by
    have:=lY (ar (ps.drop 0));rw [List.drop_zero] at this hW;have e:(ar ps).length=ps.length:=by simp [ar]
    omega
   have HP:=aa (ab hT0 (ab hW (ab hSR (ab hs1 hgp))));clear hps hT0 hW hSR hs1 hgp;go_wp2_with fail
   go_loopw [4,5,21] (fun v lv i wr=>Bc w w.heap.size (s.size+1) (dn (some []) (bL 47 (af s)),(bL 47 (af s)).getLastD []) ps v lv i wr) (fun _ _ i _=>ps.length-(intOf i).toNat)
   case atStart=>exact⟨0,[],⟨#[]⟩,Nat.zero_le _,rfl,rfl,HP.out.1,by simpa [wt] using HP.out.2.1,World.ownsRow_nil _ _ _ 1,HP.out.2.2.1,HP.out.2.2.2.1,by simp [Value.ownBlock],HP.out.2.2.2.2,Nat.zero_le _⟩
   case round=>
    obtain⟨k,l,last,hk,rfl,rfl,hT,hW,hO,hSR,hsm,hgp,hgl,hll⟩:=hrel;obtain⟨A0,c0,rfl,hrow,_,hnc⟩:=au hO;have HK:=aa (ab hT (ab hW (ab hO (ab hSR (ab hsm (ab hgp (ab hgl hrow)))))));clear hT hW hO hSR hsm hgp hgl hrow;by_cases hlt:k < ps.length
    ·obtain⟨b2,o2,hA2,hb2,r2⟩:=HK.out.2.2.2.1 k hlt;injection hA2 with hA2;injection hA2 with hA3 hA4;subst hA3 hA4;have hat:=vM hlt;obtain⟨p,hp⟩:∃ s,ps[k]=s:=⟨_,rfl⟩;rw [hp] at r2 hat;rw [Nat.zero_add] at r2;have k3:(0:Int)≤(k:Int):=by omega
     have k4:(k:Int) < (ps.length:Int):=by omega
     have hT:(dn (some []) (bL 47 (af s)),(bL 47 (af s)).getLastD [])=(dn (fu (some l) (af p)) (ar (ps.drop (k+1))),(ar (ps.drop (k+1))).getLastD (af p)):=by rw [HK.out.1,hat,gP,List.getLastD_cons]
     have hW:wt l+(p.size+1)+wt (ar (ps.drop (k+1)))≤s.size+1:=by have:=HK.out.2.1;rw [hat,qG,ag] at this;omega
     have HX:=aa (ab hT hW);have hpz:p.size≤s.size+1:=by omega
     have hlm:l.length≤s.size+1:=by have:=lY l;omega
     clear hp hat hT hW;have e1:p.toList.isEmpty=decide (af p=[]):=cE p;have e2:(p.toList==[46])=decide (af p=[46]):=cN p _;have e3:(p.toList==[46,46])=decide (af p=[46,46]):=cN p _;by_cases c1:af p=[]
     ·have hT:=HX.out.1;rw [fH _ _ (Or.inl c1)] at hT;have HT:=aa hT;rw [c1] at e1;have e1':p.toList.isEmpty=true:=e1;clear hT e1 e2 e3 c1;go_wp2_with fail;exact⟨⟨k+1,l,p,by omega,by go_num,rfl,HT.out,by have:=HX.out.2;omega,HK.out.2.2.1,HK.out.2.2.2.1,HK.out.2.2.2.2.1,HK.out.2.2.2.2.2.1,HK.out.2.2.2.2.2.2.1,hpz⟩,by simp [intOf];omega⟩
     ·have e1':p.toList.isEmpty=false:=by rw [e1,decide_eq_false_iff_not];exact c1
      by_cases c2:af p=[46]
      ·have hT:=HX.out.1;rw [fH _ _ (Or.inr c2)] at hT;have HT:=aa hT;have e2':(p.toList==[46])=true:=by rw [e2,c2];rfl
       clear hT e1 e2 e3 c1 c2;go_wp2_with fail;exact⟨⟨k+1,l,p,by omega,by go_num,rfl,HT.out,by have:=HX.out.2;omega,HK.out.2.2.1,HK.out.2.2.2.1,HK.out.2.2.2.2.1,HK.out.2.2.2.2.2.1,HK.out.2.2.2.2.2.2.1,hpz⟩,by simp [intOf];omega⟩
      ·have e2':(p.toList==[46])=false:=by rw [e2,decide_eq_false_iff_not];exact c2
       by_cases c3:af p=[46,46]
       ·have e3':(p.toList==[46,46])=true:=by rw [e3,c3];rfl
        by_cases c4:l=[]
        ·subst c4;have hT:=HX.out.1;rw [c3,oT,jz] at hT;have hR:R=none:=by rw [←HG.out.2.1];exact rQ (Prod.mk.inj hT).1
         subst hR;clear hT e1 e2 e3 c1 c2 c3;go_wp2_with fail;go_ret2;exact⟨rfl,HK.out.2.2.2.2.1⟩
        ·have hT:=HX.out.1;rw [show fu (some l) (af p)=some l.dropLast by rw [c3];exact tK _ c4] at hT;obtain⟨g,cap,hv,hcap,hpop⟩:=HK.out.2.2.1.pop c4;injection hv with hv1 hv2 hv3;subst hv1 hv3;have hl1:0 < l.length:=List.length_pos_iff.2 c4;have HT:=aa (ab hT hpop);have e4:((l.length:Int)==0)=false:=by simp;exact c4
         have e5:(((l.length-1:Nat):Int))=(l.length:Int)-1:=by omega
         clear hT e1 e2 e3 c1 c2 c3 hpop c4;go_wp2_with fail;exact⟨⟨k+1,l.dropLast,p,by omega,by go_num,rfl,HT.out.1,by have:=HX.out.2;have:=qq l;omega,(by simpa using HT.out.2),HK.out.2.2.2.1,HK.out.2.2.2.2.1,HK.out.2.2.2.2.2.1,HK.out.2.2.2.2.2.2.1,hpz⟩,by simp [intOf];omega⟩
       ·have e3':(p.toList==[46,46])=false:=by rw [e3,decide_eq_false_iff_not];exact c3
        have hT:=HX.out.1;rw [my _ _ c1 c2 c3] at hT;have HT:=aa hT;clear hT e1 e2 e3 c1 c2 c3;go_wp2_with (refine aY rfl _ _ 119 9 rfl Tryz.underlying119 _ 1 16 eK rfl (by decide) (by decide) w.heap.size _ _ _ rfl (World.ownsRow.alloc HK.out.2.2.1 _) wr.heap.size #[.string p] rfl (Bk.new wr _ _) rfl (by simp [Value.oneCell']) (by omega) (by have:=HK.out.2.2.2.2.1.size;simp;omega) ?_;intro v' w5 hown5 hs5 hv5);have hO5:bi w5 w.heap.size v' (l++[af p]):=by
         refine bi.push ?_;rw [show aP (af p)=.string p from iB p];exact hown5
        have hS5:Sm No w w5:=(HK.out.2.2.2.2.1.alloc (.cells #[.string p] 9)).trans hs5 (fun b hb e=>by
         have:=(World.ownsRow.lt HK.out.2.2.1 b e).1;omega)
        have hR5:gE w5 (some ⟨w.heap.size,0,none⟩) ps:=(HK.out.2.2.2.1.no ((Sm.refl No wr).alloc (.cells #[.string p] 9))).sm hs5 (fun a ha e=>by
         injection ha with ha;rw [←ha] at e;exact HK.out.2.2.2.2.2.1 e)
        have hN5:v'.ownBlock≠some w.heap.size:=fun e=>by
         rcases hv5 with g|g
         ·exact HK.out.2.2.2.2.2.1 (g ▸ e)
         ·rw [g] at e;injection e with e;have:=HK.out.2.2.2.2.2.2.1;simp at e;omega
        have hG5:w.heap.size < w5.heap.size:=by have:=HK.out.2.2.2.2.2.2.1;have:=hs5.size;simp at this;omega
        have H5:=aa (ab hO5 (ab hR5 (ab hS5 (ab hN5 hG5))));clear hO5 hS5 hown5 hs5 hv5 hR5 hN5 hG5;go_wp2_with fail;exact⟨⟨k+1,l++[af p],p,by omega,by go_num,rfl,HT.out,by have:=HX.out.2;rw [qw,ag];omega,H5.out.1,H5.out.2.1,H5.out.2.2.1,H5.out.2.2.2.1,H5.out.2.2.2.2,hpz⟩,by simp [intOf];omega⟩
    ·have hT:=HK.out.1;rw [xZ hlt] at hT;have hR:R=some (nl (af last) (ed l)):=by rw [←HG.out.2.1];exact sQ HG.out.1 hT
     have hwl:wt l≤s.size+1:=by have:=HK.out.2.1;omega
     have hlm:l.length≤s.size+1:=by have:=lY l;omega
     have HE:=aa hR;clear hR hT;go_wp2_with fail
     go_loopw [8,47] (fun ov i wr'=>xC w w.heap.size (.slice A0 l.length c0) l ov i wr') (fun _ i _=>l.length-(intOf i).toNat)
     case atStart=>exact⟨0,⟨#[]⟩,Nat.zero_le _,rfl,rfl,rfl,HK.out.2.2.1,HK.out.2.2.2.2.1⟩
     case round=>
      obtain⟨j,out,hj,rfl,rfl,hout,hO,hsm⟩:=hrel;have hoz:out.size≤s.size+1:=by have:=lZ l j;rw [←hout,ag] at this;omega
      have HO:=aa (ab hout (ab hO hsm));clear hout hO hsm;by_cases hlt2:j < l.length
      ·have hget:(l.map aP)[j]?=some (aP l[j]):=by simp [hlt2]
       obtain⟨bb,off,hAe,hbb,r0⟩:=(fR HO.out.2.1) _ _ hget;subst hAe;obtain⟨p,hp⟩:∃ p:ByteArray,p=⟨l[j].toArray⟩:=⟨_,rfl⟩;have htp:af p=l[j]:=by rw [hp];rfl
       rw [show aP l[j]=.string p by rw [hp];rfl] at r0;have hnew:af (out++(⟨#[47]⟩++p))=ed (l.take (j+1)):=by
        rw [iA hlt2,du,du,HO.out.1,htp];rfl
       have hnz:(out++(⟨#[47]⟩++p)).size≤s.size+1:=by have:=lZ l (j+1);rw [←hnew,ag] at this;omega
       have hnz0:=hnz;rw [ByteArray.size_append,ByteArray.size_append] at hnz0;have hone:(⟨#[47]⟩:ByteArray).size=1:=rfl;have hpz:p.size≤s.size:=by omega
       have HN:=aa hnew;have k3:(0:Int)≤(j:Int):=by omega
       have k4:(j:Int) < (l.length:Int):=by omega
       clear hnew hget hp htp hnz hnz0 hone;go_wp2_with fail;exact⟨⟨j+1,_,by omega,by go_num,rfl,HN.out,HO.out.2.1,HO.out.2.2⟩,by simp [intOf];omega⟩
      ·have hout:af out=ed l:=by rw [HO.out.1,List.take_of_length_le (by omega)]
       have HF:=aa hout;clear hout;go_wp2_with fail
       all_goals go_ret2
       all_goals refine⟨?_,HO.out.2.2⟩
       all_goals rw [HE.out]
       all_goals first
        |(refine FM last out l HF.out true ?_;first|(simp [*];done)|(simp only [Bool.or_eq_true];assumption))
        |(refine FM last out l HF.out false ?_;simp [*];done)
  ·have hq:((s[0].toNat:Int) != 47)=true:=by
    have:=dq (c:=s[0]) (n:=47) (by decide) hq0;simp at this ⊢;exact this
   have hR:bt (af s)=none:=iS (by rw [hh];intro e;injection e with e;exact hq0 e);rw [hR];clear hh hR h0 hq0;go_in;go_wp2_with fail;go_ret2;exact⟨rfl,Sm.refl _ _⟩
end Go.Proofs.YtadcjgopaadfjaaGreatDoor
namespace Go.Proofs.YtadcjgopaadfjaaGreatDoor
structure Lt where
 pat:ah
 id:Int
 ms:List ah
def bG(s:ah):Bool:=decide (2≤s.length)&&(s.drop (s.length-2)==[47,42])
def eb(s:ah):Bool × ah:=if bG s then (true,s.dropLast) else (false,s)
def EO(k:Bool × ah):ah:=if k.1 then k.2++[42] else k.2
def cR(s:ah):Bool:=decide (s.length≤200)&&(bt s==some s)&& !bG s
def kq(s:ah):Bool:=if bG s&&decide (s.length≤201) then cR s.dropLast else cR s
def GM(s:ah):Bool:=bt (eb s).2==some (eb s).2&&decide ((eb s).2.length≤200)
theorem gv(s:ah):bG s=true↔∃ q,s=q++[47,42]:=by
 unfold bG;simp only [Bool.and_eq_true,decide_eq_true_eq,beq_iff_eq];constructor
 ·rintro⟨h,e⟩;exact⟨s.take (s.length-2),by rw [←e,List.take_append_drop]⟩
 ·rintro⟨q,rfl⟩;simp
theorem kU{q:ah}:(q++[47,42]:ah).dropLast=q++[47]:=by
 rw [show (q++[47,42]:ah)=(q++[47])++[42] by simp,List.dropLast_concat]
theorem vw(q:ah):bG (q++[47])=false:=by
 rw [Bool.eq_false_iff];intro h;obtain⟨r,hr⟩:=(gv _).1 h;rw [show (r++[47,42]:ah)=(r++[47])++[42] by simp] at hr;have:=(List.append_inj' hr rfl).2;simp at this
theorem nh{s:ah}(h:bG s=true):eb s=(true,s.dropLast):=by simp [eb,h]
theorem kV{s:ah}(h:bG s=false):eb s=(false,s):=by simp [eb,h]
theorem oL(s:ah):EO (eb s)=s:=by
 cases h:bG s
 ·rw [kV h];rfl
 ·obtain⟨q,rfl⟩:=(gv s).1 h;rw [nh h,kU];simp [EO]
theorem CQ{a b:ah}(h:eb a=eb b):a=b:=by rw [←oL a,h,oL]
theorem Dr(s:ah):kq s=GM s:=by
 unfold kq GM cR
 cases h:bG s
 ·rw [kV h];simp [Bool.and_comm]
 ·rw [nh h];obtain⟨q,rfl⟩:=(gv s).1 h;rw [kU,vw];simp only [List.length_append,List.length_cons,List.length_nil];by_cases h1:q.length+2≤201
  ·have h2:q.length+1≤200:=by omega
   simp [h1,h2]
  ·have h2:¬q.length+1≤200:=by omega
   have h3:¬q.length+2≤200:=by omega
   simp [h1,h2,h3]
def bT(ms xs:List ah):Bool:=ms.isEmpty||xs.isEmpty||ms.any (fun m=>xs.contains m)
def gF(L:List Lt)(k:Bool × ah):List Lt:=L.filter (fun x=>eb x.pat==k)
def bW(L:List Lt)(x:Lt):Int:=
 if (kq x.pat&&decide (0≤x.id)&&x.ms.all bo)=true then (if 64≤L.length then 3 else if (gF L (eb x.pat)).any (fun y=>bT x.ms y.ms)=true then 11 else 0) else 1
def fX(L:List Lt)(x:Lt):List Lt:=if bW L x=0 then L++[x] else L
theorem qD(a b:ah):(eb a==eb b)=(a==b):=by
 rw [Bool.eq_iff_iff,beq_iff_eq,beq_iff_eq];exact⟨CQ,fun h=>h ▸ rfl⟩
theorem Dt(L:List Lt)(p:ah):gF L (eb p)=L.filter (fun x=>x.pat==p):=by
 unfold gF;congr 1
 funext x
 exact qD _ _
theorem Dn(L:List Lt)(x:Lt)(k:Bool × ah):gF (L++[x]) k=if eb x.pat=k then gF L k++[x] else gF L k:=by
 unfold gF;rw [List.filter_append];by_cases h:eb x.pat=k<;>simp [h]
theorem xr{L:List Lt}{x:Lt}(h:bW L x=0):kq x.pat=true∧0≤x.id∧x.ms.all bo=true∧L.length < 64∧(gF L (eb x.pat)).any (fun y=>bT x.ms y.ms)=false:=by
 unfold bW at h;split at h
 ·rename_i g
  simp only [Bool.and_eq_true,decide_eq_true_eq] at g;split at h
  ·cases h
  ·split at h
   ·cases h
   ·rename_i g2 g3
    exact⟨g.1.1,g.1.2,g.2,by omega,by simpa using g3⟩
 ·cases h
def FU(L:List Lt)(q:ah):Bool:= !(gF L (true,q)).isEmpty
def gj(L:List Lt)(path:ah):Nat→Option Nat
 |0=>none
 |i+1=>if path[i]?=some 47∧FU L (path.take (i+1))=true then some i else gj L path i
def jt(L:List Lt)(path:ah):Option ((Bool × ah) × ah):=
 if (gF L (false,path)).isEmpty then (gj L path path.length).map (fun i=>((true,path.take (i+1)),path.drop (i+1))) else some ((false,path),[])
def GJ(p path:ah):Bool:=bG p&&(path.take (p.length-1)==p.dropLast)
def tM:List Lt→ah→Option Int
 |[],_=>none
 |x::r,m=>if (x.ms.isEmpty||x.ms.contains m)=true then some x.id else tM r m
def fq(L:List Lt):List ah:=L.flatMap (·.ms)
def lX:ah:=[71,69,84]
def fo:ah:=[72,69,65,68]
def cz(l:List ah):List ah:=if l.contains lX then l++[fo] else l
def dF(l:List ah):List ah:=l.mergeSort leB
def gN(L:List Lt):List ah:=Lib.compact (dF (cz (fq L)))
abbrev F8(l:List ah):Prop:=l.Pairwise (·< ·)
theorem pK(d:Array ah)(hd:d.toList.Pairwise (·≤·)):∀ m,m≤d.size→F8 (Lib.compactUpTo d m)∧(∀ z,z∈Lib.compactUpTo d m↔z∈d.toList.take m):=by
 intro m
 induction m with
 |zero=>intro _;simp [Lib.compactUpTo,F8]
 |succ m ih=>
  intro hm;obtain⟨h1,h2⟩:=ih (by omega);have hlt0:m < d.size:=by omega
  have hlt:m < d.toList.length:=by simpa using hlt0
  have hget:d[m]! =d.toList[m]:=by simp [getElem!_pos d m (by omega)]
  have htk:d.toList.take (m+1)=d.toList.take m++[d.toList[m]]:=List.take_succ_eq_append_getElem hlt;rw [Lib.compactUpTo_succ];by_cases hk:Lib.keeps d m=true
  ·rw [if_pos hk,htk,hget];refine⟨List.pairwise_append.2 ⟨h1,by simp,fun a ha b hb=> ?_⟩,fun z=>by rw [List.mem_append,List.mem_append,h2]⟩;rw [List.mem_singleton] at hb;subst hb;have ha':=(h2 a).1 ha;obtain⟨j,hj⟩:=List.getElem?_of_mem ha';have hjl:j < m:=by
    have:=(List.getElem?_eq_some_iff.1 hj).1;rw [List.length_take] at this;omega
   rw [List.getElem?_take,if_pos hjl] at hj;have hjd:j < d.toList.length:=by omega
   rw [List.getElem?_eq_getElem hjd] at hj;injection hj with hj;have hne:d.toList[m]≠d.toList[m-1]:=by
    unfold Lib.keeps at hk;simp only [decide_eq_true_eq] at hk;rcases hk with hk|hk
    ·omega
    ·rw [hget,show d[m-1]! =d.toList[m-1] by simp [getElem!_pos d (m-1) (by omega)]] at hk;exact hk
   have hp:d.toList[m-1]≤d.toList[m]:=by
    rw [List.pairwise_iff_getElem] at hd;exact hd (m-1) m (by omega) hlt (by omega)
   have hlt2:d.toList[m-1] < d.toList[m]:=by
    rcases List.le_iff_lt_or_eq.1 hp with g|g
    ·exact g
    ·exact absurd g.symm hne
   by_cases e:j=m-1
   ·subst e;rw [←hj];exact hlt2
   ·have hle:d.toList[j]≤d.toList[m-1]:=by
     rw [List.pairwise_iff_getElem] at hd;exact hd j (m-1) hjd (by omega) (by omega)
    rw [←hj];rcases List.le_iff_lt_or_eq.1 hle with g|g
    ·exact List.lt_trans g hlt2
    ·rw [g];exact hlt2
  ·rw [if_neg hk,List.append_nil];refine⟨h1,fun z=> ?_⟩;rw [h2,htk,List.mem_append,List.mem_singleton];unfold Lib.keeps at hk;simp only [decide_eq_true_eq,not_or,Classical.not_not] at hk;obtain⟨k1,k2⟩:=hk;rw [hget,show d[m-1]! =d.toList[m-1] by simp [getElem!_pos d (m-1) (by omega)]] at k2;constructor
   ·intro h;exact Or.inl h
   ·rintro(h|h)
    ·exact h
    ·rw [h,k2];refine List.mem_iff_getElem?.2 ⟨m-1,?_⟩;rw [List.getElem?_take,if_pos (by omega),List.getElem?_eq_getElem]
theorem lD{l:List ah}(h:l.Pairwise (·≤·)):F8 (Lib.compact l)∧∀ z,z∈Lib.compact l↔z∈l:=by
 have:=pK l.toArray (by simpa using h) l.length (by simp);simpa [Lib.compact] using this
theorem sH(l:List ah):(dF l).Pairwise (·≤·):=by
 have tr:∀ a b c:List UInt8,leB a b=true→leB b c=true→leB a c=true:=fun a b c h1 h2=>by simp only [leB,decide_eq_true_eq] at *;exact List.le_trans h1 h2
 have tt:∀ a b:List UInt8,(leB a b||leB b a)=true:=fun a b=>by simp only [leB,Bool.or_eq_true,decide_eq_true_eq];exact List.le_total a b
 exact(List.pairwise_mergeSort tr tt l).imp (fun h=>by simpa [leB] using h)
theorem za(l:List ah)(z:ah):z∈dF l↔z∈l:=(List.mergeSort_perm l leB).mem_iff
def ig(L:List Lt)(m:ah):Option Int:=match tM L m with
 |some i=>some i
 |none=>if m=fo then tM L lX else none
def aW(L:List Lt)(m path:ah):Int × ah × List ah × Int:=
 match jt L path with
 |none=>(0,[],[],404)
 |some (k,rest)=>match ig (gF L k) m with
  |some i=>(i,rest,[],200)
  |none=>(0,[],gN (gF L k),405)
theorem wO(a b:List ah):bT a b=bT b a:=by
 unfold bT;rw [Bool.eq_iff_iff];simp only [Bool.or_eq_true,List.isEmpty_iff,List.any_eq_true,List.contains_iff_mem];constructor
 ·rintro((h|h)|⟨x,h1,h2⟩)
  ·exact Or.inl (Or.inr h)
  ·exact Or.inl (Or.inl h)
  ·exact Or.inr ⟨x,h2,h1⟩
 ·rintro((h|h)|⟨x,h1,h2⟩)
  ·exact Or.inl (Or.inr h)
  ·exact Or.inl (Or.inl h)
  ·exact Or.inr ⟨x,h2,h1⟩
def lG(L:List Lt):Prop:=L.length≤64∧(∀ x∈L,kq x.pat=true∧0≤x.id∧x.ms.all bo=true)∧L.Pairwise (fun x y=>x.pat=y.pat→bT x.ms y.ms=false)
theorem lG.nil:lG []:=⟨by simp,by simp,List.Pairwise.nil⟩
theorem Ad{α:Type}{l:List α}{p:α→Bool}(h:l.any p=false):∀ x∈l,p x=false:=fun x hx=>by
 have:=List.any_eq_false.1 h x hx;simpa using this
theorem lG.add{L:List Lt}{x:Lt}(h:lG L)(hc:bW L x=0):lG (L++[x]):=by
 obtain⟨c1,c2,c3,c4,c5⟩:=xr hc;refine⟨by simp;omega,fun y hy=> ?_,?_⟩
 ·rcases List.mem_append.1 hy with hy|hy
  ·exact h.2.1 y hy
  ·rw [List.mem_singleton] at hy;subst hy;exact⟨c1,c2,c3⟩
 ·refine List.pairwise_append.2 ⟨h.2.2,by simp,fun a ha b hb hab=> ?_⟩;rw [List.mem_singleton] at hb;subst hb;have hs:a∈gF L (eb b.pat):=List.mem_filter.2 ⟨ha,by rw [hab];simp⟩;rw [wO];exact Ad c5 a hs
theorem lG.pre{L M:List Lt}(h:lG (L++M)):lG L:=
 ⟨by have:=h.1;simp at this;omega,fun x hx=>h.2.1 x (by simp [hx]),(List.pairwise_append.1 h.2.2).1⟩
def GI(m:ah)(x:Lt):Bool:=x.ms.isEmpty||x.ms.contains m
end Go.Proofs.YtadcjgopaadfjaaGreatDoor
