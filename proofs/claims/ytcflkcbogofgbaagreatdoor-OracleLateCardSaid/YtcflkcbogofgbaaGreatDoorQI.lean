import Derived.Lib.SplitLaws
import Derived.Lib.IndexBytes
import Derived.Test.YtcflkcbogofgbaaGreatDoorQF
import Derived.Test.YtcflkcbogofgbaaGreatDoorQO
import Derived.WalkSmall
import Derived.Lib.SlicesCompact
import Derived.Sort.KeysCollected
set_option maxHeartbeats 8000000
set_option maxRecDepth 100000
namespace Go.Proofs.YtcflkcbogofgbaaGreatDoor
abbrev af:=List UInt8
def bV(d:UInt8):af→af→List af
 |_,[]=>[]
 |cur,c::l=>if c=d then cur::bV d [] l else bV d (cur++[c]) l
def cc(d:UInt8)(v:af):List af:=bV d [] (v++[d])
theorem qN(d:UInt8)(cur x y:af):bV d cur (x++d::y)=bV d cur (x++[d])++bV d [] y:=by
 induction x generalizing cur with
 |nil=>simp [bV]
 |cons c x ih=>
  simp only [List.cons_append,bV];split
  ·rw [ih];rfl
  ·exact ih _
theorem nu(d:UInt8)(cur x:af)(h:∀ c∈x,c≠d):bV d cur (x++[d])=[cur++x]:=by
 induction x generalizing cur with
 |nil=>simp [bV]
 |cons c x ih=>
  rw [List.cons_append,bV,if_neg (h c (by simp)),ih _ (fun e he=>h e (by simp [he]))];simp
theorem Bt(d:UInt8)(cur x y:af)(h:∀ c∈x,c≠d):bV d cur (x++d::y)=(cur++x)::bV d [] y:=by
 rw [qN,nu _ _ _ h];rfl
theorem yU(d:UInt8)(cur l:af):((bV d cur l).map (·.length+1)).sum≤cur.length+l.length:=by
 induction l generalizing cur with
 |nil=>simp [bV]
 |cons c l ih=>
  rw [bV];split
  ·have:=ih [];simp at this ⊢;omega
  ·have:=ih (cur++[c]);simp at this ⊢;omega
theorem Do{d:UInt8}{l:af}{i:Nat}(h:∀ j,j < i→l[j]?≠some d):∀ c∈l.take i,c≠d:=by
 intro c hc e;subst e;obtain⟨j,hj⟩:=List.getElem?_of_mem hc;have hlt:j < i:=by
  have:=(List.getElem?_eq_some_iff.1 hj).1;rw [List.length_take] at this;omega
 rw [List.getElem?_take,if_pos hlt] at hj;exact h j hlt hj
theorem mI(d:UInt8):∀ (k:Nat) (s:af),Lib.count s [d]=k→Lib.splitK [d] 0 k s=cc d s
 |0,s,h=>by
  rw [Lib.splitK];have:Lib.index s [d]= -1:=by
   rcases bM s d with g|⟨i,g⟩
   ·rw [Lib.index_one];exact g
   ·have:=Lib.count_hit (s:=s) (sub:=[d]) (i:=i) (by simp) (by rw [Lib.index_one];exact g);omega
  rw [Lib.index_one] at this;unfold cc;rw [nu d [] s (fun c hc e=>by
   subst e;obtain⟨j,hj⟩:=List.getElem?_of_mem hc;exact Lib.indexByte_none this j hj)]
  rfl
 |k+1,s,h=>by
  rw [Lib.splitK];rcases bM s d with g|⟨i,g⟩
  ·have:=Lib.count_miss (s:=s) (sub:=[d]) (by rw [Lib.index_one];exact g);omega
  ·have hi:=kI s d i g;have hix:Lib.index s [d]=i:=by rw [Lib.index_one];exact g
   have hc:=Lib.count_hit (s:=s) (sub:=[d]) (i:=i) (by simp) hix;have e0:([d]:af).length=1:=rfl;rw [e0] at hc;obtain⟨g1,g2⟩:=Lib.indexByte_some g;rw [hix,if_neg (by simp)];have e1:((i:Int)).toNat=i:=by omega
   rw [e1,e0,Nat.add_zero,mI d k (s.drop (i+1)) (by omega)];have hs:s=s.take i++d::s.drop (i+1):=by
    have h1:s[i]?=some d:=g1;rw [List.getElem?_eq_getElem hi] at h1;injection h1 with h1;rw [←h1,List.getElem_cons_drop hi,List.take_append_drop]
   conv=>rhs;rw [hs]
   unfold cc;rw [List.append_assoc,List.cons_append,Bt _ _ _ _ (Do g2)];rfl
theorem pd(d:UInt8)(s:ByteArray):(Lib.splitB ⟨#[d]⟩ 0 (Lib.countB s ⟨#[d]⟩) s).map (·.data.toList)=cc d s.data.toList:=by
 rw [Lib.splitB_data];exact mI d _ _ rfl
def fR:Option (List af)→af→Option (List af)
 |none,_=>none
 |some l,p=>if p=[]∨p=[46] then some l else if p=[46,46] then (if l=[] then none else some l.dropLast) else some (l++[p])
def dP(st:Option (List af))(ps:List af):Option (List af):=ps.foldl fR st
def eN:List af→af
 |[]=>[]
 |p::r=>47::(p++eN r)
def oP(last out:af):af:=if last=[]∨last=[46]∨last=[46,46]∨out=[] then out++[47] else out
def bG(s:af):Option af:=if s.head?=some 47 then (dP (some []) (cc 47 s)).map (fun l=>oP ((cc 47 s).getLastD []) (eN l)) else none
theorem kh(ps:List af):dP none ps=none:=by
 induction ps with
 |nil=>rfl
 |cons p ps ih=>exact ih
theorem il(st:Option (List af))(p:af)(ps:List af):dP st (p::ps)=dP (fR st p) ps:=rfl
theorem fP(l:List af)(p:af)(h:p=[]∨p=[46]):fR (some l) p=some l:=by simp only [fR,if_pos h]
theorem pS:fR (some []) [46,46]=none:=by simp [fR]
theorem sx(l:List af)(h:l≠[]):fR (some l) [46,46]=some l.dropLast:=by simp [fR,h]
theorem oN(l:List af)(p:af)(h1:p≠[])(h2:p≠[46])(h3:p≠[46,46]):fR (some l) p=some (l++[p]):=by
 simp [fR,h1,h2,h3]
theorem tI(a b:List af):eN (a++b)=eN a++eN b:=by
 induction a with
 |nil=>rfl
 |cons p a ih=>simp [eN,ih]
theorem jm{l:List af}{k:Nat}(h:k < l.length):eN (l.take (k+1))=eN (l.take k)++47::l[k]:=by
 rw [List.take_succ_eq_append_getElem h,tI];simp [eN]
theorem uT(l:List af):(eN l).length=(l.map (·.length+1)).sum:=by
 induction l with
 |nil=>rfl
 |cons p l ih=>simp [eN,ih];omega
theorem re(l:List af):((l.dropLast).map (·.length+1)).sum≤(l.map (·.length+1)).sum:=by
 rcases List.eq_nil_or_concat l with rfl|⟨r,a,rfl⟩
 ·simp
 ·simp
theorem uc(r:af):cc 47 (47::r)=[]::cc 47 r:=by
 unfold cc;rw [List.cons_append,bV,if_pos rfl]
theorem rl(r:af):bG (47::r)=(dP (some []) (cc 47 r)).map (fun l=>oP ((cc 47 r).getLastD []) (eN l)):=by
 unfold bG;rw [if_pos (show (47::r).head?=some 47 from rfl),uc,il,fP _ _ (Or.inl rfl)];simp only [List.getLastD_cons]
theorem jv{s:af}(h:s.head?≠some 47):bG s=none:=by
 unfold bG;rw [if_neg h]
end Go.Proofs.YtcflkcbogofgbaaGreatDoor
namespace Go.Proofs.YtcflkcbogofgbaaGreatDoor
open Go.RowKit Go.Proofs
def ab(s:ByteArray):af:=s.data.toList
def gj(l:af):Value:=.string ⟨l.toArray⟩
def dV:Option af→Value
 |some r=>.tuple #[gj r,.bool true]
 |none=>.tuple #[.string ⟨#[]⟩,.bool false]
theorem tV(s:ByteArray)(hs:s.size≤1000000)(w:World)(hg:G0 w):
 Calls Tryz.prog 141 #[.string s,.string ⟨#[47]⟩] w fun e w'=>∃ ps:List ByteArray,aj ps=cc 47 (ab s)∧e=.returned (.slice (some ⟨w.heap.size,0,none⟩) ps.length ps.length)∧
  fD w' (some ⟨w.heap.size,0,none⟩) ps∧Sm No w w'∧w.heap.size < w'.heap.size:=by
 obtain⟨m,hm⟩:=hg;refine(Tryz.strings_Split s ⟨#[47]⟩ m w (by omega) hm (by decide)).mono fun e w' ⟨he,hw⟩=> ?_;have hlen:=Lib.splitB_all ⟨#[47]⟩ (by decide) 0 _ s rfl;refine⟨_,pd 47 s,?_,?_,?_,by rw [hw];simp⟩
 ·rw [hlen];exact he
 ·intro k hk;subst hw;have hb:=Bk.new w 9 ((Lib.splitB ⟨#[47]⟩ 0 (Lib.countB s ⟨#[47]⟩) s).map Value.string).toArray;exact⟨w.heap.size,0,rfl,hb.lt,by rw [Nat.zero_add];exact hb.at k (by simp [hk])⟩
 ·rw [hw];exact(Sm.refl No w).alloc _
theorem vh{ps:List ByteArray}{k:Nat}(h:k < ps.length):aj (ps.drop k)=ab ps[k]::aj (ps.drop (k+1)):=by
 unfold aj;rw [List.drop_eq_getElem_cons h];rfl
theorem AM{ps:List ByteArray}{k:Nat}(h:¬k < ps.length):aj (ps.drop k)=[]:=by
 unfold aj;rw [List.drop_eq_nil_of_le (by omega)];rfl
def wt(l:List af):Nat:=(l.map (·.length+1)).sum
theorem qW(p:af)(l:List af):wt (p::l)=p.length+1+wt l:=by simp [wt]
theorem rN(l:List af)(p:af):wt (l++[p])=wt l+(p.length+1):=by simp [wt]
theorem qR(l:List af):wt l.dropLast≤wt l:=re l
theorem mZ(l:List af):l.length≤wt l:=by
 induction l with
 |nil=>simp
 |cons p l ih=>rw [qW];simp;omega
theorem xR(s:af):wt (cc 47 s)≤s.length+1:=by
 have:=yU 47 [] (s++[47]);simpa [wt,cc] using this
def D7(w:World)(gp n:Nat)(T:Option (List af) × af)(ps:List ByteArray)(v lv i:Value)(wr:World):Prop:=
 ∃ (k:Nat) (l:List af) (last:ByteArray),k≤ps.length∧i=.int .i64 k∧lv=.string last∧T=(dP (some l) (aj (ps.drop k)),(aj (ps.drop k)).getLastD (ab last))∧wt l+wt (aj (ps.drop k))≤n∧
   bo wr w.heap.size v l∧fD wr (some ⟨gp,0,none⟩) ps∧Sm No w wr∧v.ownBlock≠some gp∧gp < wr.heap.size∧last.size≤n
theorem bo.pop{w:World}{B:Nat}{v:Value}{l:List af}(h:bo w B v l)(hl:l≠[]):∃ g cap,v=.slice (some ⟨g,0,none⟩) l.length cap∧l.length≤cap∧bo w B (.slice (some ⟨g,0,none⟩) (l.length-1) cap) l.dropLast:=by
 rcases aR h with ⟨_,h0,_⟩|⟨g,cap,rfl,_,_,_,hc,_⟩
 ·exact absurd (List.eq_nil_of_length_eq_zero h0) hl
 ·refine⟨g,cap,rfl,hc,?_⟩;obtain⟨a,x,rfl⟩:∃ a x,l=a++[x]:=⟨l.dropLast,l.getLast hl,(List.dropLast_concat_getLast hl).symm⟩;rw [List.dropLast_concat];unfold bo at h ⊢;rw [List.map_append,List.length_append] at h;simp only [List.length_singleton,List.map_cons,List.map_nil,List.length_append] at h ⊢;rw [Nat.add_sub_cancel];exact ownsRow_pop (by simp) h
theorem fB(p:ByteArray)(l:af):p.toList=l↔ab p=l:=by rw [Go.ByteArray.toList_eq];rfl
theorem cO(p:ByteArray):p.toList.isEmpty=decide (ab p=[]):=by rw [Go.ByteArray.toList_eq];unfold ab;cases p.data.toList<;>simp
theorem dQ(p:ByteArray)(l:af):(p.toList==l)=decide (ab p=l):=by rw [Go.ByteArray.toList_eq];unfold ab;by_cases h:p.data.toList=l<;>simp [h]
theorem dT(a b:ByteArray):ab (a++b)=ab a++ab b:=by simp [ab]
theorem ae(a:ByteArray):(ab a).length=a.size:=by simp [ab]
theorem uY(s:ByteArray)(h:0 < s.size):(ab s).head?=some s[0]:=by
 have e0:(ab s)[0]?=some s[0]:=by
  unfold ab;rw [List.getElem?_eq_getElem (by simpa using h)];simp [ByteArray.getElem_eq_getElem_data]
 rw [←e0,List.head?_eq_getElem?]
theorem kt(a:ByteArray):gj (ab a)=.string a:=by unfold gj ab;simp
theorem gw{w:World}{B size n c:Nat}{t:TypeId}{A:Option Addr}{xs:List Value}(h:w.ownsRow B t size (.slice A n c) n xs):ar w A xs:=by
 obtain⟨A',c',e,h2,_⟩:=ak h;injection e with e1 _ _;rw [e1];exact h2
theorem GT(last out:ByteArray)(l:List af)(hout:ab out=eN l)(b:Bool)(hb:(last.toList.isEmpty||(last.toList==[46])||(last.toList==[46,46])||out.toList.isEmpty)=b):
 Ending.returned (.tuple #[.string (if b=true then out++⟨#[47]⟩ else out),.bool true])=.returned (dV (some (oP (ab last) (eN l)))):=by
 rw [cO,cO,dQ,dQ] at hb;unfold oP;rw [←hout]
 cases b
 ·rw [if_neg (by simp),if_neg (by simpa [not_or,and_assoc] using hb)];show _=Ending.returned (.tuple #[gj (ab out),.bool true]);rw [kt]
 ·have hb':ab last=[]∨ab last=[46]∨ab last=[46,46]∨ab out=[]:=by simpa [or_assoc] using hb
  have e:ab (out++⟨#[47]⟩)=ab out++[47]:=dT _ _;rw [if_pos rfl,if_pos hb',←e];show _=Ending.returned (.tuple #[gj (ab (out++⟨#[47]⟩)),.bool true]);rw [kt]
def yk(w:World)(B:Nat)(v:Value)(l:List af)(ov i:Value)(wr:World):Prop:=
 ∃ (j:Nat) (out:ByteArray),j≤l.length∧i=.int .i64 j∧ov=.string out∧ab out=eN (l.take j)∧bo wr B v l∧Sm No w wr
theorem mV(l:List af)(j:Nat):(eN (l.take j)).length≤wt l:=by
 rw [uT];show wt (l.take j)≤wt l;have:wt l=wt (l.take j)+wt (l.drop j):=by
  conv=>lhs;rw [←List.take_append_drop j l]
  simp only [wt,List.map_append,List.sum_append]
 omega
theorem ud{s:af}(h:dP (some []) (cc 47 s)=none):bG s=none:=by
 unfold bG;split
 ·rw [h];rfl
 ·rfl
theorem uW{s:af}{l:List af}{last:af}(h0:s.head?=some 47)(h:(dP (some []) (cc 47 s),(cc 47 s).getLastD [])=(some l,last)):bG s=some (oP last (eN l)):=by
 unfold bG;rw [if_pos h0,(Prod.mk.inj h).1,(Prod.mk.inj h).2];rfl
theorem lK(s:ByteArray)(hs:s.size≤900000)(w:World)(hg:G0 w):
 Calls Tryz.prog 98 #[.string s] w fun e w'=>e=.returned (dV (bG (ab s)))∧Sm No w w':=by
 by_cases h0:s.size=0
 ·have hn:ab s=[]:=List.eq_nil_of_length_eq_zero (by rw [ae];exact h0);have hR:bG (ab s)=none:=jv (by rw [hn];simp);rw [hR];have h1:s.toList.isEmpty=true:=by rw [cO,hn];rfl
  clear hn h0 hR;go_in;go_wp2_with fail;go_ret2;exact⟨rfl,Sm.refl _ _⟩
 ·have h2:0 < s.size:=by omega
  have h1:s.toList.isEmpty=false:=by rw [cO,decide_eq_false_iff_not];intro e;have:=ae s;rw [e] at this;simp at this;omega
  have hh:=uY s h2;by_cases hq0:s[0]=47
  ·have hq:((s[0].toNat:Int) != 47)=false:=by simp [hq0]
   rw [hq0] at hh;obtain⟨R,hR⟩:=Iu (bG (ab s));rw [hR];have HG:=ns (BT hh (BT hR hg));clear hh hR hg h0 hq0;go_in;go_wp2_with fail;refine(tV s (by omega) _ HG.out.2.2).mono ?_;rintro e w1 ⟨ps,hps,rfl,hSR,hs1,hgp⟩;have hT0:(dP (some []) (cc 47 (ab s)),(cc 47 (ab s)).getLastD [])=(dP (some []) (aj (ps.drop 0)),(aj (ps.drop 0)).getLastD (ab ⟨#[]⟩)):=by rw [List.drop_zero,hps];rfl
   have hW:wt (aj (ps.drop 0))≤s.size+1:=by rw [List.drop_zero,hps,←ae];exact xR _
   have hpl:ps.length≤s.size+1:=by
    have:=mZ (aj (ps.drop 0));rw [List.drop_zero] at this hW;have e:(aj ps).length=ps.length:=by simp [aj]
    omega
   have HP:=ns (BT hT0 (BT hW (BT hSR (BT hs1 hgp))));clear hps hT0 hW hSR hs1 hgp;go_wp2_with fail
   go_loopw [4,5,21] (fun v lv i wr=>D7 w w.heap.size (s.size+1) (dP (some []) (cc 47 (ab s)),(cc 47 (ab s)).getLastD []) ps v lv i wr) (fun _ _ i _=>ps.length-(intOf i).toNat)
   case atStart=>exact⟨0,[],⟨#[]⟩,Nat.zero_le _,rfl,rfl,HP.out.1,by simpa [wt] using HP.out.2.1,World.ownsRow_nil _ _ _ 1,HP.out.2.2.1,HP.out.2.2.2.1,by simp [Value.ownBlock],HP.out.2.2.2.2,Nat.zero_le _⟩
   case round=>
    obtain⟨k,l,last,hk,rfl,rfl,hT,hW,hO,hSR,hsm,hgp,hgl,hll⟩:=hrel;obtain⟨A0,c0,rfl,hrow,_,hnc⟩:=ak hO;have HK:=ns (BT hT (BT hW (BT hO (BT hSR (BT hsm (BT hgp (BT hgl hrow)))))));clear hT hW hO hSR hsm hgp hgl hrow;by_cases hlt:k < ps.length
    ·obtain⟨b2,o2,hA2,hb2,r2⟩:=HK.out.2.2.2.1 k hlt;injection hA2 with hA2;injection hA2 with hA3 hA4;subst hA3 hA4;have hat:=vh hlt;obtain⟨p,hp⟩:∃ s,ps[k]=s:=⟨_,rfl⟩;rw [hp] at r2 hat;rw [Nat.zero_add] at r2;have k3:(0:Int)≤(k:Int):=by omega
     have k4:(k:Int) < (ps.length:Int):=by omega
     have hT:(dP (some []) (cc 47 (ab s)),(cc 47 (ab s)).getLastD [])=(dP (fR (some l) (ab p)) (aj (ps.drop (k+1))),(aj (ps.drop (k+1))).getLastD (ab p)):=by rw [HK.out.1,hat,il,List.getLastD_cons]
     have hW:wt l+(p.size+1)+wt (aj (ps.drop (k+1)))≤s.size+1:=by have:=HK.out.2.1;rw [hat,qW,ae] at this;omega
     have HX:=ns (BT hT hW);have hpz:p.size≤s.size+1:=by omega
     have hlm:l.length≤s.size+1:=by have:=mZ l;omega
     clear hp hat hT hW;have e1:p.toList.isEmpty=decide (ab p=[]):=cO p;have e2:(p.toList==[46])=decide (ab p=[46]):=dQ p _;have e3:(p.toList==[46,46])=decide (ab p=[46,46]):=dQ p _;by_cases c1:ab p=[]
     ·have hT:=HX.out.1;rw [fP _ _ (Or.inl c1)] at hT;have HT:=ns hT;rw [c1] at e1;have e1':p.toList.isEmpty=true:=e1;clear hT e1 e2 e3 c1;go_wp2_with fail;exact⟨⟨k+1,l,p,by omega,by go_num,rfl,HT.out,by have:=HX.out.2;omega,HK.out.2.2.1,HK.out.2.2.2.1,HK.out.2.2.2.2.1,HK.out.2.2.2.2.2.1,HK.out.2.2.2.2.2.2.1,hpz⟩,by simp [intOf];omega⟩
     ·have e1':p.toList.isEmpty=false:=by rw [e1,decide_eq_false_iff_not];exact c1
      by_cases c2:ab p=[46]
      ·have hT:=HX.out.1;rw [fP _ _ (Or.inr c2)] at hT;have HT:=ns hT;have e2':(p.toList==[46])=true:=by rw [e2,c2];rfl
       clear hT e1 e2 e3 c1 c2;go_wp2_with fail;exact⟨⟨k+1,l,p,by omega,by go_num,rfl,HT.out,by have:=HX.out.2;omega,HK.out.2.2.1,HK.out.2.2.2.1,HK.out.2.2.2.2.1,HK.out.2.2.2.2.2.1,HK.out.2.2.2.2.2.2.1,hpz⟩,by simp [intOf];omega⟩
      ·have e2':(p.toList==[46])=false:=by rw [e2,decide_eq_false_iff_not];exact c2
       by_cases c3:ab p=[46,46]
       ·have e3':(p.toList==[46,46])=true:=by rw [e3,c3];rfl
        by_cases c4:l=[]
        ·subst c4;have hT:=HX.out.1;rw [c3,pS,kh] at hT;have hR:R=none:=by rw [←HG.out.2.1];exact ud (Prod.mk.inj hT).1
         subst hR;clear hT e1 e2 e3 c1 c2 c3;go_wp2_with fail;go_ret2;exact⟨rfl,HK.out.2.2.2.2.1⟩
        ·have hT:=HX.out.1;rw [show fR (some l) (ab p)=some l.dropLast by rw [c3];exact sx _ c4] at hT;obtain⟨g,cap,hv,hcap,hpop⟩:=HK.out.2.2.1.pop c4;injection hv with hv1 hv2 hv3;subst hv1 hv3;have hl1:0 < l.length:=List.length_pos_iff.2 c4;have HT:=ns (BT hT hpop);have e4:((l.length:Int)==0)=false:=by simp;exact c4
         have e5:(((l.length-1:Nat):Int))=(l.length:Int)-1:=by omega
         clear hT e1 e2 e3 c1 c2 c3 hpop c4;go_wp2_with fail;exact⟨⟨k+1,l.dropLast,p,by omega,by go_num,rfl,HT.out.1,by have:=HX.out.2;have:=qR l;omega,(by simpa using HT.out.2),HK.out.2.2.2.1,HK.out.2.2.2.2.1,HK.out.2.2.2.2.2.1,HK.out.2.2.2.2.2.2.1,hpz⟩,by simp [intOf];omega⟩
       ·have e3':(p.toList==[46,46])=false:=by rw [e3,decide_eq_false_iff_not];exact c3
        have hT:=HX.out.1;rw [oN _ _ c1 c2 c3] at hT;have HT:=ns hT;clear hT e1 e2 e3 c1 c2 c3;go_wp2_with (refine aq rfl _ _ 125 9 rfl Tryz.underlying125 _ 1 16 dR rfl (by decide) (by decide) w.heap.size _ _ _ rfl (World.ownsRow.alloc HK.out.2.2.1 _) wr.heap.size #[.string p] rfl (Bk.new wr _ _) rfl (by simp [Value.oneCell']) (by omega) (by have:=HK.out.2.2.2.2.1.size;simp;omega) ?_;intro v' w5 hown5 hs5 hv5);have hO5:bo w5 w.heap.size v' (l++[ab p]):=by
         refine bo.push ?_;rw [show aX (ab p)=.string p from kt p];exact hown5
        have hS5:Sm No w w5:=(HK.out.2.2.2.2.1.alloc (.cells #[.string p] 9)).trans hs5 (fun b hb e=>by
         have:=(World.ownsRow.lt HK.out.2.2.1 b e).1;omega)
        have hR5:fD w5 (some ⟨w.heap.size,0,none⟩) ps:=(HK.out.2.2.2.1.no ((Sm.refl No wr).alloc (.cells #[.string p] 9))).sm hs5 (fun a ha e=>by
         injection ha with ha;rw [←ha] at e;exact HK.out.2.2.2.2.2.1 e)
        have hN5:v'.ownBlock≠some w.heap.size:=fun e=>by
         rcases hv5 with g|g
         ·exact HK.out.2.2.2.2.2.1 (g ▸ e)
         ·rw [g] at e;injection e with e;have:=HK.out.2.2.2.2.2.2.1;simp at e;omega
        have hG5:w.heap.size < w5.heap.size:=by have:=HK.out.2.2.2.2.2.2.1;have:=hs5.size;simp at this;omega
        have H5:=ns (BT hO5 (BT hR5 (BT hS5 (BT hN5 hG5))));clear hO5 hS5 hown5 hs5 hv5 hR5 hN5 hG5;go_wp2_with fail;exact⟨⟨k+1,l++[ab p],p,by omega,by go_num,rfl,HT.out,by have:=HX.out.2;rw [rN,ae];omega,H5.out.1,H5.out.2.1,H5.out.2.2.1,H5.out.2.2.2.1,H5.out.2.2.2.2,hpz⟩,by simp [intOf];omega⟩
    ·have hT:=HK.out.1;rw [AM hlt] at hT;have hR:R=some (oP (ab last) (eN l)):=by rw [←HG.out.2.1];exact uW HG.out.1 hT
     have hwl:wt l≤s.size+1:=by have:=HK.out.2.1;omega
     have hlm:l.length≤s.size+1:=by have:=mZ l;omega
     have HE:=ns hR;clear hR hT;go_wp2_with fail
     go_loopw [8,47] (fun ov i wr'=>yk w w.heap.size (.slice A0 l.length c0) l ov i wr') (fun _ i _=>l.length-(intOf i).toNat)
     case atStart=>exact⟨0,⟨#[]⟩,Nat.zero_le _,rfl,rfl,rfl,HK.out.2.2.1,HK.out.2.2.2.2.1⟩
     case round=>
      obtain⟨j,out,hj,rfl,rfl,hout,hO,hsm⟩:=hrel;have hoz:out.size≤s.size+1:=by have:=mV l j;rw [←hout,ae] at this;omega
      have HO:=ns (BT hout (BT hO hsm));clear hout hO hsm;by_cases hlt2:j < l.length
      ·have hget:(l.map aX)[j]?=some (aX l[j]):=by simp [hlt2]
       obtain⟨bb,off,hAe,hbb,r0⟩:=(gw HO.out.2.1) _ _ hget;subst hAe;obtain⟨p,hp⟩:∃ p:ByteArray,p=⟨l[j].toArray⟩:=⟨_,rfl⟩;have htp:ab p=l[j]:=by rw [hp];rfl
       rw [show aX l[j]=.string p by rw [hp];rfl] at r0;have hnew:ab (out++(⟨#[47]⟩++p))=eN (l.take (j+1)):=by
        rw [jm hlt2,dT,dT,HO.out.1,htp];rfl
       have hnz:(out++(⟨#[47]⟩++p)).size≤s.size+1:=by have:=mV l (j+1);rw [←hnew,ae] at this;omega
       have hnz0:=hnz;rw [ByteArray.size_append,ByteArray.size_append] at hnz0;have hone:(⟨#[47]⟩:ByteArray).size=1:=rfl;have hpz:p.size≤s.size:=by omega
       have HN:=ns hnew;have k3:(0:Int)≤(j:Int):=by omega
       have k4:(j:Int) < (l.length:Int):=by omega
       clear hnew hget hp htp hnz hnz0 hone;go_wp2_with fail;exact⟨⟨j+1,_,by omega,by go_num,rfl,HN.out,HO.out.2.1,HO.out.2.2⟩,by simp [intOf];omega⟩
      ·have hout:ab out=eN l:=by rw [HO.out.1,List.take_of_length_le (by omega)]
       have HF:=ns hout;clear hout;go_wp2_with fail
       all_goals go_ret2
       all_goals refine⟨?_,HO.out.2.2⟩
       all_goals rw [HE.out]
       all_goals first
        |(refine GT last out l HF.out true ?_;first|(simp [*];done)|(simp only [Bool.or_eq_true];assumption))
        |(refine GT last out l HF.out false ?_;simp [*];done)
  ·have hq:((s[0].toNat:Int) != 47)=true:=by
    have:=aK (c:=s[0]) (n:=47) (by decide) hq0;simp at this ⊢;exact this
   have hR:bG (ab s)=none:=jv (by rw [hh];intro e;injection e with e;exact hq0 e);rw [hR];clear hh hR h0 hq0;go_in;go_wp2_with fail;go_ret2;exact⟨rfl,Sm.refl _ _⟩
end Go.Proofs.YtcflkcbogofgbaaGreatDoor
namespace Go.Proofs.YtcflkcbogofgbaaGreatDoor
structure Lt where
 pat:af
 id:Int
 ms:List af
def cS(s:af):Bool:=decide (2≤s.length)&&(s.drop (s.length-2)==[47,42])
def eX(s:af):Bool × af:=if cS s then (true,s.dropLast) else (false,s)
def F6(k:Bool × af):af:=if k.1 then k.2++[42] else k.2
def kd(s:af):Bool:=decide (s.length≤200)&&(bG s==some s)&& !cS s
def rS(s:af):Bool:=if cS s&&decide (s.length≤201) then kd s.dropLast else kd s
def IC(s:af):Bool:=bG (eX s).2==some (eX s).2&&decide ((eX s).2.length≤200)
theorem jl(s:af):cS s=true↔∃ q,s=q++[47,42]:=by
 unfold cS;simp only [Bool.and_eq_true,decide_eq_true_eq,beq_iff_eq];constructor
 ·rintro⟨h,e⟩;exact⟨s.take (s.length-2),by rw [←e,List.take_append_drop]⟩
 ·rintro⟨q,rfl⟩;simp
theorem lR{q:af}:(q++[47,42]:af).dropLast=q++[47]:=by
 rw [show (q++[47,42]:af)=(q++[47])++[42] by simp,List.dropLast_concat]
theorem we(q:af):cS (q++[47])=false:=by
 rw [Bool.eq_false_iff];intro h;obtain⟨r,hr⟩:=(jl _).1 h;rw [show (r++[47,42]:af)=(r++[47])++[42] by simp] at hr;have:=(List.append_inj' hr rfl).2;simp at this
theorem pp{s:af}(h:cS s=true):eX s=(true,s.dropLast):=by simp [eX,h]
theorem lW{s:af}(h:cS s=false):eX s=(false,s):=by simp [eX,h]
theorem qn(s:af):F6 (eX s)=s:=by
 cases h:cS s
 ·rw [lW h];rfl
 ·obtain⟨q,rfl⟩:=(jl s).1 h;rw [pp h,lR];simp [F6]
theorem CT{a b:af}(h:eX a=eX b):a=b:=by rw [←qn a,h,qn]
theorem FJ(s:af):rS s=IC s:=by
 unfold rS IC kd
 cases h:cS s
 ·rw [lW h];simp [Bool.and_comm]
 ·rw [pp h];obtain⟨q,rfl⟩:=(jl s).1 h;rw [lR,we];simp only [List.length_append,List.length_cons,List.length_nil];by_cases h1:q.length+2≤201
  ·have h2:q.length+1≤200:=by omega
   simp [h1,h2]
  ·have h2:¬q.length+1≤200:=by omega
   have h3:¬q.length+2≤200:=by omega
   simp [h1,h2,h3]
def ed(ms xs:List af):Bool:=ms.isEmpty||xs.isEmpty||ms.any (fun m=>xs.contains m)
def iN(L:List Lt)(k:Bool × af):List Lt:=L.filter (fun x=>eX x.pat==k)
def ef(L:List Lt)(x:Lt):Int:=
 if (rS x.pat&&decide (0≤x.id)&&x.ms.all bP)=true then (if 64≤L.length then 3 else if (iN L (eX x.pat)).any (fun y=>ed x.ms y.ms)=true then 11 else 0) else 1
def iJ(L:List Lt)(x:Lt):List Lt:=if ef L x=0 then L++[x] else L
theorem xS(a b:af):(eX a==eX b)=(a==b):=by
 rw [Bool.eq_iff_iff,beq_iff_eq,beq_iff_eq];exact⟨CT,fun h=>h ▸ rfl⟩
theorem Fx(L:List Lt)(x:Lt)(k:Bool × af):iN (L++[x]) k=if eX x.pat=k then iN L k++[x] else iN L k:=by
 unfold iN;rw [List.filter_append];by_cases h:eX x.pat=k<;>simp [h]
theorem xW{L:List Lt}{x:Lt}(h:ef L x=0):rS x.pat=true∧0≤x.id∧x.ms.all bP=true∧L.length < 64∧(iN L (eX x.pat)).any (fun y=>ed x.ms y.ms)=false:=by
 unfold ef at h;split at h
 ·rename_i g
  simp only [Bool.and_eq_true,decide_eq_true_eq] at g;split at h
  ·cases h
  ·split at h
   ·cases h
   ·rename_i g2 g3
    exact⟨g.1.1,g.1.2,g.2,by omega,by simpa using g3⟩
 ·cases h
def GY(L:List Lt)(q:af):Bool:= !(iN L (true,q)).isEmpty
def gZ(L:List Lt)(path:af):Nat→Option Nat
 |0=>none
 |i+1=>if path[i]?=some 47∧GY L (path.take (i+1))=true then some i else gZ L path i
def jO(L:List Lt)(path:af):Option ((Bool × af) × af):=
 if (iN L (false,path)).isEmpty then (gZ L path path.length).map (fun i=>((true,path.take (i+1)),path.drop (i+1))) else some ((false,path),[])
def IQ(p path:af):Bool:=cS p&&(path.take (p.length-1)==p.dropLast)
def uU:List Lt→af→Option Int
 |[],_=>none
 |x::r,m=>if (x.ms.isEmpty||x.ms.contains m)=true then some x.id else uU r m
def fI(L:List Lt):List af:=L.flatMap (·.ms)
def na:af:=[71,69,84]
def fW:af:=[72,69,65,68]
def cJ(l:List af):List af:=if l.contains na then l++[fW] else l
def eb(l:List af):List af:=l.mergeSort leB
def ib(L:List Lt):List af:=Lib.compact (eb (cJ (fI L)))
abbrev Hy(l:List af):Prop:=l.Pairwise (·< ·)
theorem rD(d:Array af)(hd:d.toList.Pairwise (·≤·)):∀ m,m≤d.size→Hy (Lib.compactUpTo d m)∧(∀ z,z∈Lib.compactUpTo d m↔z∈d.toList.take m):=by
 intro m
 induction m with
 |zero=>intro _;simp [Lib.compactUpTo,Hy]
 |succ m ih=>
  intro hm;obtain⟨h1,h2⟩:=ih (by omega);have hlt0:m < d.size:=by omega
  have hlt:m < d.toList.length:=by simpa using hlt0
  have hget:d[m]! =d.toList[m]:=by simp [getElem!_pos d m (by omega)]
  have htk:d.toList.take (m+1)=d.toList.take m++[d.toList[m]]:=List.take_succ_eq_append_getElem hlt;rw [Lib.compactUpTo_succ];by_cases hk:Lib.keeps d m=true
  ·rw [if_pos hk,htk,hget];refine⟨List.pairwise_append.2 ⟨h1,by simp,fun a ha b hb=> ?_⟩,fun z=>by rw [List.mem_append,List.mem_append,h2]⟩;rw [List.mem_singleton] at hb;subst hb;have ha':=(h2 a).1 ha;obtain⟨j,hj⟩:=List.getElem?_of_mem ha';have hjl:j < m:=by
    have:=(List.getElem?_eq_some_iff.1 hj).1;rw [List.length_take] at this;omega
   rw [List.getElem?_take,if_pos hjl] at hj;have hjd:j < d.toList.length:=by omega
   rw [List.getElem?_eq_getElem hjd] at hj;injection hj with hj;have hne:d.toList[m]≠d.toList[m-1]:=by
    unfold Lib.keeps at hk;simp only [decide_eq_true_eq] at hk;rcases hk with hk|hk
    ·omega
    ·rw [hget,show d[m-1]! =d.toList[m-1] by simp [getElem!_pos d (m-1) (by omega)]] at hk;exact hk
   have hp:d.toList[m-1]≤d.toList[m]:=by
    rw [List.pairwise_iff_getElem] at hd;exact hd (m-1) m (by omega) hlt (by omega)
   have hlt2:d.toList[m-1] < d.toList[m]:=by
    rcases List.le_iff_lt_or_eq.1 hp with g|g
    ·exact g
    ·exact absurd g.symm hne
   by_cases e:j=m-1
   ·subst e;rw [←hj];exact hlt2
   ·have hle:d.toList[j]≤d.toList[m-1]:=by
     rw [List.pairwise_iff_getElem] at hd;exact hd j (m-1) hjd (by omega) (by omega)
    rw [←hj];rcases List.le_iff_lt_or_eq.1 hle with g|g
    ·exact List.lt_trans g hlt2
    ·rw [g];exact hlt2
  ·rw [if_neg hk,List.append_nil];refine⟨h1,fun z=> ?_⟩;rw [h2,htk,List.mem_append,List.mem_singleton];unfold Lib.keeps at hk;simp only [decide_eq_true_eq,not_or,Classical.not_not] at hk;obtain⟨k1,k2⟩:=hk;rw [hget,show d[m-1]! =d.toList[m-1] by simp [getElem!_pos d (m-1) (by omega)]] at k2;constructor
   ·intro h;exact Or.inl h
   ·rintro(h|h)
    ·exact h
    ·rw [h,k2];refine List.mem_iff_getElem?.2 ⟨m-1,?_⟩;rw [List.getElem?_take,if_pos (by omega),List.getElem?_eq_getElem]
theorem mJ{l:List af}(h:l.Pairwise (·≤·)):Hy (Lib.compact l)∧∀ z,z∈Lib.compact l↔z∈l:=by
 have:=rD l.toArray (by simpa using h) l.length (by simp);simpa [Lib.compact] using this
theorem sK(l:List af):(eb l).Pairwise (·≤·):=by
 have tr:∀ a b c:List UInt8,leB a b=true→leB b c=true→leB a c=true:=fun a b c h1 h2=>by simp only [leB,decide_eq_true_eq] at *;exact List.le_trans h1 h2
 have tt:∀ a b:List UInt8,(leB a b||leB b a)=true:=fun a b=>by simp only [leB,Bool.or_eq_true,decide_eq_true_eq];exact List.le_total a b
 exact(List.pairwise_mergeSort tr tt l).imp (fun h=>by simpa [leB] using h)
theorem zE(l:List af)(z:af):z∈eb l↔z∈l:=(List.mergeSort_perm l leB).mem_iff
def iO(L:List Lt)(m:af):Option Int:=match uU L m with
 |some i=>some i
 |none=>if m=fW then uU L na else none
def bl(L:List Lt)(m path:af):Int × af × List af × Int:=
 match jO L path with
 |none=>(0,[],[],404)
 |some (k,rest)=>match iO (iN L k) m with
  |some i=>(i,rest,[],200)
  |none=>(0,[],ib (iN L k),405)
theorem vI(a b:List af):ed a b=ed b a:=by
 unfold ed;rw [Bool.eq_iff_iff];simp only [Bool.or_eq_true,List.isEmpty_iff,List.any_eq_true,List.contains_iff_mem];constructor
 ·rintro((h|h)|⟨x,h1,h2⟩)
  ·exact Or.inl (Or.inr h)
  ·exact Or.inl (Or.inl h)
  ·exact Or.inr ⟨x,h2,h1⟩
 ·rintro((h|h)|⟨x,h1,h2⟩)
  ·exact Or.inl (Or.inr h)
  ·exact Or.inl (Or.inl h)
  ·exact Or.inr ⟨x,h2,h1⟩
def mz(L:List Lt):Prop:=L.length≤64∧(∀ x∈L,rS x.pat=true∧0≤x.id∧x.ms.all bP=true)∧L.Pairwise (fun x y=>x.pat=y.pat→ed x.ms y.ms=false)
theorem mz.nil:mz []:=⟨by simp,by simp,List.Pairwise.nil⟩
theorem Bc{α:Type}{l:List α}{p:α→Bool}(h:l.any p=false):∀ x∈l,p x=false:=fun x hx=>by
 have:=List.any_eq_false.1 h x hx;simpa using this
theorem mz.add{L:List Lt}{x:Lt}(h:mz L)(hc:ef L x=0):mz (L++[x]):=by
 obtain⟨c1,c2,c3,c4,c5⟩:=xW hc;refine⟨by simp;omega,fun y hy=> ?_,?_⟩
 ·rcases List.mem_append.1 hy with hy|hy
  ·exact h.2.1 y hy
  ·rw [List.mem_singleton] at hy;subst hy;exact⟨c1,c2,c3⟩
 ·refine List.pairwise_append.2 ⟨h.2.2,by simp,fun a ha b hb hab=> ?_⟩;rw [List.mem_singleton] at hb;subst hb;have hs:a∈iN L (eX b.pat):=List.mem_filter.2 ⟨ha,by rw [hab];simp⟩;rw [vI];exact Bc c5 a hs
theorem mz.pre{L M:List Lt}(h:mz (L++M)):mz L:=
 ⟨by have:=h.1;simp at this;omega,fun x hx=>h.2.1 x (by simp [hx]),(List.pairwise_append.1 h.2.2).1⟩
def IN(m:af)(x:Lt):Bool:=x.ms.isEmpty||x.ms.contains m
end Go.Proofs.YtcflkcbogofgbaaGreatDoor
