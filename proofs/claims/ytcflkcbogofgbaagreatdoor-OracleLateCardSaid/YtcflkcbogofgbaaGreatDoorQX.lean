import Derived.Test.YtcflkcbogofgbaaGreatDoorQPrsM
import Derived.Test.YtcflkcbogofgbaaGreatDoorQR
set_option maxHeartbeats 16000000
set_option maxRecDepth 100000
namespace Go.Proofs.YtcflkcbogofgbaaGreatDoor
open Go.RowKit Go.Proofs
theorem E8{s:af}{k fr:Nat}(h:k < s.length)(hc:s[k]=32):iQ ((s.take k).drop fr) (s.drop k)=((s.take k).drop fr)::iQ ((s.take (k+1)).drop (k+1)) (s.drop (k+1)):=by
 have e:(s.take (k+1)).drop (k+1)=[]:=List.drop_of_length_le (by simp;omega);rw [e,List.drop_eq_getElem_cons h,iQ,if_pos hc]
theorem zo{s:af}{k fr:Nat}(h:k < s.length)(hf:fr≤k)(hc:s[k]≠32):iQ ((s.take k).drop fr) (s.drop k)=iQ ((s.take (k+1)).drop fr) (s.drop (k+1)):=by
 rw [List.drop_eq_getElem_cons h,iQ,if_neg hc,List.take_succ_eq_append_getElem h,List.drop_append_of_le_length (by simp;omega)]
def zZ(l:List af)(w:World)(e:Ending)(w':World):Prop:=∃ v,e=.returned v∧bo w' w.heap.size v l∧Sm No w w'
def Hz(w:World)(s:ByteArray)(L:List af)(lv fv iv:Value)(wr:World):Prop:=
 ∃ (j fr:Nat) (acc:List af),j≤s.size∧fr≤j∧iv=.int .i64 j∧fv=.int .i64 fr∧L=acc++iQ (((ab s).take j).drop fr) ((ab s).drop j)∧acc.length≤j∧bo wr w.heap.size lv acc∧Sm No w wr
theorem wQ(s:ByteArray)(hs:s.size≤1000)(w:World):Calls Tryz.prog 205 #[.string s] w (zZ (iR (ab s)) w):=by
 obtain⟨L,hL⟩:=Iu (iR (ab s));rw [hL];obtain⟨s',hs'⟩:∃ s':ByteArray,s++(⟨#[32]⟩:ByteArray)=s':=⟨_,rfl⟩;have hz:s'.size≤1001:=by rw [←hs',ByteArray.size_append];show s.size+1≤_;omega
 have HL:=ns (show L=iQ [] (ab s') from by rw [←hL,←hs'];unfold iR;congr 1);have HS':=ns hs';clear hL hs';go_in;go_wp2_with fail;rw [HS'.out]
 go_loopw [3,4,5] (fun l f i wr=>Hz w s' L l f i wr) (fun _ _ i _=>s'.size-(intOf i).toNat)
 case atStart=>exact⟨0,0,[],Nat.zero_le _,Nat.zero_le _,rfl,rfl,HL.out,Nat.le_refl _,World.ownsRow_nil _ _ _ _,Sm.refl _ _⟩
 case round=>
  obtain⟨j,fr,acc,hj,hfr,rfl,rfl,hl,ha,hO,hsm⟩:=hrel;have HR:=ns (BT hl (BT hO hsm));clear hl hO hsm;by_cases hlt:j < s'.size
  ·have hlt2:j < (ab s').length:=by rw [ae];exact hlt
   by_cases hq:s'[j]=32
   ·have e1:((s'[j].toNat:Int)==32)=true:=by rw [hq];rfl
    have hh:=E8 (fr:=fr) hlt2 hq;obtain⟨p,hp⟩:=Iu (s'.extract fr j);have hpt:ab p=((ab s').take j).drop fr:=by rw [←hp,aN,List.drop_take]
    have HX:=ns (show L=(acc++[ab p])++iQ (((ab s').take (j+1)).drop (j+1)) ((ab s').drop (j+1)) from by rw [HR.out.1,hh,←hpt];simp);have HP:=ns hp;have k3:(0:Int)≤(fr:Int):=by omega
    have k4:(fr:Int)≤(j:Int):=by omega
    have k5:(j:Int)≤(s'.size:Int):=by omega
    clear hq hh hp hpt;go_wp2_with (refine aq rfl _ _ 125 9 rfl Tryz.underlying125 _ 1 16 dR rfl (by decide) (by decide) w.heap.size _ u3 _ rfl (World.ownsRow.alloc HR.out.2.1 _) wr.heap.size #[.string (s'.extract fr j)] rfl (Bk.new wr _ _) rfl (by simp [Value.oneCell']) (by omega) (by have:=HR.out.2.2.size;simp;omega) ?_;intro v' w5 hown5 hs5 hv5);have hO5:bo w5 w.heap.size v' (acc++[ab p]):=by
     refine bo.push ?_;have h:=hown5;rw [HP.out] at h;have e:aX (ab p)=.string p:=congrArg Value.string (ec p);rw [e];simpa using h
    have hS5:Sm No w w5:=(HR.out.2.2.alloc (.cells #[.string (s'.extract fr j)] 9)).trans hs5 (fun b hb e=>by
     have:=(World.ownsRow.lt HR.out.2.1 b e).1;omega)
    exact⟨⟨j+1,j+1,acc++[ab p],by omega,by omega,by go_num,by go_num,HX.out,by simp;omega,hO5,hS5⟩,by simp [intOf];omega⟩
   ·have e1:((s'[j].toNat:Int)==32)=false:=aK (n:=32) (by decide) hq;have HX:=ns (show L=acc++iQ (((ab s').take (j+1)).drop fr) ((ab s').drop (j+1)) from by rw [HR.out.1,zo hlt2 hfr hq]);clear hq;go_wp2_with fail;exact⟨⟨j+1,fr,acc,by omega,by omega,by go_num,rfl,HX.out,by omega,HR.out.2.1,HR.out.2.2⟩,by simp [intOf];omega⟩
  ·have HE:=ns (show L=acc from by
    have e:(ab s').drop j=[]:=List.drop_of_length_le (by rw [ae];omega);rw [HR.out.1,e];simp [iQ])
   go_wp2_with fail;go_ret;exact⟨_,rfl,by rw [HE.out];exact HR.out.2.1,HR.out.2.2⟩
theorem kx(c:UInt8)(w:World):Calls Tryz.prog 206 #[.int .u8 c.toNat] w fun e w'=>e=.returned (.bool (jJ c))∧w=w':=by
 have hc:=c.toNat_lt;obtain⟨n,hn⟩:=Iu c.toNat;unfold jJ;rw [hn] at hc ⊢;clear hn;by_cases h1:48≤n
 ·have i1:(48:Int)≤(n:Int):=by omega
  by_cases h2:n≤57
  ·have i2:(n:Int)≤57:=by omega
   go_in;go_wp2_with fail;go_ret;exact⟨gq (by rw [decide_eq_true h1,decide_eq_true h2];rfl),rfl⟩
  ·have i2:¬(n:Int)≤57:=by omega
   go_in;go_wp2_with fail;go_ret;exact⟨rfl,rfl⟩
 ·have i1:¬(48:Int)≤(n:Int):=by omega
  go_in;go_wp2_with fail;go_ret;exact⟨rfl,rfl⟩
def ri(h:Hd):List Value:=[.string ⟨h.method.toArray⟩,.int .i64 h.target.form,.string ⟨h.target.host.toArray⟩,.string ⟨h.target.path.toArray⟩,.string ⟨h.target.query.toArray⟩,.int .i64 h.minor,.int .i64 h.how.kind,.int .i64 h.how.len,.bool h.how.close,.bool h.how.expect,.bool h.started,.bool h.whole,.int .i64 h.status,.int .i64 (h.bytes:Nat),.int .i64 (h.empty:Nat)]
def dm(w:World)(B g:Nat)(v:Value)(h:Hd):Prop:=bi 100 (ri h) w B g v h.fields
def aZ(w:World)(B g:Nat)(v:Value)(p:Hd × Int)(e:Ending)(w':World):Prop:=
 ∃ v',e=.returned (.int .i64 p.2)∧dm w' B g v' p.1∧Sm (dY g v) w w'∧cI w v v'
theorem aZ.no{w w':World}{B g:Nat}{v:Value}{h:Hd}{c:Int}(hI:dm w B g v h)(hs:Sm No w w'):aZ w B g v (h,c) (.returned (.int .i64 c)) w':=
 ⟨v,rfl,hI.no hs,hs.any _,Or.inl rfl⟩
def jc:af:=[72,84,84,80,47]
theorem oH{l:af}(h:¬l.length=8):dI l=(400,0):=by
 unfold dI;split
 ·exact absurd rfl h
 ·rfl
theorem wn{l:af}(h:l.length=8):dI l=if l.take 5=jc∧l[6]=46 then (if jJ l[5]=true∧jJ l[7]=true then (if l[5]=49 then ((0:Int),l[7]) else (505,0)) else (400,0)) else (400,0):=by
 match l,h with
 |[a,b,c,d,e,f,g,i],_=>
  show dI [a,b,c,d,e,f,g,i]=if [a,b,c,d,e]=jc∧g=46 then (if jJ f=true∧jJ i=true then (if f=49 then ((0:Int),i) else (505,0)) else (400,0)) else (400,0);by_cases hh:[a,b,c,d,e]=jc∧g=46
  ·rw [if_pos hh];obtain⟨h1,rfl⟩:=hh;injection h1 with h1 h2;injection h2 with h2 h3;injection h3 with h3 h4;injection h4 with h4 h5;injection h5 with h5 _;subst h1 h2 h3 h4 h5;rfl
  ·rw [if_neg hh];unfold dI;split
   ·rename_i e1
    injection e1 with e1 e2;injection e2 with e2 e3;injection e3 with e3 e4;injection e4 with e4 e5;injection e5 with e5 e6;injection e6 with e6 e7;injection e7 with e7 e8;subst e1 e2 e3 e4 e5 e7;exact absurd ⟨rfl,rfl⟩ hh
   ·rfl
theorem oy:∀ (l cur x:af),x∈iQ cur l→x.length≤cur.length+l.length
 |[],cur,x,h=>by cases h
 |c::l,cur,x,h=>by
  rw [iQ] at h;rw [List.length_cons];split at h
  ·rcases List.mem_cons.1 h with rfl|h
   ·omega
   ·have:=oy l [] x h;simp at this;omega
  ·have:=oy l _ x h;rw [List.length_append] at this;simp at this;omega
theorem ox{s x:af}(h:x∈iR s):x.length≤s.length+1:=by
 have:=oy _ _ _ h;simpa using this
theorem iE{h:Hd}{l:List af}(hl:¬l.length=3):bz h l=(h,400):=by
 unfold bz;split
 ·exact absurd rfl hl
 ·rfl
theorem iD{h:Hd}{m s v:af}(ht:bP m=false):bz h [m,s,v]=(h,400):=by
 unfold bz;dsimp only;rw [if_pos ht]
theorem eV{h:Hd}{m s v:af}(ht:bP m=true)(hv:(dI v).1≠0):bz h [m,s,v]=(h,(dI v).1):=by
 unfold bz;dsimp only;rw [if_neg (by rw [ht];decide),if_pos hv]
theorem ix{h:Hd}{m s v:af}(ht:bP m=true)(hv:(dI v).1=0):bz h [m,s,v]=match cG m s with
 |(some t,_)=>(qM h m t (dI v).2,0)
 |(none,c)=>(h,if c=9 then 414 else 400):=by
 unfold bz;dsimp only;(rw [if_neg (by rw [ht];decide),if_neg (by rw [hv];decide)])<;>rfl
theorem Cb{l:List af}(h:l.length=3):∃ m s v,l=[m,s,v]:=by
 match l,h with
 |[m,s,v],_=>exact⟨m,s,v,rfl⟩
theorem zS{m s:af}{c:Int}(h:cG m s=(none,c)):c=8∨c=9:=by
 unfold cG at h;split at h
 ·injection h with _ h;exact Or.inr h.symm
 ·split at h
  ·split at h
   ·cases h
   ·injection h with _ h;exact Or.inl h.symm
  ·split at h
   ·cases h
   ·split at h
    ·split at h
     ·cases h
     ·injection h with _ h;exact Or.inl h.symm
    ·split at h
     ·injection h with _ h;exact Or.inl h.symm
     ·injection h with _ h;exact Or.inl h.symm
def Io(T:Option Tg × Int)(f:Int)(hB pB qB:ByteArray)(k:Int):Prop:=match T with
 |(some t,_)=>k=0∧f=t.form∧hB=⟨t.host.toArray⟩∧pB=⟨t.path.toArray⟩∧qB=⟨t.query.toArray⟩
 |(none,c)=>k=c
theorem Co(mB tB:ByteArray):∃ f hB pB qB k,Io (cG (ab mB) (ab tB)) f hB pB qB k∧∀ w,Calls Tryz.prog 207 #[.string mB,.string tB] w fun e w'=>e=.returned (.tuple #[.agg #[.int .i64 f,.string hB,.string pB,.string qB],.int .i64 k])∧Sm No w w':=by
 have H:=uO mB tB
 cases hT:cG (ab mB) (ab tB) with
 |mk O c=>
  rw [hT] at H
  cases O with
  |none=>exact⟨0,⟨#[]⟩,⟨#[]⟩,⟨#[]⟩,c,rfl,fun w=>(H w).mono fun e w' h=>⟨h.2,h.1⟩⟩
  |some t=>exact⟨t.form,_,_,_,0,⟨rfl,rfl,rfl,rfl,rfl⟩,fun w=>(H w).mono fun e w' h=>⟨h.2,h.1⟩⟩
def IS(w:World)(f:Int)(hB pB qB:ByteArray)(k:Int)(pv ev:Value)(wx:World):Prop:=
 ∃ b,pv=.pointer (some ⟨b,0,none⟩)∧w.heap.size≤b∧Sm No w wx∧ev=.int .i64 k∧Bk wx b 59 #[.int .i64 f,.string hB,.string pB,.string qB]
theorem oo{h:Hd}{m s x:af}(ht:bP m=true)(hv:(dI x).1=0){f k:Int}{hB pB qB:ByteArray}(hS:Io (cG m s) f hB pB qB k)(hk:k≠0):bz h [m,s,x]=(h,if k=9 then 414 else 400):=by
 rw [ix ht hv]
 cases hT:cG m s with
 |mk O c=>
  rw [hT] at hS
  cases O with
  |none=>have e:k=c:=hS;rw [e]
  |some t=>exact absurd hS.1 hk
theorem mh{h:Hd}{m s x:af}(ht:bP m=true)(hv:(dI x).1=0){f:Int}{hB pB qB:ByteArray}(hS:Io (cG m s) f hB pB qB 0):
 ∃ t:Tg,bz h [m,s,x]=(qM h m t (dI x).2,0)∧f=t.form∧hB=⟨t.host.toArray⟩∧pB=⟨t.path.toArray⟩∧qB=⟨t.query.toArray⟩:=by
 rw [ix ht hv]
 cases hT:cG m s with
 |mk O c=>
  rw [hT] at hS
  cases O with
  |none=>have e:0=c:=hS;rcases zS hT with h|h<;>omega
  |some t=>exact⟨t,rfl,hS.2⟩
theorem Sm.keep{S:Nat→Prop}{w w':World}(h:Sm S w w'){b o:Nat}(hb:b < w.heap.size)(hn:¬S b){v:Value}(hc:w.cell? ⟨b,o,none⟩=some v):w'.cell? ⟨b,o,none⟩=some v:=
 (World.cell?_of_block (w:=w) (a:=⟨b,o,none⟩) (h.block b hb hn)).trans hc
theorem vC(w:World)(B g:Nat)(v:Value)(h:Hd)(s:ByteArray)(hI:dm w B g v h)(hs:s.size≤256):
 Calls Tryz.prog 172 #[.pointer (some ⟨g,0,none⟩),.string s] w (aZ w B g v (bz h (iR (ab s)))):=by
 have HI:=ns hI;have HW:=ns (wQ s (by omega) w);obtain⟨L,hL⟩:=Iu (iR (ab s));have HLen:=ns (show ∀ x∈L,x.length≤257 from fun x hx=>by rw [←hL] at hx;have:=ox hx;rw [ae] at this;omega);rw [hL] at HW ⊢;obtain⟨P,hP⟩:=Iu (bz h L);rw [hP];have HP:=ns hP;have hgl:=hI.1.lt;clear hI hL hP;go_in;go_wp2_with fail;refine HW.out.mono ?_;rintro e w1 ⟨vs,rfl,hO,hs1⟩;obtain⟨A,c,rfl,hR⟩:=hO.row2;by_cases h3:L.length=3
 ·obtain⟨m,t,x,rfl⟩:=Cb h3;obtain⟨bb,off,rfl,hbb,r0⟩:=hR.at (j:=0) (u:=aX m) rfl;obtain⟨b2,o2,hA,_,r1⟩:=hR.at (j:=1) (u:=aX t) rfl;injection hA with hA;injection hA with hA1 hA2;subst hA1 hA2;obtain⟨b2,o2,hA,_,r2⟩:=hR.at (j:=2) (u:=aX x) rfl;injection hA with hA;injection hA with hA1 hA2;subst hA1 hA2;have hbw:w.heap.size≤bb:=(World.ownsRow.lt hO bb rfl).1;rw [Nat.add_zero] at r0;rw [aX] at r0 r1 r2;have hml:=HLen.out m (by simp);have htl:=HLen.out t (by simp);have hxl:=HLen.out x (by simp);obtain⟨mB,hmB⟩:=Iu ((⟨m.toArray⟩:ByteArray));obtain⟨tB,htB⟩:=Iu ((⟨t.toArray⟩:ByteArray));obtain⟨xB,hxB⟩:=Iu ((⟨x.toArray⟩:ByteArray));have hmt:ab mB=m:=by rw [←hmB];rfl
  have htt:ab tB=t:=by rw [←htB];rfl
  have hxt:ab xB=x:=by rw [←hxB];rfl
  have hmz:mB.size≤257:=by rw [←ae,hmt];exact hml
  have htz:tB.size≤257:=by rw [←ae,htt];exact htl
  have hxz:xB.size≤257:=by rw [←ae,hxt];exact hxl
  rw [hmB] at r0;rw [htB] at r1;rw [hxB] at r2;have H1:=ns (BT hs1 (BT hmt (BT htt hxt)));rw [show ([m,t,x]:List af).length=3 from rfl];clear hs1 hO hR hmB htB hxB hmt htt hxt h3 hml htl hxl;obtain⟨f,hf⟩:=Iu (bP mB.data.toList);have HF:=ns hf;clear hf;go_wp2_with fail;refine(ez HF (by omega) _).mono ?_;rintro e w2 ⟨rfl,rfl⟩;have HTk:=ns (show bP m=f from by rw [←H1.out.2.1];exact HF.out)
  cases f with
  |false=>
   go_wp2_with fail;go_ret;rw [←HP.out,iD HTk.out];exact aZ.no HI.out H1.out.1
  |true=>
   have HNo:=ns (fun hv:(dI x).1=400=>show aZ w B g v P (.returned (.int .i64 400)) w1 from by
    rw [←HP.out,eV HTk.out (by rw [hv];decide),hv];exact aZ.no HI.out H1.out.1)
   by_cases h8:xB.size=8
   ·have i8:(xB.size:Int)=8:=by omega
    have H8:=ns (wn (l:=ab xB) (by rw [ae];exact h8));have HX:=ns (fun hv:(dI (ab xB)).1=400=>HNo.out (by rw [←H1.out.2.2.2];exact hv));have g5:(ab xB)[5]'(by rw [ae];omega)=xB[5]:=rfl;by_cases hp:(xB.extract 0 5).toList=[72,84,84,80,47]
    ·have hpt:(ab xB).take 5=jc:=by
      have h:=aN xB 0 5;rw [List.drop_zero] at h;rw [←h];have h2:ab (xB.extract 0 5)=(xB.extract 0 5).toList:=(ByteArray.toList_eq _).symm;rw [h2,hp];rfl
     obtain⟨d5,hd5⟩:∃ d,jJ xB[5]=d:=⟨_,rfl⟩;obtain⟨d7,hd7⟩:∃ d,jJ xB[7]=d:=⟨_,rfl⟩;have HD5:=ns (fun w:World=>hd5 ▸ kx xB[5] w);have HD7:=ns (fun w:World=>hd7 ▸ kx xB[7] w);have HVv:=ns (show dI (ab xB)=if xB[6]=46 then (if d5=true∧d7=true then (if xB[5]=49 then ((0:Int),xB[7]) else (505,0)) else (400,0)) else (400,0) from by
      rw [H8.out,←hd5,←hd7];by_cases q:xB[6]=46
      ·rw [if_pos ⟨hpt,q⟩,if_pos q];rfl
      ·rw [if_neg (fun h=>q h.2),if_neg q])
     clear hpt hd5 hd7 g5
     cases d5 with
     |false=>
      have HV:=ns (HX.out (by
       rw [HVv.out];split
       ·rw [if_neg (by simp)]
       ·rfl))
      go_wp2_with fail;refine(HD5.out _).mono ?_;rintro e w2 ⟨rfl,rfl⟩;go_wp2_with fail;go_ret;exact HV.out
     |true=>
      by_cases h6:xB[6]=46
      ·have e6:((xB[6].toNat:Int)==46)=true:=by rw [h6];rfl
       have e7:((xB[6].toNat:Int) != 46)=false:=by rw [h6];rfl
       have HV2:=ns (HVv.out.trans (if_pos h6));clear h6
       cases d7 with
       |false=>
        have HV:=ns (HX.out (by rw [HV2.out,if_neg (by simp)]));go_wp2_with fail;refine(HD5.out _).mono ?_;rintro e w2 ⟨rfl,rfl⟩;go_wp2_with fail;refine(HD7.out _).mono ?_;rintro e w2 ⟨rfl,rfl⟩;go_wp2_with fail;go_ret;exact HV.out
       |true=>
        by_cases h5:xB[5]=49
        ·have f5:((xB[5].toNat:Int)==49)=true:=by rw [h5];rfl
         have f6:((xB[5].toNat:Int) != 49)=false:=by rw [h5];rfl
         have HV3:=ns (show dI x=((0:Int),xB[7]) from by rw [←H1.out.2.2.2,HV2.out,if_pos ⟨rfl,rfl⟩,if_pos h5]);clear h5;obtain⟨tf,hB,pB,qB,k,hST,hcall⟩:=Co mB tB;have HC:=ns hcall;have HST:=ns hST;clear hcall hST;go_wp2_with fail;refine(HD5.out _).mono ?_;rintro e w2 ⟨rfl,rfl⟩;go_wp2_with fail;refine(HD7.out _).mono ?_;rintro e w2 ⟨rfl,rfl⟩;go_upto_region 9 with fail
         go_cut [7,8] (fun p e wx=>IS w1 tf hB pB qB k p e wx)
         case first=>
          have r0d:w1.drew.cell? ⟨bb,off,none⟩=some (.string mB):=r0;have r1d:w1.drew.cell? ⟨bb,off+1,none⟩=some (.string tB):=r1
          go_region_held3 (fun w'=>w'.cell? ⟨bb,off,none⟩=some (.string mB)∧w'.cell? ⟨bb,off+1,none⟩=some (.string tB)) (first|with_reducible exact⟨r0,r1⟩|with_reducible exact⟨r0d,r1d⟩|with_reducible exact⟨r3,r4⟩|with_reducible exact⟨((Sm.refl No w1).alloc _).drew.cell hbb r0,((Sm.refl No w1).alloc _).drew.cell hbb r1⟩|with_reducible exact⟨(hs5.alloc _).cell hbb r0,(hs5.alloc _).cell hbb r1⟩|with_reducible exact⟨(((((hs5.alloc _).setN hs5.size 0 _).setN hs5.size 1 _).setN hs5.size 2 _).setN hs5.size 3 _).cell hbb r0,(((((hs5.alloc _).setN hs5.size 0 _).setN hs5.size 1 _).setN hs5.size 2 _).setN hs5.size 3 _).cell hbb r1⟩|with_reducible exact⟨((((hs6.setN (Nat.le_refl _) 0 _).setN (Nat.le_refl _) 1 _).setN (Nat.le_refl _) 2 _).setN (Nat.le_refl _) 3 _).cell hbb r0,((((hs6.setN (Nat.le_refl _) 0 _).setN (Nat.le_refl _) 1 _).setN (Nat.le_refl _) 2 _).setN (Nat.le_refl _) 3 _).cell hbb r1⟩)
           (first
            |(go_at_call 207;(with_reducible refine(HC.out _).mono ?_);rintro e w4 ⟨rfl,hs4⟩;have hs5:=(Sm.refl No w1).drew.tt hs4;have r3:=hs5.cell hbb r0;have r4:=hs5.cell hbb r1)
            |(go_at_call 207;(with_reducible refine(HC.out _).mono ?_);rintro e w4 ⟨rfl,hs4⟩;have hs6:=((Sm.refl No w1).alloc _).drew.tt hs4;have hb6:Bk w4 w1.heap.size 59 #[.int .i64 0,.string ⟨#[]⟩,.string ⟨#[]⟩,.string ⟨#[]⟩]:=(Bk.new w1 _ _).drew.sm hs4 (fun h=>h);have hl6:=hb6.lt;have hc6:=hb6.all;have hz6:=hb6.fz;have r3:=hs6.cell hbb r0;have r4:=hs6.cell hbb r1))
          ·go_wp2_with fail;go_meet;exact⟨_,rfl,hs5.size,hs5.alloc _,rfl,Bk.new w4 _ _⟩
          ·go_wp2_with fail;go_meet;exact⟨_,rfl,Nat.le_refl _,(((hs6.setN (Nat.le_refl _) 0 _).setN (Nat.le_refl _) 1 _).setN (Nat.le_refl _) 2 _).setN (Nat.le_refl _) 3 _,rfl,(((hb6.set 0 _).set 1 _).set 2 _).set 3 _⟩
         case rest=>
          obtain⟨wk,rfl⟩:∃ wk:World,wk=wc:=⟨_,rfl⟩;obtain⟨b,rfl,hb1,hs2,rfl,hbt⟩:=hcut;have hS:=HST.out;rw [H1.out.2.1,H1.out.2.2.1] at hS;by_cases k0:k=0
          ·subst k0;obtain⟨tg,hg1,hg2⟩:=mh (h:=h) HTk.out (by rw [HV3.out]) hS;have hbg:Bk wk g 100 #[v,.string ⟨h.method.toArray⟩,.int .i64 h.target.form,.string ⟨h.target.host.toArray⟩,.string ⟨h.target.path.toArray⟩,.string ⟨h.target.query.toArray⟩,.int .i64 h.minor,.int .i64 h.how.kind,.int .i64 h.how.len,.bool h.how.close,.bool h.how.expect,.bool h.started,.bool h.whole,.int .i64 h.status,.int .i64 (h.bytes:Nat),.int .i64 (h.empty:Nat)]:=((HI.out.no H1.out.1).no hs2).1;have hbl:=Nat.le_trans H1.out.1.size hb1;have HG:=ns (BT hg1 (BT hg2 (BT hbg (BT hbt (BT hs2 hbl)))));have hne:b≠g:=by omega
           have hnb:bb≠g:=by omega
           have hgw:g < wk.heap.size:=hbg.lt;have hcg:=hbg.all;have hzg:=hbg.fz;obtain⟨wd,hwd⟩:=Iu (wk.setCell ⟨g,11,none⟩ (.bool true));have hbd:Bk wd g 100 #[v,.string ⟨h.method.toArray⟩,.int .i64 h.target.form,.string ⟨h.target.host.toArray⟩,.string ⟨h.target.path.toArray⟩,.string ⟨h.target.query.toArray⟩,.int .i64 h.minor,.int .i64 h.how.kind,.int .i64 h.how.len,.bool h.how.close,.bool h.how.expect,.bool true,.bool h.whole,.int .i64 h.status,.int .i64 (h.bytes:Nat),.int .i64 (h.empty:Nat)]:=by rw [←hwd];exact(hbg.set 11 _).eq rfl
           have hsd:Sm (fun x=>x=g) wk wd:=by rw [←hwd];exact(Sm.refl _ wk).set1 11 _
           have x0:wd.cell? ⟨bb,off,none⟩=some (.string mB):=hsd.keep (Nat.lt_of_lt_of_le hbb hs2.size) hnb (hs2.cell hbb r0);have hbtd:Bk wd b 59 #[.int .i64 tf,.string hB,.string pB,.string qB]:=hbt.sm hsd hne;have HWd:=ns hwd;have HD:=ns (BT hbd hsd);clear hS hg1 hg2 hbg hbt hs2 hwd;go_upto_region 15 with fail;rw [HWd.out];clear hcg hzg hgw;have hgw:=hbd.lt;have hcg:=hbd.all;have hzg:=hbd.fz;have y0:=hbtd.at 0 rfl;have y1:=hbtd.at 1 rfl;have y2:=hbtd.at 2 rfl;have y3:=hbtd.at 3 rfl;have HK:=ns (show ∀ W',Sm (fun x=>x=g) wd W'→W'.cell? ⟨bb,off,none⟩=some (.string mB)∧W'.cell? ⟨b,0,none⟩=some (.int .i64 tf)∧W'.cell? ⟨b,1,none⟩=some (.string hB)∧W'.cell? ⟨b,2,none⟩=some (.string pB)∧W'.cell? ⟨b,3,none⟩=some (.string qB) from fun W' hW=>
            ⟨hW.keep (Nat.lt_of_lt_of_le hbb (Nat.le_trans HG.out.2.2.2.2.1.size HD.out.2.size)) hnb x0,hW.keep hbtd.lt hne y0,hW.keep hbtd.lt hne y1,hW.keep hbtd.lt hne y2,hW.keep hbtd.lt hne y3⟩)
           clear hbd hsd hbtd
           go_cut [] (fun wx=>Bk wx g 100 #[v,.string mB,.int .i64 tf,.string hB,.string pB,.string qB,.int .i64 h.minor,.int .i64 h.how.kind,.int .i64 h.how.len,.bool h.how.close,.bool h.how.expect,.bool true,.bool h.whole,.int .i64 h.status,.int .i64 (h.bytes:Nat),.int .i64 (h.empty:Nat)]∧Sm (fun x=>x=g) wk wx)
           case first=>
            go_region
            go_wp2_with fail;go_meet;exact⟨((((((HD.out.1.set 1 _).set 2 _).set 3 _).set 4 _).set 5 _).drew).eq rfl,HD.out.2.trans ((((((Sm.refl _ wd).set1 1 _).set1 2 _).set1 3 _).set1 4 _).set1 5 _).drew (fun _ _ h=>h)⟩
           case rest=>
            obtain⟨hbe,hse⟩:=hcut;have hgw:=hbe.lt;have hcg:=hbe.all;have hzg:=hbe.fz;have HE:=ns (BT hbe hse);have HFin:=ns (show ∀ (wf:World) (b7:UInt8) (mi:Int),xB[7]=b7→(if b7=48 then h.minor else 1)=mi→Bk wf g 100 #[v,.string mB,.int .i64 tf,.string hB,.string pB,.string qB,.int .i64 mi,.int .i64 h.how.kind,.int .i64 h.how.len,.bool h.how.close,.bool h.how.expect,.bool true,.bool h.whole,.int .i64 h.status,.int .i64 (h.bytes:Nat),.int .i64 (h.empty:Nat)]→Sm (fun x=>x=g) wk wf→aZ w B g v P (.returned (.int .i64 0)) wf from fun wf b7 mi hb7 hmi hb hsf=>by
             obtain⟨e1,e2,e3,e4⟩:=HG.out.2.1;have hmB:mB=⟨m.toArray⟩:=by rw [←H1.out.2.1];exact(ec mB).symm
             have hsw:Sm (fun x=>x=g) w wf:=((H1.out.1.any (fun x=>x=g)).tt (HG.out.2.2.2.2.1.any (fun x=>x=g))).tt hsf;have hvo:=HI.out;have hvo:v.ownBlock≠some g:=hvo.2.2;refine⟨v,by rw [←HP.out,HG.out.1],?_,hsw.mono (fun b _ e=>Or.inl e),Or.inl rfl⟩;rw [←HP.out,HG.out.1];refine⟨hb.eq ?_,aa HI.out.2.1 hsw (fun b hb e=>hvo (by rw [hb,e])),hvo⟩;rw [hmB,e1,e2,e3,e4,←hmi,←hb7,HV3.out];rfl)
            clear hbe hse;obtain⟨b7,hb7⟩:=Iu (xB[7]);have HB7:=ns hb7;by_cases h7:b7=48
            ·have f1:((b7.toNat:Int)==48)=true:=by rw [h7];rfl
             have f2:((b7.toNat:Int) != 48)=false:=by rw [h7];rfl
             have H7:=ns h7;clear h7;go_wp2_with fail;go_ret;exact HFin.out _ b7 _ HB7.out (if_pos H7.out) HE.out.1 HE.out.2
            ·have f1:((b7.toNat:Int)==48)=false:=aK (n:=48) (by decide) h7;have f2:((b7.toNat:Int) != 48)=true:=by simpa using f1
             have H7:=ns h7;clear h7;go_wp2_with fail;go_ret;exact HFin.out _ b7 1 HB7.out (if_neg H7.out) ((HE.out.1.set 6 _).eq rfl) (HE.out.2.tt ((Sm.refl _ _).set1 6 _))
          ·have e0:(k==0)=false:=by simp [k0]
           have e1:(k != 0)=true:=by simp [k0]
           have HB:=ns (oo (h:=h) HTk.out (by rw [HV3.out]) hS k0);have HS2:=ns (H1.out.1.tt hs2);clear hS hs2 hbt k0;by_cases k9:k=9
           ·subst k9;go_wp2_with fail;go_ret;rw [←HP.out,HB.out,if_pos (by trivial)];exact aZ.no HI.out HS2.out
           ·have e2:(k==9)=false:=by simp [k9]
            have HK9:=ns k9;clear k9;go_wp2_with fail;go_ret;rw [←HP.out,HB.out,if_neg HK9.out];exact aZ.no HI.out HS2.out
        ·have f5:((xB[5].toNat:Int)==49)=false:=aK (n:=49) (by decide) h5;have f6:((xB[5].toNat:Int) != 49)=true:=by simpa using f5
         have HV3:=ns (show dI x=(505,0) from by rw [←H1.out.2.2.2,HV2.out,if_pos ⟨rfl,rfl⟩,if_neg h5]);clear h5;go_wp2_with fail;refine(HD5.out _).mono ?_;rintro e w2 ⟨rfl,rfl⟩;go_wp2_with fail;refine(HD7.out _).mono ?_;rintro e w2 ⟨rfl,rfl⟩;go_wp2_with fail;go_ret;rw [←HP.out,eV HTk.out (by rw [HV3.out];decide),HV3.out];exact aZ.no HI.out H1.out.1
      ·have e6:((xB[6].toNat:Int)==46)=false:=aK (n:=46) (by decide) h6;have e7:((xB[6].toNat:Int) != 46)=true:=by simpa using e6
       have HV:=ns (HX.out (by rw [HVv.out,if_neg h6]));clear h6;go_wp2_with fail;refine(HD5.out _).mono ?_;rintro e w2 ⟨rfl,rfl⟩;go_wp2_with fail;go_ret;exact HV.out
    ·have e9:((xB.extract 0 5).toList==[72,84,84,80,47])=false:=by simpa using hp
     have e10:((xB.extract 0 5).toList != [72,84,84,80,47])=true:=by simpa using hp
     have HV:=ns (HX.out (by
      rw [H8.out,if_neg];intro h;apply hp;have h2:=aN xB 0 5;rw [List.drop_zero] at h2;rw [ByteArray.toList_eq];exact h2.trans h.1))
     clear g5;go_wp2_with fail;go_ret;exact HV.out
   ·have e8:((xB.size:Int)==8)=false:=by rw [beq_eq_false_iff_ne];omega
    have e9:((xB.size:Int) != 8)=true:=by simpa using e8
    have HV:=ns (HNo.out (by rw [←H1.out.2.2.2,oH (by rw [ae];exact h8)]));clear h8;go_wp2_with fail;go_ret;exact HV.out
 ·obtain⟨n,hn⟩:=Iu L.length;rw [hn] at h3 ⊢;have e1:((n:Int)==3)=false:=by rw [beq_eq_false_iff_ne];omega
  have e2:((n:Int) != 3)=true:=by simpa using e1
  have HN:=ns (iE (h:=h) (l:=L) (by rw [hn];exact h3));have HS1:=ns hs1;clear hs1 hO hR hn h3;go_wp2_with fail;go_ret;rw [←HP.out,HN.out];exact aZ.no HI.out HS1.out
structure fk (h:Hd):Prop where
 len:h.fields.length≤24
 size:pD h.fields≤h.bytes
 bytes:h.bytes≤1024
 empty:h.empty≤4
 minor:h.minor=0∨h.minor=1
theorem fk.light{h:Hd}(o:fk h):eo h.fields:=⟨o.len,by have:=o.size;have:=o.bytes;omega⟩
theorem dm.bk{w:World}{B g:Nat}{v:Value}{h:Hd}(hI:dm w B g v h):Bk w g 100 #[v,.string ⟨h.method.toArray⟩,.int .i64 h.target.form,.string ⟨h.target.host.toArray⟩,.string ⟨h.target.path.toArray⟩,.string ⟨h.target.query.toArray⟩,.int .i64 h.minor,.int .i64 h.how.kind,.int .i64 h.how.len,.bool h.how.close,.bool h.how.expect,.bool h.started,.bool h.whole,.int .i64 h.status,.int .i64 (h.bytes:Nat),.int .i64 (h.empty:Nat)]:=hI.1
theorem dm.no{w w':World}{B g:Nat}{v:Value}{h:Hd}(hI:dm w B g v h)(hs:Sm No w w'):dm w' B g v h:=bi.no hI hs
theorem dm.of{w w':World}{B g:Nat}{v:Value}{h h':Hd}(hI:dm w B g v h)(hf:h'.fields=h.fields)(hs:Sm (fun x=>x=g) w w')(hb:Bk w' g 100 (v::ri h').toArray):dm w' B g v h':=
 ⟨hb,by rw [hf];exact aa hI.2.1 hs (fun b hb e=>hI.2.2 (by rw [hb,e])),hI.2.2⟩
theorem aZ.one{w w':World}{B g:Nat}{v:Value}{h h':Hd}{c:Int}(hI:dm w B g v h)(hf:h'.fields=h.fields)(hs:Sm (fun x=>x=g) w w')(hb:Bk w' g 100 (v::ri h').toArray):aZ w B g v (h',c) (.returned (.int .i64 c)) w':=
 ⟨v,rfl,hI.of hf hs hb,hs.mono (fun _ _ e=>Or.inl e),Or.inl rfl⟩
theorem aZ.base{w w1 w':World}{B g:Nat}{v:Value}{p:Hd × Int}{e:Ending}(h:aZ w1 B g v p e w')(hs:Sm (fun x=>x=g) w w1):aZ w B g v p e w':=by
 obtain⟨v',h1,h2,h3,h4⟩:=h;refine⟨v',h1,h2,(hs.mono (fun _ _ e=>Or.inl e)).tt h3,?_⟩;rcases h4 with h4|⟨b,h4,h5⟩
 ·exact Or.inl h4
 ·exact Or.inr ⟨b,h4,Nat.le_trans hs.size h5⟩
theorem dm.more{w:World}{B g:Nat}{v:Value}{h:Hd}(hI:dm w B g v h)(n:Nat):dm (w.setCell ⟨g,14,none⟩ (.int .i64 ((h.bytes:Int)+(n:Int)+2))) B g v (h.more n):=by
 refine hI.of rfl ((Sm.refl _ w).set1 14 _) ((hI.bk.set 14 _).eq ?_);show _=(v::ri (h.more n)).toArray;rw [show (h.bytes:Int)+(n:Int)+2=((h.bytes+n+2:Nat):Int) by omega];rfl
theorem rV(w:World)(B g:Nat)(v:Value)(h:Hd)(s:ByteArray)(hI:dm w B g v h)(ho:fk h)(hst:h.started=true)(h1:256 < s.size):Calls Tryz.prog 126 #[.pointer (some ⟨g,0,none⟩),.string s] w (aZ w B g v (h,431)):=by
 have hbg:=hI.bk;have hgl:=hbg.lt;have hc:=hbg.all;have hz:=hbg.fz;have hby:=ho.bytes;have hem:=ho.empty;have HI:=ns (BT hI ho);clear hI ho hbg;have i1:(256:Int) < (s.size:Int):=by omega
 go_in;go_wp2_with fail;go_ret;exact aZ.no HI.out.1 (Sm.refl _ _)
theorem rJ(w:World)(B g:Nat)(v:Value)(h:Hd)(s:ByteArray)(hI:dm w B g v h)(ho:fk h)(hst:h.started=true)(h1:s.size≤256)(h2:1024 < h.bytes+s.size+2):Calls Tryz.prog 126 #[.pointer (some ⟨g,0,none⟩),.string s] w (aZ w B g v (h.more s.size,431)):=by
 have hbg:=hI.bk;have hgl:=hbg.lt;have hc:=hbg.all;have hz:=hbg.fz;have hby:=ho.bytes;have hem:=ho.empty;have HI:=ns (BT hI ho);clear hI ho hbg;have i1:¬(256:Int) < (s.size:Int):=by omega
 have i2:(1024:Int) < (h.bytes:Int)+(s.size:Int)+2:=by omega
 go_in;go_wp2_with fail;go_ret;exact aZ.one HI.out.1 rfl ((Sm.refl _ w).set1 14 _) (HI.out.1.more s.size).1
theorem pJ(w:World)(B g:Nat)(v:Value)(h:Hd)(s:ByteArray)(hI:dm w B g v h)(ho:fk h)(hst:h.started=false)(h1:256 < s.size):Calls Tryz.prog 126 #[.pointer (some ⟨g,0,none⟩),.string s] w (aZ w B g v (h,414)):=by
 have hbg:=hI.bk;have hgl:=hbg.lt;have hc:=hbg.all;have hz:=hbg.fz;have hby:=ho.bytes;have hem:=ho.empty;have HI:=ns (BT hI ho);clear hI ho hbg;have i1:(256:Int) < (s.size:Int):=by omega
 go_in;go_wp2_with fail;go_ret;exact aZ.no HI.out.1 (Sm.refl _ _)
theorem pE(w:World)(B g:Nat)(v:Value)(h:Hd)(s:ByteArray)(hI:dm w B g v h)(ho:fk h)(hst:h.started=false)(h1:s.size≤256)(h2:1024 < h.bytes+s.size+2):Calls Tryz.prog 126 #[.pointer (some ⟨g,0,none⟩),.string s] w (aZ w B g v (h.more s.size,414)):=by
 have hbg:=hI.bk;have hgl:=hbg.lt;have hc:=hbg.all;have hz:=hbg.fz;have hby:=ho.bytes;have hem:=ho.empty;have HI:=ns (BT hI ho);clear hI ho hbg;have i1:¬(256:Int) < (s.size:Int):=by omega
 have i2:(1024:Int) < (h.bytes:Int)+(s.size:Int)+2:=by omega
 go_in;go_wp2_with fail;go_ret;exact aZ.one HI.out.1 rfl ((Sm.refl _ w).set1 14 _) (HI.out.1.more s.size).1
theorem Hm(w:World)(B g:Nat)(v:Value)(h:Hd)(s:ByteArray)(hI:dm w B g v h)(ho:fk h)(hst:h.started=false)(h0:s.size=0)(h2:h.bytes+2≤1024)(h4:h.empty < 4):Calls Tryz.prog 126 #[.pointer (some ⟨g,0,none⟩),.string s] w (aZ w B g v ({h.more 0 with empty:=h.empty+1},0)):=by
 have hbg:=hI.bk;have hgl:=hbg.lt;have hc:=hbg.all;have hz:=hbg.fz;have hby:=ho.bytes;have hem:=ho.empty;have HI:=ns (BT hI ho);clear hI ho hbg;have z1:s.toList=[]:=by rw [ByteArray.toList_eq];exact List.eq_nil_of_length_eq_zero (by simpa using h0)
 have z2:s.toList.isEmpty=true:=by rw [z1];rfl
 have i1:¬(256:Int) < (s.size:Int):=by omega
 have i2:¬(1024:Int) < (h.bytes:Int)+(s.size:Int)+2:=by omega
 have i4:¬(4:Int) < (h.empty:Int)+1:=by omega
 have H0:=ns h0;clear h0;go_in;go_wp2_with fail;go_ret;have hm:=HI.out.1.more 0;refine aZ.one HI.out.1 rfl (((Sm.refl _ w).set1 14 _).set1 15 _) ?_;rw [H0.out];refine(hm.bk.set 15 _).eq ?_;rw [show (h.empty:Int)+1=((h.empty+1:Nat):Int) by omega];rfl
theorem Hw(w:World)(B g:Nat)(v:Value)(h:Hd)(s:ByteArray)(hI:dm w B g v h)(ho:fk h)(hst:h.started=false)(h0:s.size=0)(h2:h.bytes+2≤1024)(h4:¬h.empty < 4):Calls Tryz.prog 126 #[.pointer (some ⟨g,0,none⟩),.string s] w (aZ w B g v ({h.more 0 with empty:=h.empty+1},400)):=by
 have hbg:=hI.bk;have hgl:=hbg.lt;have hc:=hbg.all;have hz:=hbg.fz;have hby:=ho.bytes;have hem:=ho.empty;have HI:=ns (BT hI ho);clear hI ho hbg;have z1:s.toList=[]:=by rw [ByteArray.toList_eq];exact List.eq_nil_of_length_eq_zero (by simpa using h0)
 have z2:s.toList.isEmpty=true:=by rw [z1];rfl
 have i1:¬(256:Int) < (s.size:Int):=by omega
 have i2:¬(1024:Int) < (h.bytes:Int)+(s.size:Int)+2:=by omega
 have i4:(4:Int) < (h.empty:Int)+1:=by omega
 have H0:=ns h0;clear h0;go_in;go_wp2_with fail;go_ret;have hm:=HI.out.1.more 0;refine aZ.one HI.out.1 rfl (((Sm.refl _ w).set1 14 _).set1 15 _) ?_;rw [H0.out];refine(hm.bk.set 15 _).eq ?_;rw [show (h.empty:Int)+1=((h.empty+1:Nat):Int) by omega];rfl
theorem CH(w:World)(B g:Nat)(v:Value)(h:Hd)(s:ByteArray)(hI:dm w B g v h)(ho:fk h)(hst:h.started=false)(h0:¬s.size=0)(h1:s.size≤256)(h2:h.bytes+s.size+2≤1024):Calls Tryz.prog 126 #[.pointer (some ⟨g,0,none⟩),.string s] w (aZ w B g v (bz (h.more s.size) (iR (ab s)))):=by
 have hbg:=hI.bk;have hgl:=hbg.lt;have hc:=hbg.all;have hz:=hbg.fz;have hby:=ho.bytes;have hem:=ho.empty;have HI:=ns (BT hI ho);clear hI ho hbg;have z1:¬s.toList=[]:=by rw [ByteArray.toList_eq];exact fun e=>h0 (by have:=congrArg List.length e;simpa using this)
 have z2:s.toList.isEmpty=false:=by
  cases h:s.toList with
  |nil=>exact absurd h z1
  |cons=>rfl
 have i1:¬(256:Int) < (s.size:Int):=by omega
 have i2:¬(1024:Int) < (h.bytes:Int)+(s.size:Int)+2:=by omega
 go_in;go_wp2_with fail;refine(vC _ B g v (h.more s.size) s (HI.out.1.more s.size) h1).mono ?_;rintro e w2 ⟨v',rfl,hp⟩;have HP:=ns hp;clear hp hc hz;go_wp2_with fail;go_ret;exact aZ.base ⟨v',rfl,HP.out⟩ ((Sm.refl _ w).set1 14 _)
def IF(w:World)(k l:Int)(c x:Bool)(st:Int)(pv ev:Value)(wx:World):Prop:=
 ∃ b,pv=.pointer (some ⟨b,0,none⟩)∧w.heap.size≤b∧Sm No w wx∧ev=.int .i64 st∧Bk wx b 66 #[.int .i64 k,.int .i64 l,.bool c,.bool x]
theorem xP{w:World}{B g:Nat}{v:Value}{h:Hd}{n:Nat}{k l:Int}{c x:Bool}{st:Int}(H:Hid (eP h.minor h.fields=(⟨k,l,c,x⟩,st)))(hI:dm w B g v (h.more n))(ho:fk h):
 Calls Tryz.prog 173 #[.int .i64 h.minor,.pointer (some ⟨g,0,none⟩)] w fun e w'=>e=.returned (.tuple #[.agg #[.int .i64 k,.int .i64 l,.bool c,.bool x],.int .i64 st])∧Sm No w w':=by
 have H2:=EW w B g v h.fields h.minor ho.minor hI ho.light;rw [H.out] at H2;exact H2.mono fun e w' h=>⟨h.2,h.1⟩
theorem ET(w:World)(B g:Nat)(v:Value)(h:Hd)(s:ByteArray)(hI:dm w B g v h)(ho:fk h)(hst:h.started=true)(h0:s.size=0)(h2:h.bytes+2≤1024):Calls Tryz.prog 126 #[.pointer (some ⟨g,0,none⟩),.string s] w (aZ w B g v ((h.more 0).ends,(eP h.minor h.fields).2)):=by
 have hbg:=hI.bk;have hgl:=hbg.lt;have hc:=hbg.all;have hz:=hbg.fz;have hby:=ho.bytes;have hem:=ho.empty;have HI:=ns (BT hI ho);clear hI ho hbg;have z1:s.toList=[]:=by rw [ByteArray.toList_eq];exact List.eq_nil_of_length_eq_zero (by simpa using h0)
 have z2:s.toList.isEmpty=true:=by rw [z1];rfl
 have i1:¬(256:Int) < (s.size:Int):=by omega
 have i2:¬(1024:Int) < (h.bytes:Int)+(s.size:Int)+2:=by omega
 have H0:=ns h0;clear h0;obtain⟨⟨k,l,c,x⟩,st,hhw⟩:∃ hk st,eP h.minor h.fields=(hk,st):=⟨_,_,rfl⟩;have HW:=ns hhw;rw [hhw];clear hhw;obtain⟨w1,hw1⟩:=Iu (w.setCell ⟨g,14,none⟩ (.int .i64 ((h.bytes:Int)+(s.size:Int)+2)));have hI1:dm w1 B g v (h.more s.size):=by rw [←hw1];exact HI.out.1.more s.size
 have hs1:Sm (fun x=>x=g) w w1:=by rw [←hw1];exact(Sm.refl _ w).set1 14 _
 have HW1:=ns (BT hw1 (BT hI1 hs1));have hm1:=hI1.bk.at 6 (v:=.int .i64 h.minor) rfl;have hgl1:=hI1.bk.lt;clear hw1 hI1 hs1;go_in;go_upto_region 17 with fail;rw [HW1.out.1]
 go_cut [6,7] (fun p e wx=>IF w1 k l c x st p e wx)
 case first=>
  have hm1d:w1.drew.cell? ⟨g,6,none⟩=some (.int .i64 h.minor):=hm1
  go_region_held3 (fun w'=>w'.cell? ⟨g,6,none⟩=some (.int .i64 h.minor)) (first|with_reducible exact hm1|with_reducible exact hm1d|with_reducible exact r3|with_reducible exact((Sm.refl No w1).alloc _).drew.cell hgl1 hm1|with_reducible exact(hs5.alloc _).cell hgl1 hm1|with_reducible exact(((((hs5.alloc _).setN hs5.size 0 _).setN hs5.size 1 _).setN hs5.size 2 _).setN hs5.size 3 _).cell hgl1 hm1|with_reducible exact((((hs6.setN (Nat.le_refl _) 0 _).setN (Nat.le_refl _) 1 _).setN (Nat.le_refl _) 2 _).setN (Nat.le_refl _) 3 _).cell hgl1 hm1)
   (first
    |(go_at_call 173;(with_reducible refine(xP HW (HW1.out.2.1.no (Sm.refl No w1).drew) HI.out.2).mono ?_);rintro e w4 ⟨rfl,hs4⟩;have hs5:=(Sm.refl No w1).drew.tt hs4;have r3:=hs5.cell hgl1 hm1)
    |(go_at_call 173;(with_reducible refine(xP HW (HW1.out.2.1.no ((Sm.refl No w1).alloc _).drew) HI.out.2).mono ?_);rintro e w4 ⟨rfl,hs4⟩;have hs6:=((Sm.refl No w1).alloc _).drew.tt hs4;have hb6:Bk w4 w1.heap.size 66 #[.int .i64 0,.int .i64 0,.bool false,.bool false]:=(Bk.new w1 _ _).drew.sm hs4 (fun h=>h);have hl6:=hb6.lt;have hc6:=hb6.all;have hz6:=hb6.fz;have r3:=hs6.cell hgl1 hm1))
  ·go_wp2_with fail;go_meet;exact⟨_,rfl,hs5.size,hs5.alloc _,rfl,Bk.new w4 _ _⟩
  ·go_wp2_with fail;go_meet;exact⟨_,rfl,Nat.le_refl _,(((hs6.setN (Nat.le_refl _) 0 _).setN (Nat.le_refl _) 1 _).setN (Nat.le_refl _) 2 _).setN (Nat.le_refl _) 3 _,rfl,(((hb6.set 0 _).set 1 _).set 2 _).set 3 _⟩
 case rest=>
  obtain⟨b,rfl,hb1,hs2,rfl,hbt⟩:=hcut;have hI2:=HW1.out.2.1.no hs2;have hbg:=hI2.bk;have hne:b≠g:=by omega
  have hgl2:=hbg.lt;have hbl2:=hbt.lt;have hcg:=hbg.all;have hzg:=hbg.fz;have hcb:=hbt.all;have HG:=ns (BT hbg (BT hI2 hs2));clear hbg hI2 hs2 hbt hc hz hm1;by_cases h0:st=0
  ·subst h0;go_wp2_with fail;go_ret;refine aZ.one HI.out.1 rfl ((HW1.out.2.2.tt (HG.out.2.2.any _)).trans (((((((Sm.refl _ wc).set1 7 _).set1 8 _).set1 9 _).set1 10 _).set1 12 _)) (fun _ _ e=>e)) ((((((HG.out.1.set 7 _).set 8 _).set 9 _).set 10 _).set 12 _).eq ?_);unfold Hd.ends;rw [show (h.more 0).minor=h.minor from rfl,show (h.more 0).fields=h.fields from rfl,HW.out,H0.out];rfl
  ·have e0:(st==0)=false:=by simp [h0]
   have HS0:=ns h0;clear h0;go_wp2_with fail;go_ret;refine aZ.one HI.out.1 rfl ((HW1.out.2.2.tt (HG.out.2.2.any _)).trans (((((((Sm.refl _ wc).set1 7 _).set1 8 _).set1 9 _).set1 10 _).set1 12 _)) (fun _ _ e=>e)) ((((((HG.out.1.set 7 _).set 8 _).set 9 _).set 10 _).set 12 _).eq ?_);unfold Hd.ends;rw [show (h.more 0).minor=h.minor from rfl,show (h.more 0).fields=h.fields from rfl,HW.out,H0.out];have e:decide (st=0)=false:=decide_eq_false HS0.out;dsimp only;rw [e];rfl
theorem me{l n v:af}{e:Int}(h:aL l=(e,n,v)):n.length+v.length≤l.length:=by
 unfold aL at h;split at h
 ·injection h with _ h;injection h with h1 h2;subst h1 h2;simp
 ·split at h
  ·injection h with _ h;injection h with h1 h2;subst h1 h2;simp
  ·split at h
   ·injection h with _ h;injection h with h1 h2;rw [←h1,←h2];have:=fQ (l.drop ((Lib.indexByte l 58).toNat+1));rw [List.length_drop] at this;rw [List.length_take];omega
   ·injection h with _ h;injection h with h1 h2;subst h1 h2;simp
def Ht(w:World)(B g:Nat)(v:Value)(h:Hd)(c:Int)(fs:List aJ)(ev:Value)(wx:World):Prop:=
 ∃ v',ev=.int .i64 c∧dm wx B g v' {h with fields:=fs}∧Sm (dY g v) w wx∧cI w v v'
theorem FF {w:World} {B g:Nat} {v:Value} {h:Hd} {nB vB:ByteArray} {fs:List aJ} {n c:Int} (hI:dm w B g v h) (hlen:h.fields.length≤24) (hn:nB.size≤256) (hv:vB.size≤256) (hB:B≤w.heap.size)
 (h1:(aY h.fields [(nB,vB)]).1=fs) (h2:((aY h.fields [(nB,vB)]).2.1:Int)=n) (h3:(aY h.fields [(nB,vB)]).2.2=c):
 Calls Tryz.prog 89 #[.pointer (some ⟨g,0,none⟩),.slice (some ⟨w.heap.size,0,none⟩) 1 1] ((w.alloc (.cells #[.string nB,.string vB] 129)).drew) fun e w'=>e=.returned (.tuple #[.int .i64 n,.int .i64 c])∧Ht w B g v h c fs (.int .i64 c) w':=by
 have hs:Sm No w ((w.alloc (.cells #[.string nB,.string vB] 129)).drew):=((Sm.refl No w).alloc _).drew;have hb:Bk ((w.alloc (.cells #[.string nB,.string vB] 129)).drew) w.heap.size 129 #[.string nB,.string vB]:=(Bk.new w _ _).drew;have hgl:=hI.bk.lt;have hvl:=fun b e=>(World.ownsRow.lt hI.2.1 b e).2;refine(zT _ B g v h.fields [(nB,vB)] (some ⟨w.heap.size,0,none⟩) 1 (hI.no hs) hlen (fun k hk=> ?_) (fun _ a ha=> ?_) (fun x hx=> ?_) (by simp) (Nat.le_trans hB hs.size)).mono ?_
 ·have e:k=0:=by simpa using hk
  subst e;exact⟨w.heap.size,0,rfl,hb.lt,hb.at 0 rfl,hb.at 1 rfl⟩
 ·injection ha with ha;subst ha;rintro(e|e)
  ·exact absurd e (Nat.ne_of_gt hgl)
  ·exact absurd (hvl _ e) (Nat.lt_irrefl _)
 ·have e:x=(nB,vB):=by simpa using hx
  subst e;exact⟨Nat.le_trans hn (by decide),Nat.le_trans hv (by decide)⟩
 ·rintro e w' ⟨v',rfl,g1,g2,g3,g4⟩;rw [h1] at g1;refine⟨by rw [h2,h3],v',rfl,g1,(hs.any _).tt g3,?_⟩;rcases g4 with g4|⟨b,g4,g5⟩
  ·exact Or.inl g4
  ·exact Or.inr ⟨b,g4,Nat.le_trans hs.size g5⟩
theorem GW(w:World)(B g:Nat)(v:Value)(h:Hd)(s:ByteArray)(hI:dm w B g v h)(ho:fk h)(hst:h.started=true)(h0:¬s.size=0)(h1:s.size≤256)(h2:h.bytes+s.size+2≤1024)(hB:B≤w.heap.size):
 Calls Tryz.prog 126 #[.pointer (some ⟨g,0,none⟩),.string s] w (aZ w B g v (gH (h.more s.size) (ab s))):=by
 have hbg:=hI.bk;have hgl:=hbg.lt;have hc:=hbg.all;have hz:=hbg.fz;have hby:=ho.bytes;have hem:=ho.empty;have HI:=ns (BT hI ho);clear hI ho hbg;have z1:¬s.toList=[]:=by rw [ByteArray.toList_eq];exact fun e=>h0 (by have:=congrArg List.length e;simpa using this)
 have z2:s.toList.isEmpty=false:=by
  cases h:s.toList with
  |nil=>exact absurd h z1
  |cons=>rfl
 have i1:¬(256:Int) < (s.size:Int):=by omega
 have i2:¬(1024:Int) < (h.bytes:Int)+(s.size:Int)+2:=by omega
 obtain⟨P,hP⟩:=Iu (aL (ab s));obtain⟨pe,pn,pv⟩:=P;obtain⟨nB,hnB⟩:=Iu ((⟨pn.toArray⟩:ByteArray));obtain⟨vB,hvB⟩:=Iu ((⟨pv.toArray⟩:ByteArray));have HP:=ou s (by omega);have hP':aL s.data.toList=(pe,pn,pv):=hP;rw [hP',show iB (pe,pn,pv)=.tuple #[.agg #[.string nB,.string vB],.int .i64 pe] from by rw [←hnB,←hvB];rfl] at HP;have HP:=ns HP;have hfl:=me hP;have hnz:nB.size≤256:=by rw [←hnB];show pn.toArray.size≤_;simp;rw [ae] at hfl;omega
 have hvz:vB.size≤256:=by rw [←hvB];show pv.toArray.size≤_;simp;rw [ae] at hfl;omega
 obtain⟨R,hR⟩:=Iu (gH (h.more s.size) (ab s));have HE:=ns (show R=if pe≠0 then (h.more s.size,400) else ({h.more s.size with fields:=(aY h.fields [(nB,vB)]).1},if (aY h.fields [(nB,vB)]).2.2≠0 then 431 else 0) from by
  rw [←hR];unfold gH;rw [hP];dsimp only;rw [hnB,hvB];rfl)
 rw [hR];obtain⟨w1,hw1⟩:=Iu (w.setCell ⟨g,14,none⟩ (.int .i64 ((h.bytes:Int)+(s.size:Int)+2)));have hI1:dm w1 B g v (h.more s.size):=by rw [←hw1];exact HI.out.1.more s.size
 have hs1:Sm (fun x=>x=g) w w1:=by rw [←hw1];exact(Sm.refl _ w).set1 14 _
 have HW1:=ns (BT hw1 (BT hI1 hs1));have hgl1:=hI1.bk.lt;have hc1:=hI1.bk.all;have hz1:=hI1.bk.fz;clear hw1 hI1 hs1 hP hP' hnB hvB hfl hR;go_in;go_upto_region 21 with fail;rw [HW1.out.1];clear hc hz;go_wp2_with fail;refine(HP.out _).mono ?_;rintro e w2 ⟨rfl,hs2⟩;have HI2:=ns (BT (HW1.out.2.1.no hs2) hs2);clear hs2;by_cases h0:pe=0
 ·subst h0;have HE0:=ns (HE.out.trans (if_neg (by simp)));obtain⟨b8,hb8⟩:=Iu w2.heap.size;obtain⟨w3,hw3⟩:∃ w3,w2.alloc (.cells #[.string nB,.string vB] 129)=w3:=⟨_,rfl⟩;have hs3:Sm No w1 w3:=by rw [←hw3];exact HI2.out.2.alloc _
  have hb3:Bk w3 b8 129 #[.string nB,.string vB]:=by rw [←hw3,←hb8];exact Bk.new w2 _ _
  have hgl3:g < w3.heap.size:=Nat.lt_of_lt_of_le hgl1 hs3.size;have hBw:B≤w3.heap.size:=Nat.le_trans hB (Nat.le_trans HW1.out.2.2.size hs3.size);have HW3:=ns (BT hw3 (BT (HW1.out.2.1.no hs3) hs3));have HB8:=ns hb8;have f0:=hb3.at 0 (v:=.string nB) rfl;have f1:=hb3.at 1 (v:=.string vB) rfl;have hl3:=hb3.lt;have HHb3:=ns hb3;clear hw3 hs3 hb3 hb8 hc1 hz1;go_upto_region 24 with fail;rw [HW3.out.1,HB8.out];obtain⟨fs,hfs⟩:=Iu ((aY h.fields [(nB,vB)]).1);obtain⟨an,han⟩:=Iu (((aY h.fields [(nB,vB)]).2.1:Int));obtain⟨ac,hac⟩:=Iu ((aY h.fields [(nB,vB)]).2.2);have HAdd:=ns (FF HW3.out.2.1 HI.out.2.len hnz hvz hBw hfs han hac);have HE1:=ns (show R=({h.more s.size with fields:=fs},if ac≠0 then 431 else 0) from by rw [HE0.out,hfs,hac]);have HNt:=ns (show ¬dY g v b8 from by
   have h1:=HW1.out.2.1.bk.lt;have h2:=HI2.out.2.size;have h3:=HB8.out;rintro(e|e)
   ·omega
   ·have:=(World.ownsRow.lt HW1.out.2.1.2.1 _ e).2;omega)
  clear hfs han hac
  go_cut [9] (fun e wx=>Ht w3 B g v (h.more s.size) ac fs e wx)
  case first=>
   go_region_held3 (fun w'=>w'.cell? ⟨b8,0,none⟩=some (.string nB)∧w'.cell? ⟨b8,1,none⟩=some (.string vB)) (first|with_reducible exact⟨f0,f1⟩|with_reducible exact⟨((Sm.refl No w3).alloc _).cell hl3 f0,((Sm.refl No w3).alloc _).cell hl3 f1⟩|with_reducible exact⟨((Sm.refl No w3).drew.alloc _).cell hl3 f0,((Sm.refl No w3).drew.alloc _).cell hl3 f1⟩|with_reducible exact⟨((Sm.refl No w3).alloc _).drew.cell hl3 f0,((Sm.refl No w3).alloc _).drew.cell hl3 f1⟩|with_reducible exact⟨((Sm.refl No w3).drew).cell hl3 f0,((Sm.refl No w3).drew).cell hl3 f1⟩|with_reducible exact⟨r5,r6⟩)
    ((go_at_call 89;refine HAdd.out.mono ?_;rintro e w5 ⟨rfl,h5⟩;have h6:=h5;obtain⟨_,_,_,h7,_⟩:=h6;have r5:=h7.keep hl3 HNt.out f0;have r6:=h7.keep hl3 HNt.out f1))
   go_wp2_with fail;go_meet;exact h5
  case rest=>
   obtain⟨v',rfl,hI5,hs5,hf5⟩:=hcut;have H5:=ns (BT hI5 (BT hs5 hf5));have hsw:Sm (fun x=>x=g) w w3:=HW1.out.2.2.tt (HW3.out.2.2.any _);have HFin:=ns (fun (x:Int) (hx:(if ac≠0 then (431:Int) else 0)=x)=>show aZ w B g v R (.returned (.int .i64 x)) wc from
    aZ.base ⟨v',by rw [HE1.out,hx],by rw [HE1.out];exact H5.out.1,H5.out.2.1,H5.out.2.2⟩ hsw)
   clear hI5 hs5 hf5 hsw;by_cases hz0:ac=0
   ·subst hz0;have HF:=ns (HFin.out 0 (if_neg (by simp)));go_wp2_with fail;go_ret;exact HF.out
   ·have e0:(ac==0)=false:=by simp [hz0]
    have e1:(ac != 0)=true:=by simp [hz0]
    have HF:=ns (HFin.out 431 (if_pos hz0));clear hz0;go_wp2_with fail;go_ret;exact HF.out
 ·have e0:(pe==0)=false:=by simp [h0]
  have e1:(pe != 0)=true:=by simp [h0]
  have HE0:=ns (HE.out.trans (if_pos h0));clear h0;go_wp2_with fail;go_ret;rw [HE0.out];exact aZ.base (aZ.no HW1.out.2.1 (HI2.out.2.alloc _)) HW1.out.2.2
theorem zw(w:World)(B g:Nat)(v:Value)(h:Hd)(s:ByteArray)(hI:dm w B g v h)(ho:fk h)(hB:B≤w.heap.size):
 Calls Tryz.prog 126 #[.pointer (some ⟨g,0,none⟩),.string s] w (aZ w B g v (aW h (ab s))):=by
 have hl:=ae s;have hz:ab s=[]↔s.size=0:=⟨fun e=>by rw [←hl,e];rfl,fun e=>List.eq_nil_of_length_eq_zero (by omega)⟩;have hem:=ho.empty;by_cases h1:256 < s.size
 ·rw [show aW h (ab s)=(h,h.long) from by unfold aW;rw [if_pos (by omega)]]
  cases hst:h.started with
  |true=>rw [show h.long=431 from by unfold Hd.long;rw [if_pos hst]];exact rV w B g v h s hI ho hst h1
  |false=>rw [show h.long=414 from by unfold Hd.long;rw [if_neg (by rw [hst];decide)]];exact pJ w B g v h s hI ho hst h1
 by_cases h2:1024 < h.bytes+s.size+2
 ·rw [show aW h (ab s)=(h.more s.size,h.long) from by unfold aW;rw [if_neg (by omega),hl,if_pos h2]]
  cases hst:h.started with
  |true=>rw [show h.long=431 from by unfold Hd.long;rw [if_pos hst]];exact rJ w B g v h s hI ho hst (by omega) h2
  |false=>rw [show h.long=414 from by unfold Hd.long;rw [if_neg (by rw [hst];decide)]];exact pE w B g v h s hI ho hst (by omega) h2
 cases hst:h.started with
 |false=>
  by_cases h0:s.size=0
  ·by_cases h4:4 < h.empty+1
   ·rw [show aW h (ab s)=({h.more 0 with empty:=h.empty+1},400) from by unfold aW;rw [if_neg (by omega),hl,if_neg h2,if_pos hst,if_pos (hz.2 h0),if_pos h4]];exact Hw w B g v h s hI ho hst h0 (by omega) (by omega)
   ·rw [show aW h (ab s)=({h.more 0 with empty:=h.empty+1},0) from by unfold aW;rw [if_neg (by omega),hl,if_neg h2,if_pos hst,if_pos (hz.2 h0),if_neg h4]];exact Hm w B g v h s hI ho hst h0 (by omega) (by omega)
  ·rw [show aW h (ab s)=bz (h.more s.size) (iR (ab s)) from by unfold aW;rw [if_neg (by omega),hl,if_neg h2,if_pos hst,if_neg (fun e=>h0 (hz.1 e))]];exact CH w B g v h s hI ho hst h0 (by omega) (by omega)
 |true=>
  by_cases h0:s.size=0
  ·rw [show aW h (ab s)=((h.more 0).ends,(eP h.minor h.fields).2) from by unfold aW;rw [if_neg (by omega),hl,if_neg h2,if_neg (by rw [hst];decide),if_pos (hz.2 h0)]];exact ET w B g v h s hI ho hst h0 (by omega)
  ·rw [show aW h (ab s)=gH (h.more s.size) (ab s) from by unfold aW;rw [if_neg (by omega),hl,if_neg h2,if_neg (by rw [hst];decide),if_neg (fun e=>h0 (hz.1 e))]];exact GW w B g v h s hI ho hst h0 (by omega) (by omega) hB
def CB(w:World)(B g:Nat)(v:Value)(h:Hd)(e:Ending)(w':World):Prop:=
 ∃ v',e=.returned (.tuple #[.bool h.whole,.int .i64 h.status])∧dm w' B g v' h∧Sm (dY g v) w w'∧cI w v v'
theorem cI.own{w:World}{B g:Nat}{v v':Value}{h:Hd}(hI:dm w B g v h)(hf:cI w v v'):v'.ownBlock≠some g:=by
 rcases hf with e|⟨b,e,hb⟩
 ·rw [e];exact hI.2.2
 ·rw [e];intro h;injection h with h;have:=hI.1.lt;omega
theorem Bj(w:World)(B g:Nat)(v:Value)(h:Hd)(s:ByteArray)(hI:dm w B g v h)(ho:fk h)(hB:B≤w.heap.size)(hw:h.whole=false)(hs0:h.status=0):
 Calls Tryz.prog 79 #[.pointer (some ⟨g,0,none⟩),.string s] w (CB w B g v (bf h (ab s))):=by
 have HL:=zw w B g v h s hI ho hB;have hc:=hI.bk.all;obtain⟨p,st,hp⟩:∃ p st,aW h (ab s)=(p,st):=⟨_,_,rfl⟩;rw [hp] at HL;rw [show bf h (ab s)= {p with status:=st} from by unfold bf;rw [if_pos ⟨hw,hs0⟩,hp]];have HL:=ns HL;rw [hw,hs0] at hc;clear hI ho hp hw hs0;go_in;go_wp2_with fail;refine HL.out.mono ?_;rintro e w2 ⟨v',rfl,hI2,hs2,hf2⟩;have hbg:=hI2.bk;have HI2:=ns (BT hI2 (BT hs2 hf2));obtain⟨w3,hw3⟩:=Iu (w2.setCell ⟨g,13,none⟩ (.int .i64 st));have hI3:dm w3 B g v' {p with status:=st}:=by rw [←hw3];exact hI2.of rfl ((Sm.refl _ w2).set1 13 _) ((hbg.set 13 _).eq rfl)
 have hs3:Sm (dY g v) w w3:=by rw [←hw3];exact hs2.setS (Or.inl rfl) 13 _
 have HW:=ns (BT hw3 (BT hI3 (BT hs3 hf2)));have hgl:=hbg.lt;clear hc;have hc:=hbg.all;have hz:=hbg.fz;have hb3:=hI3.bk;have hc3:=hb3.all;clear hI2 hs2 hf2 hbg hw3 hI3 hs3 hb3;go_upto_region 3 with fail;rw [HW.out.1];clear hc hz;go_quiet (fail);go_wp2_with fail;go_ret2;exact⟨v',rfl,HW.out.2.1.no ((Sm.refl No w3).drewN _),HW.out.2.2.1.drewN _,HW.out.2.2.2⟩
section
variable {ops:Array Oper} {rest:List Oper} {o:Oper} {a:Act} {w:World} {Q:Exit→Act→World→Prop}
theorem aH (hgd:o.guard=none) (s x:Operand) (ho:o.op=.call {callee:=.builtin .append,args:=#[s,x],argTypes:=#[22,22]})
 (c:UInt8) (v:Value) (l:af) (hs:a.eval s=v) (hO:ay w 0 v l) (hx:a.eval x=.slice (some ⟨w.heap.size,0,none⟩) 1 1) (hl:l.length≤1000000)
 (h:∀ v' w',ay w' 0 v' (l++[c])→Sm (fun b=>v.ownBlock=some b) w w'→(∀ b,v'.ownBlock=some b→v.ownBlock=some b∨w.heap.size≤b)→wpList Tryz.prog ops Q rest (a.put o.dst v') w'):
 wpList Tryz.prog ops Q (o::rest) a (w.alloc (.cells #[.int .u8 c.toNat] 5)):=by
 refine aq hgd s x 22 5 ho Tryz.underlying22 _ 1 1 eE rfl (by decide) (by decide) 0 _ v _ hs (World.ownsRow.alloc hO _) w.heap.size #[.int .u8 c.toNat] hx (Bk.new w _ _) rfl (by simp [Value.oneCell']) hl (Nat.zero_le _) ?_;intro v' w' h1 h2 h3;refine h v' w' (ay.push h1 (n:=0) rfl) (((Sm.refl _ w).alloc _).tt h2) (fun b e=> ?_);rcases h3 with h3|h3
 ·exact Or.inl (by rw [←h3];exact e)
 ·rw [h3] at e;injection e with e;right;rw [←e];simp
end
def aA(O:Nat→Prop)(w w':World):Nat→Prop:=fun x=>O x∨(w.heap.size≤x∧x < w'.heap.size)
def df.st:df→Int
 | .size _=>0
 | .data _=>1
 | .tail _=>2
 | .trail _ _ _=>3
def df.line:df→af
 | .size l=>l
 | .data _=>[]
 | .tail k=>[13].take k
 | .trail l _ _=>l
def df.ends:df→Nat
 | .trail _ e _=>e
 |_=>0
def df.ts:df→List aJ
 | .trail _ _ ts=>ts
 |_=>[]
def df.leftOk:df→Int→Prop
 | .data n,left=>left=n
 |_,_=>True
structure dU (w:World) (O:Nat→Prop) (g:Nat) (vB vT vL:Value) (wh:Bool) (sta left:Int) (b:af) (st:Int) (L:af) (ends:Int) (ts:List aJ):Prop where
 bk:Bk w g 200 #[vB,vT,.bool wh,.int .i64 sta,.int .i64 st,vL,.int .i64 left,.int .i64 ends]
 body:ay w 0 vB b
 line:ay w 0 vL L
 trail:w.ownsRow 0 129 2 vT ts.length (ao ts)
 apart:∀ x,vB.ownBlock=some x→vL.ownBlock≠some x
 og:O g
 ob:∀ x,vB.ownBlock=some x→O x
 ol:∀ x,vL.ownBlock=some x→O x
 ot:∀ x,vT.ownBlock=some x→O x
 lt:∀ x,O x→x < w.heap.size
section
variable {w w' w5:World} {O S:Nat→Prop} {g:Nat} {vB vT vL vB' vL' v':Value} {wh wh':Bool} {sta left sta' left' st st' ends ends':Int} {b L L':af} {ts:List aJ} {c:UInt8}
theorem dU.sm(h:dU w O g vB vT vL wh sta left b st L ends ts)(hs:Sm S w w')(hS:∀ x,O x→¬S x):dU w' O g vB vT vL wh sta left b st L ends ts:=
 ⟨h.bk.sm hs (hS g h.og),aa h.body hs (fun x e=>hS x (h.ob x e)),aa h.line hs (fun x e=>hS x (h.ol x e)),aa h.trail hs (fun x e=>hS x (h.ot x e)),h.apart,h.og,h.ob,h.ol,h.ot,fun x hx=>Nat.lt_of_lt_of_le (h.lt x hx) hs.size⟩
theorem dU.no(h:dU w O g vB vT vL wh sta left b st L ends ts)(hs:Sm No w w'):dU w' O g vB vT vL wh sta left b st L ends ts:=h.sm hs (fun _ _ e=>e)
theorem aA.lt(h:∀ x,O x→x < w.heap.size)(hs:w.heap.size≤w'.heap.size):∀ x,aA O w w' x→x < w'.heap.size:=by
 rintro x (e|⟨_,e⟩)
 ·exact Nat.lt_of_lt_of_le (h x e) hs
 ·exact e
theorem dU.neB(h:dU w O g vB vT vL wh sta left b st L ends ts):vB.ownBlock≠some g:=ah h.body h.bk (by decide)
theorem dU.neL(h:dU w O g vB vT vL wh sta left b st L ends ts):vL.ownBlock≠some g:=ah h.line h.bk (by decide)
theorem dU.neT(h:dU w O g vB vT vL wh sta left b st L ends ts):vT.ownBlock≠some g:=ah h.trail h.bk (by decide)
theorem ay.nil(w:World)(B:Nat):ay w B (.slice none 0 0) []:=World.ownsRow_nil _ _ _ _
theorem dU.upd (h:dU w O g vB vT vL wh sta left b st L ends ts) (hs:Sm (fun x=>x=g) w w') (hb:Bk w' g 200 #[vB,vT,.bool wh',.int .i64 sta',.int .i64 st',vL',.int .i64 left',.int .i64 ends'])
 (hL:(vL'=vL∧L'=L)∨(vL'=.slice none 0 0∧L'=[])):dU w' (aA O w w') g vB vT vL' wh' sta' left' b st' L' ends' ts∧Sm O w w':=by
 have n1:=h.neB;have n2:=h.neL;have n3:=h.neT;have lt:=aA.lt h.lt hs.size;refine⟨?_,hs.mono (fun x _ e=>e ▸ h.og)⟩;have k1:∀ v:Value,v.ownBlock≠some g→∀ x,v.ownBlock=some x→¬(x=g):=fun v hv x e e2=>hv (e2 ▸ e);rcases hL with ⟨rfl,rfl⟩|⟨rfl,rfl⟩
 ·exact⟨hb,aa h.body hs (k1 _ n1),aa h.line hs (k1 _ n2),aa h.trail hs (k1 _ n3),h.apart,Or.inl h.og,fun x e=>Or.inl (h.ob x e),fun x e=>Or.inl (h.ol x e),fun x e=>Or.inl (h.ot x e),lt⟩
 ·exact⟨hb,aa h.body hs (k1 _ n1),ay.nil _ _,aa h.trail hs (k1 _ n3),fun x _ e=>(by cases e),Or.inl h.og,fun x e=>Or.inl (h.ob x e),fun x e=>(by cases e),fun x e=>Or.inl (h.ot x e),lt⟩
theorem dU.putB (h:dU w O g vB vT vL wh sta left b st L ends ts) (hO:ay w5 0 v' (b++[c])) (hs5:Sm (fun x=>vB.ownBlock=some x) w w5) (hv:∀ x,v'.ownBlock=some x→vB.ownBlock=some x∨w.heap.size≤x)
 (hs:Sm (fun x=>x=g) w5 w') (hb:Bk w' g 200 #[v',vT,.bool wh',.int .i64 sta',.int .i64 st',vL',.int .i64 left',.int .i64 ends'])
 (hL:(vL'=vL∧L'=L)∨(vL'=.slice none 0 0∧L'=[])):dU w' (aA O w w') g v' vT vL' wh' sta' left' (b++[c]) st' L' ends' ts∧Sm O w w':=by
 have n1:=h.neB;have n2:=h.neL;have n3:=h.neT;have hgl:=h.bk.lt;have hbg5:=h.bk.sm hs5 n1;have n4:v'.ownBlock≠some g:=ah hO hbg5 (by decide);have lt:=aA.lt h.lt (Nat.le_trans hs5.size hs.size);have k1:∀ v:Value,v.ownBlock≠some g→∀ x,v.ownBlock=some x→¬(x=g):=fun v hv x e e2=>hv (e2 ▸ e);have kT:∀ x,vT.ownBlock=some x→¬(vB.ownBlock=some x):=fun x e e2=>by
  obtain⟨c1,h1⟩:=ax h.trail e;obtain⟨c2,h2⟩:=ax h.body e2;rw [h1] at h2;injection h2 with h2;injection h2 with _ h2;exact absurd h2 (by decide)
 have hw:Sm O w w':=(hs5.mono (fun x _ e=>h.ob x e)).trans hs (fun x _ e=>e ▸ h.og);have own:∀ x,v'.ownBlock=some x→x < w'.heap.size:=fun x e=>Nat.lt_of_lt_of_le (World.ownsRow.lt hO x e).2 hs.size;have ob':∀ x,v'.ownBlock=some x→aA O w w' x:=fun x e=>(hv x e).elim (fun e2=>Or.inl (h.ob x e2)) (fun e2=>Or.inr ⟨e2,own x e⟩);refine⟨?_,hw⟩;rcases hL with ⟨rfl,rfl⟩|⟨rfl,rfl⟩
 ·refine⟨hb,aa hO hs (k1 _ n4),aa (aa h.line hs5 (fun x e e2=>h.apart x e2 e)) hs (k1 _ n2),aa (aa h.trail hs5 kT) hs (k1 _ n3),fun x e e2=> ?_,Or.inl h.og,ob',fun x e=>Or.inl (h.ol x e),fun x e=>Or.inl (h.ot x e),lt⟩;rcases hv x e with e3|e3
  ·exact h.apart x e3 e2
  ·have:=(World.ownsRow.lt h.line x e2).2;omega
 ·exact⟨hb,aa hO hs (k1 _ n4),ay.nil _ _,aa (aa h.trail hs5 kT) hs (k1 _ n3),fun x _ e=>(by cases e),Or.inl h.og,ob',fun x e=>(by cases e),fun x e=>Or.inl (h.ot x e),lt⟩
theorem dU.putL (h:dU w O g vB vT vL wh sta left b st L ends ts) (hO:ay w5 0 v' (L++[c])) (hs5:Sm (fun x=>vL.ownBlock=some x) w w5) (hv:∀ x,v'.ownBlock=some x→vL.ownBlock=some x∨w.heap.size≤x)
 (hs:Sm (fun x=>x=g) w5 w') (hb:Bk w' g 200 #[vB,vT,.bool wh',.int .i64 sta',.int .i64 st',vL',.int .i64 left',.int .i64 ends'])
 (hL:(vL'=v'∧L'=L++[c])∨(vL'=.slice none 0 0∧L'=[])):dU w' (aA O w w') g vB vT vL' wh' sta' left' b st' L' ends' ts∧Sm O w w':=by
 have n1:=h.neB;have n2:=h.neL;have n3:=h.neT;have hbg5:=h.bk.sm hs5 n2;have n4:v'.ownBlock≠some g:=ah hO hbg5 (by decide);have lt:=aA.lt h.lt (Nat.le_trans hs5.size hs.size);have k1:∀ v:Value,v.ownBlock≠some g→∀ x,v.ownBlock=some x→¬(x=g):=fun v hv x e e2=>hv (e2 ▸ e);have kT:∀ x,vT.ownBlock=some x→¬(vL.ownBlock=some x):=fun x e e2=>by
  obtain⟨c1,h1⟩:=ax h.trail e;obtain⟨c2,h2⟩:=ax h.line e2;rw [h1] at h2;injection h2 with h2;injection h2 with _ h2;exact absurd h2 (by decide)
 have hw:Sm O w w':=(hs5.mono (fun x _ e=>h.ol x e)).trans hs (fun x _ e=>e ▸ h.og);have own:∀ x,v'.ownBlock=some x→x < w'.heap.size:=fun x e=>Nat.lt_of_lt_of_le (World.ownsRow.lt hO x e).2 hs.size;have ol':∀ x,v'.ownBlock=some x→aA O w w' x:=fun x e=>(hv x e).elim (fun e2=>Or.inl (h.ol x e2)) (fun e2=>Or.inr ⟨e2,own x e⟩);refine⟨?_,hw⟩;rcases hL with ⟨rfl,rfl⟩|⟨rfl,rfl⟩
 ·refine⟨hb,aa (aa h.body hs5 (fun x e e2=>h.apart x e e2)) hs (k1 _ n1),aa hO hs (k1 _ n4),aa (aa h.trail hs5 kT) hs (k1 _ n3),fun x e e2=> ?_,Or.inl h.og,fun x e=>Or.inl (h.ob x e),ol',fun x e=>Or.inl (h.ot x e),lt⟩;rcases hv x e2 with e3|e3
  ·exact h.apart x e e3
  ·have:=(World.ownsRow.lt h.body x e).2;omega
 ·exact⟨hb,aa (aa h.body hs5 (fun x e e2=>h.apart x e e2)) hs (k1 _ n1),ay.nil _ _,aa (aa h.trail hs5 kT) hs (k1 _ n3),fun x _ e=>(by cases e),Or.inl h.og,fun x e=>Or.inl (h.ob x e),fun x e=>(by cases e),fun x e=>Or.inl (h.ot x e),lt⟩
end
def vg(w:World)(O:Nat→Prop)(g:Nat)(vB:Value):ej→Prop
 | .at b p=>∃ vT vL left,dU w O g vB vT vL false 0 left b p.st p.line p.ends p.ts∧p.leftOk left
 | .whole b=>∃ vT vL left st L ends ts,dU w O g vB vT vL true 0 left b st L ends ts
 | .bad s=>∃ vT vL left b st L ends ts,dU w O g vB vT vL false s left b st L ends ts
def aP(w:World)(O:Nat→Prop)(g:Nat)(q:ej)(e:Ending)(w':World):Prop:=
 ∃ vB,e=.returned (.tuple #[])∧vg w' (aA O w w') g vB q∧Sm O w w'
theorem pW{c:UInt8}{d:Int}(h:Hid (aG c=d))(w:World):Calls Tryz.prog 239 #[.int .u8 c.toNat] w fun e w'=>e=.returned (.int .i64 d)∧w=w':=by
 rw [←h.out];exact ip c w
theorem Fs{s:ByteArray}{a:Int}{b:Bool}(h:Hid (eO (ab s)=(a,b)))(hs:s.size≤1000000)(w:World):Calls Tryz.prog 240 #[.string s] w fun e w'=>e=.returned (.tuple #[.int .i64 a,.bool b])∧w=w':=by
 have:=DI s hs w;rw [h.out] at this;exact this
theorem rk(l:af)(h:l.length≤6):0≤(eO l).1∧(eO l).1≤16777216:=by
 unfold eO ei;split
 ·decide
 ·split
  ·rename_i n hn
   obtain⟨a,b⟩:=mR (Or.inr rfl) (k:=0) hn (by decide) (by decide);refine⟨a,?_⟩;have:(16:Int) ^ (0+l.length)≤16 ^ 6:=by exact_mod_cast Nat.pow_le_pow_right (by decide) (by omega)
   have e:(16:Int) ^ 6=16777216:=by decide
   show n≤_;omega
  ·decide
theorem jF{b s:af}(h:(bX s).length < 1∨6 < (bX s).length):cP b s=.bad 400:=by unfold cP;rw [if_pos h]
theorem qC{b s:af}(h:¬((bX s).length < 1∨6 < (bX s).length))(h2:br (s.drop (bX s).length)=none):cP b s=.bad 400:=by unfold cP;rw [if_neg h,if_pos h2]
theorem qz{b s:af}(h:¬((bX s).length < 1∨6 < (bX s).length))(h2:br (s.drop (bX s).length)≠none):cP b s=
 if 2048 < (b.length:Int)+(eO (bX s)).1 then .bad 413 else if (eO (bX s)).1=0 then .at b (.trail [] 0 []) else .at b (.data (eO (bX s)).1.toNat):=by unfold cP;rw [if_neg h,if_neg h2]
theorem dU.mono {w w3 w':World} {O:Nat→Prop} {g:Nat} {vB vT vL vB' vT' vL':Value} {wh wh':Bool} {sta left sta' left' st st' ends ends':Int} {b b' L L':af} {ts ts':List aJ}
 (h:dU w' (aA O w3 w') g vB' vT' vL' wh' sta' left' b' st' L' ends' ts') (hs:Sm No w w3) (_:dU w O g vB vT vL wh sta left b st L ends ts):dU w' (aA O w w') g vB' vT' vL' wh' sta' left' b' st' L' ends' ts':=by
 have k:∀ x,aA O w3 w' x→aA O w w' x:=fun x e=>e.elim Or.inl (fun e=>Or.inr ⟨Nat.le_trans hs.size e.1,e.2⟩);have lt:∀ x,aA O w w' x→x < w'.heap.size:=by
  rintro x (e|⟨_,e⟩)
  ·exact h.lt x (Or.inl e)
  ·exact e
 exact⟨h.bk,h.body,h.line,h.trail,h.apart,k _ h.og,fun x e=>k x (h.ob x e),fun x e=>k x (h.ol x e),fun x e=>k x (h.ot x e),lt⟩
theorem yW(w:World)(O:Nat→Prop)(g:Nat)(vB vT vL:Value)(left:Int)(b:af)(s:ByteArray)(hI:dU w O g vB vT vL false 0 left b 0 [] 0 [])(hb:b.length≤2048)(hs:s.size≤1000):
 Calls Tryz.prog 203 #[.pointer (some ⟨g,0,none⟩),.string s] w (aP w O g (cP b (ab s))):=by
 have HI:=ns hI;have hgl:=hI.bk.lt;obtain⟨R,hR⟩:=Iu (cP b (ab s));rw [hR];have HR:=ns hR;clear hI hR;have HBad:=ns (fun (w2:World) (hs2:Sm No w w2) (c:Int) (hc:R=.bad c)=>show aP w O g R (.returned (.tuple #[])) (w2.setCell ⟨g,3,none⟩ (.int .i64 c)) from by
  have h:=(HI.out.no hs2).upd ((Sm.refl _ w2).set1 3 (.int .i64 c)) ((((HI.out.no hs2).bk.set 3 _)).eq rfl) (Or.inl ⟨rfl,rfl⟩);refine⟨vB,rfl,?_,(hs2.any _).tt h.2⟩;rw [hc];exact⟨_,_,_,_,_,_,_,_,h.1.mono hs2 HI.out⟩)
 go_in;obtain⟨K,hK⟩:=Iu ((bX (ab s)).length);have HKK:=ns hK;have hKz:K≤s.size:=by
  rw [←hK];have h:=(List.takeWhile_prefix bt (l:=ab s)).length_le;rw [ae] at h;exact h
 clear hK;go_upto_block 0 with fail
 go_cut [4] (fun i wx=>wx=w∧i=.int .i64 K)
 case first=>
  go_wp2_with fail
  go_loop [4] (fun i=>jf bt s i) (fun i=>s.size-(intOf i).toNat)
  case atStart=>exact⟨0,Nat.zero_le _,rfl,by simp⟩
  case round=>
   obtain⟨k,hk,rfl,hall⟩:=hrel;have HA:=ns hall;clear hall;have hkl:k≤s.data.toList.length:=by rw [←ai];exact hk
   have hk1:(k:Int)≤(s.size:Int):=by omega
   by_cases hgo:∃ h:k < s.size,bt s[k]=true
   ·obtain⟨hlt,hf⟩:=hgo;have HN:=ns (di HA.out hlt hf);obtain⟨d,hd⟩:=Iu (aG s[k]);have hd0:0≤d:=by unfold bt at hf;rw [hd] at hf;exact of_decide_eq_true hf
    have HD:=ns hd;have i1:(k:Int) < (s.size:Int):=by omega
    clear hf hd;go_wp2_with fail;refine(pW HD _).mono ?_;rintro e w1 ⟨rfl,rfl⟩;go_wp2_with fail;exact⟨⟨k+1,by omega,by go_num,HN.out⟩,by simp [intOf];omega⟩
   ·have hW:=bT (p:=bt) hkl HA.out (fun h=>by
     have hlt:k < s.size:=by rw [ai];exact h
     cases hc:bt s.data.toList[k] with
     |false=>rfl
     |true=>exact absurd ⟨hlt,hc⟩ hgo)
    have hn:(bX (ab s)).length=k:=by
     have:=congrArg List.length hW;rw [List.length_take] at this;unfold bX ab;omega
    have HKn:=ns (HKK.out.symm.trans hn);have hways:k=s.size∨∃ h:k < s.size,aG s[k] < 0:=by
     by_cases hlt:k < s.size
     ·refine Or.inr ⟨hlt,?_⟩;have h2:¬bt s[k]=true:=fun e=>hgo ⟨hlt,e⟩;unfold bt at h2;simpa using h2
     ·exact Or.inl (by omega)
    clear hW hn hgo hkl;rcases hways with he|⟨hlt,hd⟩
    ·obtain rfl:s.size=k:=he.symm;go_wp2_with fail;go_meet;exact⟨rfl,by rw [HKn.out]⟩
    ·obtain⟨d,hd2⟩:=Iu (aG s[k]);rw [hd2] at hd;have HD:=ns hd2;have i1:(k:Int) < (s.size:Int):=by omega
     have i2:¬(0:Int)≤d:=by omega
     clear hd2 hd;go_wp2_with fail;refine(pW HD _).mono ?_;rintro e w1 ⟨rfl,rfl⟩;go_wp2_with fail;go_meet;exact⟨rfl,by rw [HKn.out]⟩
 case rest=>
  obtain⟨hwc,rfl⟩:=hcut;subst hwc;have hbg:=HI.out.bk;have hcg:=hbg.all;have hzg:=hbg.fz;clear hbg;by_cases h1:K < 1
  ·have i1:(K:Int) < 1:=by omega
   have HE:=ns (HBad.out wc (Sm.refl _ _) 400 (by rw [←HR.out,jF (Or.inl (by rw [HKK.out];exact h1))]));clear h1;go_wp2_with fail
   go_end0
   exact HE.out
  by_cases h6:6 < K
  ·have i1:¬(K:Int) < 1:=by omega
   have i2:(6:Int) < (K:Int):=by omega
   have HE:=ns (HBad.out wc (Sm.refl _ _) 400 (by rw [←HR.out,jF (Or.inr (by rw [HKK.out];exact h6))]));clear h1 h6;go_wp2_with fail
   go_end0
   exact HE.out
  have i1:¬(K:Int) < 1:=by omega
  have i2:¬(6:Int) < (K:Int):=by omega
  have i3:(K:Int)≤(s.size:Int):=by omega
  have HNo:=ns (show ¬((bX (ab s)).length < 1∨6 < (bX (ab s)).length) from by rw [HKK.out];omega);obtain⟨pB,hpB⟩:=Iu (s.extract 0 K);have hpt:ab pB=bX (ab s):=by
   rw [←hpB,aN,List.drop_zero,←HKK.out];exact(List.prefix_iff_eq_take.1 (List.takeWhile_prefix bt)).symm
  have hpz:pB.size≤6:=by rw [←hpB,ByteArray.size_extract];omega
  obtain⟨qB,hqB⟩:=Iu (s.extract K s.size);have hqt:ab qB=(ab s).drop (bX (ab s)).length:=by rw [HKK.out,←hqB,bQ]
  have hqz:qB.size≤1000:=by rw [←hqB,ByteArray.size_extract];omega
  have HPQ:=ns (BT hpB hqB);obtain⟨n,ok,hno⟩:∃ n ok,eO (ab pB)=(n,ok):=⟨_,_,rfl⟩;have hnb:=rk (ab pB) (by rw [ae];exact hpz);rw [hno] at hnb;have hnn:(eO (bX (ab s))).1=n:=by rw [←hpt,hno]
  have HN:=ns hno;have HNn:=ns hnn;have HPa:=uV qB (by omega) wc;unfold ij at HPa;have e:qB.data.toList=(ab s).drop (bX (ab s)).length:=hqt;rw [e] at HPa;have HPa:=ns HPa;dsimp only at hnb;clear hpB hpt hqB hqt hno hnn h1 h6 e;go_wp2_with fail;rw [HPQ.out.1];refine(Fs HN (by omega) _).mono ?_;rintro e w2 ⟨rfl,rfl⟩;go_wp2_with fail;rw [HPQ.out.2];refine HPa.out.mono ?_;rintro e w3 (⟨r,v,hr,rfl,hO,_,hs3⟩|⟨hr,rfl,hs3⟩)
  ·have HEnd:=ns ((qz HNo.out (b:=b) (by rw [hr];exact fun h=>by cases h)).symm.trans HR.out);have HS3:=ns hs3;have hbg:=(HI.out.no hs3).bk;have hbv:=(HI.out.no hs3).body;obtain⟨A,c,hAc,_⟩:=ak hbv;have HAc:=ns hAc;subst hAc;clear hr hO hcg hzg;have hcg:=hbg.all;have hzg:=hbg.fz;have hgl3:=hbg.lt;have HBg:=ns hbg;clear hbg hbv hs3;by_cases hbig:2048 < (b.length:Int)+n
   ·have HE:=ns (HBad.out w3 HS3.out 413 (by rw [←HEnd.out,HNn.out,if_pos hbig]));go_wp2_with fail
    go_end0
    exact HE.out
   ·have HE1:=ns (show R=if n=0 then .at b (.trail [] 0 []) else .at b (.data n.toNat) from by rw [←HEnd.out,HNn.out,if_neg hbig]);by_cases hn0:n=0
    ·have HE2:=ns (show R=.at b (.trail [] 0 []) from by rw [HE1.out,if_pos hn0]);subst hn0;go_wp2_with fail
     go_end0
     have h:=(HI.out.no HS3.out).upd ((Sm.refl _ w3).set1 4 (.int .i64 3)) (((HBg.out.set 4 _)).eq rfl) (Or.inl ⟨rfl,rfl⟩);refine⟨.slice A b.length c,rfl,?_,(HS3.out.any _).tt h.2⟩;rw [HE2.out];exact⟨_,_,_,h.1.mono HS3.out HI.out,trivial⟩
    ·have e0:(n==0)=false:=by simp [hn0]
     have HE2:=ns (HE1.out.trans (if_neg hn0));have HN0:=ns hn0;clear hn0;go_wp2_with fail
     go_end0
     have h:=(HI.out.no HS3.out).upd (((Sm.refl _ w3).set1 4 (.int .i64 1)).set1 6 (.int .i64 n)) ((((HBg.out.set 4 _)).set 6 _).eq rfl) (Or.inl ⟨rfl,rfl⟩);refine⟨.slice A b.length c,rfl,?_,(HS3.out.any _).tt h.2⟩;rw [HE2.out];exact⟨_,_,_,h.1.mono HS3.out HI.out,by show n=((n.toNat:Nat):Int);omega⟩
  ·have HE:=ns (HBad.out w3 hs3 400 (by rw [←HR.out,qC HNo.out hr]));have hbg:=(HI.out.no hs3).bk;clear hr hcg hzg;have hcg:=hbg.all;have hzg:=hbg.fz;have hgl3:=hbg.lt;clear hbg hs3;go_wp2_with fail
   go_end0
   exact HE.out
section
variable {w w' w5:World} {O:Nat→Prop} {g:Nat} {vB vT vL v':Value} {wh wh':Bool} {sta left sta' left' st st' ends ends':Int} {b L:af} {ts:List aJ} {x:aJ}
theorem dU.putT (h:dU w O g vB vT vL wh sta left b st L ends ts) (hO:w5.ownsRow 0 129 2 v' (ts++[x]).length (ao (ts++[x]))) (hs5:Sm (fun x=>vT.ownBlock=some x) w w5) (hv:∀ x,v'.ownBlock=some x→vT.ownBlock=some x∨w.heap.size≤x)
 (hs:Sm (fun x=>x=g) w5 w') (hb:Bk w' g 200 #[vB,v',.bool wh',.int .i64 sta',.int .i64 st',vL,.int .i64 left',.int .i64 ends']):
 dU w' (aA O w w') g vB v' vL wh' sta' left' b st' L ends' (ts++[x])∧Sm O w w':=by
 have n1:=h.neB;have n2:=h.neL;have n3:=h.neT;have hbg5:=h.bk.sm hs5 n3;have n4:v'.ownBlock≠some g:=ah hO hbg5 (by decide);have lt:=aA.lt h.lt (Nat.le_trans hs5.size hs.size);have k1:∀ v:Value,v.ownBlock≠some g→∀ x,v.ownBlock=some x→¬(x=g):=fun v hv x e e2=>hv (e2 ▸ e);have kT:∀ (v:Value) (l:af),ay w 0 v l→∀ x,v.ownBlock=some x→¬(vT.ownBlock=some x):=fun v l hl x e2 e=>by
  obtain⟨c1,h1⟩:=ax h.trail e;obtain⟨c2,h2⟩:=ax hl e2;rw [h1] at h2;injection h2 with h2;injection h2 with _ h2;exact absurd h2 (by decide)
 have hw:Sm O w w':=(hs5.mono (fun x _ e=>h.ot x e)).trans hs (fun x _ e=>e ▸ h.og);have own:∀ x,v'.ownBlock=some x→x < w'.heap.size:=fun x e=>Nat.lt_of_lt_of_le (World.ownsRow.lt hO x e).2 hs.size;refine⟨⟨hb,aa (aa h.body hs5 (kT _ _ h.body)) hs (k1 _ n1),aa (aa h.line hs5 (kT _ _ h.line)) hs (k1 _ n2),aa hO hs (k1 _ n4),h.apart,Or.inl h.og,fun x e=>Or.inl (h.ob x e),fun x e=>Or.inl (h.ol x e),fun x e=> ?_,lt⟩,hw⟩;exact(hv x e).elim (fun e2=>Or.inl (h.ot x e2)) (fun e2=>Or.inr ⟨e2,own x e⟩)
end
theorem Sm.up{O:Nat→Prop}{w w4 w':World}(h:Sm O w w4)(k:Sm (aA O w w4) w4 w'):Sm O w w':=h.trans k (fun x hx e=>e.elim id (fun e=>absurd hx (by omega)))
theorem aA.up{O:Nat→Prop}{w w4 w':World}(h:w.heap.size≤w4.heap.size)(h2:w4.heap.size≤w'.heap.size)(x:Nat)(e:aA (aA O w w4) w4 w' x):aA O w w' x:=by
 rcases e with (e|⟨e1,e2⟩)|⟨e1,e2⟩
 ·exact Or.inl e
 ·exact Or.inr ⟨e1,by omega⟩
 ·exact Or.inr ⟨by omega,e2⟩
theorem dU.imp {w:World} {O O2:Nat→Prop} {g:Nat} {vB vT vL:Value} {wh:Bool} {sta left st ends:Int} {b L:af} {ts:List aJ}
 (h:dU w O g vB vT vL wh sta left b st L ends ts) (k:∀ x,O x→O2 x) (lt:∀ x,O2 x→x < w.heap.size):dU w O2 g vB vT vL wh sta left b st L ends ts:=
 ⟨h.bk,h.body,h.line,h.trail,h.apart,k _ h.og,fun x e=>k x (h.ob x e),fun x e=>k x (h.ol x e),fun x e=>k x (h.ot x e),lt⟩
theorem dU.up{w w4 w':World}{O:Nat→Prop}{g:Nat}{vB vT vL:Value}{wh:Bool}{sta left st ends:Int}{b L:af}{ts:List aJ}(h:dU w' (aA (aA O w w4) w4 w') g vB vT vL wh sta left b st L ends ts)(hO:∀ x,O x→x < w.heap.size)(h1:w.heap.size≤w4.heap.size)(h2:w4.heap.size≤w'.heap.size):
 dU w' (aA O w w') g vB vT vL wh sta left b st L ends ts:=h.imp (aA.up h1 h2) (aA.lt hO (Nat.le_trans h1 h2))
theorem nl{b s:af}{e:Nat}{ts:List aJ}(h0:s≠[])(h:(aL s).1≠0):bN b s e ts=.bad 400:=by unfold bN;rw [if_neg h0,if_pos h]
theorem mq{b s:af}{e:Nat}{ts:List aJ}(h0:s≠[])(h:(aL s).1=0)(h2:ts.length=8∨512 < e+s.length+2):bN b s e ts=.bad 431:=by unfold bN;rw [if_neg h0,if_neg (by rw [h];decide),if_pos h2]
theorem oe{b s:af}{e:Nat}{ts:List aJ}(h0:s≠[])(h:(aL s).1=0)(h2:¬(ts.length=8∨512 < e+s.length+2)):bN b s e ts=.at b (.trail [] (e+s.length+2) (ts++[(⟨(aL s).2.1.toArray⟩,⟨(aL s).2.2.toArray⟩)])):=by unfold bN;rw [if_neg h0,if_neg (by rw [h];decide),if_neg h2]
theorem rE(w:World)(O:Nat→Prop)(g:Nat)(vB vT vL:Value)(left:Int)(b:af)(e0:Nat)(ts:List aJ)(s:ByteArray)(hI:dU w O g vB vT vL false 0 left b 3 [] e0 ts)(hts:ts.length≤8)(he:e0≤512)(hs:s.size≤1000):
 Calls Tryz.prog 204 #[.pointer (some ⟨g,0,none⟩),.string s] w (aP w O g (bN b (ab s) e0 ts)):=by
 have HI:=ns hI;have hgl:=hI.bk.lt;have hcg:=hI.bk.all;have hzg:=hI.bk.fz;obtain⟨R,hR⟩:=Iu (bN b (ab s) e0 ts);rw [hR];have HR:=ns hR;clear hI hR;by_cases h0:s.size=0
 ·have ht0:ab s=[]:=List.eq_nil_of_length_eq_zero (by rw [ae];exact h0);have z1:s.toList=[]:=by rw [ByteArray.toList_eq];exact ht0
  have z2:s.toList.isEmpty=true:=by rw [z1];rfl
  have HW:=ns (show R=.whole b from by rw [←HR.out];unfold bN;rw [if_pos ht0]);clear h0 ht0;go_in;go_wp2_with fail
  go_end0
  have h:=HI.out.upd ((Sm.refl _ w).set1 2 (.bool true)) ((HI.out.bk.set 2 _).eq rfl) (Or.inl ⟨rfl,rfl⟩);refine⟨vB,rfl,?_,h.2⟩;rw [HW.out];exact⟨_,_,_,_,_,_,_,h.1⟩
 have ht0:ab s≠[]:=fun e=>h0 (by rw [←ae,e];rfl);have z1:¬s.toList=[]:=by rw [ByteArray.toList_eq];exact ht0
 have z2:s.toList.isEmpty=false:=by
  cases h:s.toList with
  |nil=>exact absurd h z1
  |cons=>rfl
 obtain⟨⟨pe,pn,pv⟩,hP⟩:∃ P,aL (ab s)=P:=⟨_,rfl⟩;obtain⟨nB,hnB⟩:=Iu ((⟨pn.toArray⟩:ByteArray));obtain⟨xB,hxB⟩:=Iu ((⟨pv.toArray⟩:ByteArray));have HP:=ou s (by omega);have hP':aL s.data.toList=(pe,pn,pv):=hP;rw [hP',show iB (pe,pn,pv)=.tuple #[.agg #[.string nB,.string xB],.int .i64 pe] from by rw [←hnB,←hxB];rfl] at HP;have HP:=ns HP;have HPn:=ns (show (aL (ab s)).1=pe∧(((⟨(aL (ab s)).2.1.toArray⟩,⟨(aL (ab s)).2.2.toArray⟩):aJ)=(nB,xB)) from by rw [hP,←hnB,←hxB];exact⟨rfl,rfl⟩);have HT0:=ns ht0;clear hP hP' hnB hxB h0 ht0;obtain⟨At,ct,hAt,_⟩:=ak HI.out.trail;subst hAt;go_in;go_wp2_with fail;refine(HP.out _).mono ?_;rintro e w2 ⟨rfl,hs2⟩;obtain⟨b4,hb4⟩:=Iu w2.heap.size;obtain⟨w3,hw3⟩:∃ w3,w2.alloc (.cells #[.string nB,.string xB] 129)=w3:=⟨_,rfl⟩;have hs3:Sm No w w3:=by rw [←hw3];exact hs2.alloc _
 have hb3:Bk w3 b4 129 #[.string nB,.string xB]:=by rw [←hw3,←hb4];exact Bk.new w2 _ _
 have hne:b4≠g:=by have:=hs2.size;omega
 have hI3:=HI.out.no hs3;obtain⟨w4,hw4⟩:=Iu (w3.setCell ⟨g,7,none⟩ (.int .i64 ((e0:Int)+(s.size:Int)+2)));have h4:=hI3.upd ((Sm.refl _ w3).set1 7 (.int .i64 ((e0:Int)+(s.size:Int)+2))) ((hI3.bk.set 7 _).eq rfl) (Or.inl ⟨rfl,rfl⟩);rw [hw4] at h4;have h4:=BT (h4.1.mono hs3 HI.out) ((hs3.any O).tt h4.2);have hb4b:Bk w4 b4 129 #[.string nB,.string xB]:=by rw [←hw4];exact hb3.far hne _
 have H4:=ns (BT h4 (BT hb4b (BT hw3 (BT hw4 hb4))));have hcg4:=h4.1.bk.all;have hzg4:=h4.1.bk.fz;have hgl4:=h4.1.bk.lt;have f0:=hb4b.at 0 (v:=.string nB) rfl;have f1:=hb4b.at 1 (v:=.string xB) rfl;have hl4:=hb4b.lt;have hcg3:=hI3.bk.all;have hzg3:=hI3.bk.fz;have hgl3:=hI3.bk.lt;have HBad:=ns (fun (c:Int) (hc:R=.bad c)=>show aP w O g R (.returned (.tuple #[])) (w4.setCell ⟨g,3,none⟩ (.int .i64 c)) from by
  have h:=H4.out.1.1.upd ((Sm.refl _ w4).set1 3 (.int .i64 c)) ((H4.out.1.1.bk.set 3 _).eq rfl) (Or.inl ⟨rfl,rfl⟩);refine⟨vB,rfl,?_,H4.out.1.2.up h.2⟩;rw [hc];exact⟨_,_,_,_,_,_,_,_,h.1.up HI.out.lt H4.out.1.2.size (by simp)⟩)
 clear hs2 hw3 hs3 hb3 hI3 hw4 h4 hb4b hcg hzg hb4;go_upto_region 3 with fail;rw [H4.out.2.2.1,H4.out.2.2.2.2];go_upto_region 5 with fail;rw [H4.out.2.2.2.1];clear hcg3 hzg3 hgl3;by_cases hp:pe=0
 ·subst hp;by_cases h8:ts.length=8∨512 < e0+s.size+2
  ·have HE:=ns (HBad.out 431 (by rw [←HR.out,mq HT0.out (by rw [HPn.out.1]) (by rw [ae];exact h8)]));by_cases h9:ts.length=8
   ·rw [h9] at hcg4;clear h8 h9;go_wp2_with fail
    go_end0
    exact HE.out
   ·have h10:512 < e0+s.size+2:=h8.resolve_left h9;have e1:((ts.length:Int)==8)=false:=by rw [beq_eq_false_iff_ne];omega
    have e2:(512:Int) < (e0:Int)+(s.size:Int)+2:=by omega
    clear h8 h9 h10;go_wp2_with fail
    go_end0
    exact HE.out
  ·have e1:((ts.length:Int)==8)=false:=by rw [beq_eq_false_iff_ne];omega
   have e2:¬(512:Int) < (e0:Int)+(s.size:Int)+2:=by omega
   have HE:=ns (show R=.at b (.trail [] (e0+s.size+2) (ts++[(nB,xB)])) from by rw [←HR.out,oe HT0.out (by rw [HPn.out.1]) (by rw [ae];exact h8),HPn.out.2,ae]);have htl:ts.length≤1000000:=by omega
   have HOwn:=ns ((H4.out.1.1.trail.alloc (.cells #[.string nB,.string xB] 129)).drew);have HBlk:=ns (Bk.new w4 129 #[.string nB,.string xB]).drew;have HKb:=ns ((H4.out.1.1.bk.alloc (.cells #[.string nB,.string xB] 129)).drew);have HNe:=ns (show ¬(Value.slice At ts.length ct).ownBlock=some g from H4.out.1.1.neT);clear h8;go_wp2_with fail
   go_region_law
    ((refine hU (by rfl) _ _ 60 129 (by rfl) Tryz.underlying60 _ 2 32 eS rfl (by decide) (by decide) 0 ts.length _ (ao ts) (by rfl) HOwn.out w4.heap.size #[.string nB,.string xB] (by rfl) HBlk.out rfl (by simp [Value.oneCell']) htl (Nat.zero_le _) ?_;intro r cap w5 hown5 hs5 hr5;have hb5:=HKb.out.sm hs5 HNe.out;have hc5:=hb5.all;have hz5:=hb5.fz;have hl5:=hb5.lt))
   all_goals
    have HF:=ns (H4.out.1.1.putT (x:=(nB,xB)) (v':=.slice (some ⟨r,0,none⟩) (ts.length+1) cap) (by rw [fe,List.length_append];exact hown5) ((((Sm.refl _ w4).alloc _).drew).tt hs5) (fun x e=>by
     have e2:r=x:=by simpa [Value.ownBlock] using e
     rcases hr5 with e3|e3
     ·exact Or.inl (e3.trans (by rw [e2]))
     ·right;rw [←e2,e3];simp) ((Sm.refl _ w5).set1 1 _) ((hb5.set 1 _).eq rfl))
    go_wp2_with fail
    go_end0
    refine⟨vB,rfl,?_,H4.out.1.2.up HF.out.2⟩;rw [HE.out];refine⟨.slice (some ⟨r,0,none⟩) (ts.length+1) cap,vL,left,?_,trivial⟩;have hsz:=HF.out.2.size;have hh:=HF.out.1.up HI.out.lt H4.out.1.2.size hsz;rw [show ((df.trail [] (e0+s.size+2) (ts++[(nB,xB)])).ends:Int)=(e0:Int)+(s.size:Int)+2 from by show ((e0+s.size+2:Nat):Int)=_;omega];exact hh
 ·have e0:(pe==0)=false:=by simp [hp]
  have e1:(pe != 0)=true:=by simp [hp]
  have HE:=ns (HBad.out 400 (by rw [←HR.out,nl HT0.out (by rw [HPn.out.1];exact hp)]));clear hp;go_wp2_with fail
  go_end0
  exact HE.out
end Go.Proofs.YtcflkcbogofgbaaGreatDoor
