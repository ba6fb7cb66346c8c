import Derived.Test.YtadcjgopaadfjaaGreatDoorQI
import Derived.Test.YtadcjgopaadfjaaGreatDoorQO
import Derived.Test.YtadcjgopaadfjaaGreatDoorQR
import Derived.Deep.QuietTactic
import Derived.BigQuiet
import Derived.Deep.RegionHeld3
set_option maxHeartbeats 4000000
set_option maxRecDepth 100000
namespace Go.Proofs.YtadcjgopaadfjaaGreatDoor
open Go.RowKit Go.Proofs
def F5(w:World)(q:ByteArray)(T:Option (List ah) × ah)(v lv fv iv:Value)(wr:World):Prop:=
 ∃ (i f:Nat) (l:List ah) (last:ByteArray),i≤q.size∧f≤i∧iv=.int .i64 i∧fv=.int .i64 f∧lv=.string last∧
   T=(dn (some l) (bF 47 (((af q).take i).drop f) ((af q).drop i)),(bF 47 (((af q).take i).drop f) ((af q).drop i)).getLastD (af last))∧wt l≤f∧bi wr w.heap.size v l∧Sm No w wr∧last.size≤q.size
theorem rU(q:ByteArray){i:Nat}(h:i < q.size):(af q).drop i=q[i]::(af q).drop (i+1):=eM q i h
theorem Cp(q:ByteArray){i:Nat}(h:i < q.size):(af q).take (i+1)=(af q).take i++[q[i]]:=by
 rw [List.take_succ_eq_append_getElem (by rw [ag];exact h)];rfl
theorem yZ(q:ByteArray){i f:Nat}(h:i < q.size)(hf:f≤i)(hc:q[i]≠47):
 bF 47 (((af q).take i).drop f) ((af q).drop i)=bF 47 (((af q).take (i+1)).drop f) ((af q).drop (i+1)):=by
 rw [rU q h,bF,if_neg hc,Cp q h,List.drop_append_of_le_length (by rw [List.length_take,ag];omega)]
theorem As(q:ByteArray){i f:Nat}(h:i < q.size)(hc:q[i]=47):
 bF 47 (((af q).take i).drop f) ((af q).drop i)=((af q).take i).drop f::bF 47 (((af q).take (i+1)).drop (i+1)) ((af q).drop (i+1)):=by
 rw [rU q h,bF,if_pos hc];congr 2;rw [List.drop_eq_nil_of_le (by simp;omega)]
theorem bz(q:ByteArray)(f i:Nat):af (q.extract f i)=((af q).take i).drop f:=by
 unfold af;rw [Lib.extract_data,List.drop_take]
theorem F7(last out:ByteArray)(l:List ah)(hout:af out=ed l)(b:Bool)(hb:(out.toList.isEmpty||last.toList.isEmpty||(last.toList==[46])||(last.toList==[46,46]))=b):
 Ending.returned (.tuple #[.string (if b=true then out++⟨#[47]⟩ else out),.bool true])=.returned (eI (some (nl (af last) (ed l)))):=
 FM last out l hout b (by rw [←hb];cases out.toList.isEmpty<;>simp)
theorem yQ{w wr w5:World}{v5:Value}{l:List ah}{p:ByteArray}(h:Sm No w wr)(hown:w5.ownsRow w.heap.size 9 1 v5 (0+l.length) ([]++l.map aP))(hs:Sm (fun b=>(Value.slice (some ⟨wr.heap.size,0,none⟩) 0 0).ownBlock=some b) (wr.alloc (.cells #[] 9)) w5):
 (w5.alloc (.cells #[.string p] 9)).ownsRow w.heap.size 9 1 v5 l.length (l.map aP)∧Sm No w (w5.alloc (.cells #[.string p] 9))∧bi w5 w.heap.size v5 l∧w.heap.size≤(w5.alloc (.cells #[.string p] 9)).heap.size:=by
 have hO5:bi w5 w.heap.size v5 l:=by
  unfold bi;rw [Nat.zero_add,List.nil_append] at hown;exact hown
 have hS5:Sm No w w5:=(((h.alloc (.cells #[] 9)).any (fun b=>(Value.slice (some ⟨wr.heap.size,0,none⟩) 0 0).ownBlock=some b)).tt hs).mono (fun b hb e=>by
  have:=h.size;simp [Value.ownBlock] at e;omega)
 exact⟨World.ownsRow.alloc hO5 _,hS5.alloc _,hO5,(hS5.alloc _).size⟩
theorem uZ(s:ByteArray)(hs:s.size≤900000)(w:World):
 Calls Tryz.prog 89 #[.string s] w fun e w'=>e=.returned (eI (bt (af s)))∧Sm No w w':=by
 by_cases h0:s.size=0
 ·have hn:af s=[]:=List.eq_nil_of_length_eq_zero (by rw [ag];exact h0);have hR:bt (af s)=none:=iS (by rw [hn];simp);rw [hR];have h1:s.toList.isEmpty=true:=by rw [cE,hn];rfl
  clear hn h0 hR;go_in;go_wp2_with fail;go_ret2;exact⟨rfl,Sm.refl _ _⟩
 ·have h2:0 < s.size:=by omega
  have h1:s.toList.isEmpty=false:=by rw [cE,decide_eq_false_iff_not];intro e;have:=ag s;rw [e] at this;simp at this;omega
  have hh:=rc s h2;by_cases hq0:s[0]=47
  ·have hq:((s[0].toNat:Int) != 47)=false:=by simp [hq0]
   rw [hq0] at hh;obtain⟨R,hR⟩:=ai (bt (af s));rw [hR];obtain⟨rest,hrest⟩:∃ rest,af s=47::rest:=by
    cases hts:af s with
    |nil=>rw [hts] at hh;cases hh
    |cons a r=>rw [hts] at hh;injection hh with hh;exact⟨r,by rw [hh]⟩
   have hqt:af (s.extract 1 s.size++⟨#[47]⟩)=rest++[47]:=by
    rw [du,bz,List.take_of_length_le (by rw [ag];exact Nat.le_refl _),hrest];rfl
   have hR2:=hR;rw [hrest,qc] at hR2;have hqz:(s.extract 1 s.size++(⟨#[47]⟩:ByteArray)).size=s.size:=by
    rw [←ag,hqt,←ag s,hrest];simp
   have HG:=aa (ab hqt (ab hR2 hqz));clear hh hR h0 hq0 hqt hqz hrest hR2;go_in;go_wp2_with fail;generalize s.extract 1 s.size++(⟨#[47]⟩:ByteArray)=q at HG ⊢;have hqz:q.size=s.size:=HG.out.2.2;have hqs:q.size≤900000:=by omega
   have HQ:=aa hqz;clear hqz
   go_loopw [4,5,7,8] (fun v lv fv iv wr=>F5 w q (dn (some []) (bF 47 [] (af q)),(bF 47 [] (af q)).getLastD []) v lv fv iv wr) (fun _ _ _ i _=>q.size-(intOf i).toNat)
   case atStart=>exact⟨0,0,[],⟨#[]⟩,Nat.zero_le _,Nat.le_refl _,rfl,rfl,rfl,rfl,by simp [wt],World.ownsRow_nil _ _ _ 1,Sm.refl _ _,Nat.zero_le _⟩
   case round=>
    obtain⟨i,f,l,last,hi,hf,rfl,rfl,rfl,hT,hW,hO,hsm,hll⟩:=hrel;obtain⟨A0,c0,rfl,hrow,_,hnc⟩:=au hO;have hlm:l.length≤900000:=by have:=lY l;omega
    have HK:=aa (ab hT (ab hW (ab hO (ab hsm (ab hrow hnc)))));clear hT hW hO hsm hrow hnc;have i1:(0:Int)≤(i:Int):=by omega
    have f1:(0:Int)≤(f:Int):=by omega
    have f2:(f:Int)≤(i:Int):=by omega
    by_cases hlt:i < q.size
    ·have i2:(i:Int) < (q.size:Int):=by omega
     by_cases hc:q[i]=47
     ·have ht:((q[i].toNat:Int) != 47)=false:=by simp [hc]
      have hsl:=As q (f:=f) hlt hc;obtain⟨p,hp⟩:=ai (q.extract f i);have htp:af p=((af q).take i).drop f:=by rw [←hp,bz]
      have hpz:p.size=i-f:=by rw [←ag,htp];simp [ag];omega
      have hT:(dn (some []) (bF 47 [] (af q)),(bF 47 [] (af q)).getLastD [])=(dn (fu (some l) (af p)) (bF 47 (((af q).take (i+1)).drop (i+1)) ((af q).drop (i+1))),(bF 47 (((af q).take (i+1)).drop (i+1)) ((af q).drop (i+1))).getLastD (af p)):=by
       rw [HK.out.1,hsl,gP,List.getLastD_cons,←htp]
      have HX:=aa (ab hT hpz);have hpq:p.size≤q.size:=by omega
      have hwn:wt l+(p.size+1)≤i+1:=by have:=HK.out.2.1;omega
      clear hsl htp hpz hT hc;have e1:p.toList.isEmpty=decide (af p=[]):=cE p;have e2:(p.toList==[46])=decide (af p=[46]):=cN p _;have e3:(p.toList==[46,46])=decide (af p=[46,46]):=cN p _;by_cases c1:af p=[]
      ·have hT:=HX.out.1;rw [fH _ _ (Or.inl c1)] at hT;have HT:=aa hT;rw [c1] at e1;have e1':p.toList.isEmpty=true:=e1;clear hT e1 e2 e3 c1;go_wp2_with fail;exact⟨⟨i+1,i+1,l,p,by omega,Nat.le_refl _,by go_num,by go_num,rfl,HT.out,by omega,HK.out.2.2.1,HK.out.2.2.2.1,hpq⟩,by simp [intOf];omega⟩
      ·have e1':p.toList.isEmpty=false:=by rw [e1,decide_eq_false_iff_not];exact c1
       by_cases c2:af p=[46]
       ·have hT:=HX.out.1;rw [fH _ _ (Or.inr c2)] at hT;have HT:=aa hT;have e2':(p.toList==[46])=true:=by rw [e2,c2];rfl
        clear hT e1 e2 e3 c1 c2;go_wp2_with fail;exact⟨⟨i+1,i+1,l,p,by omega,Nat.le_refl _,by go_num,by go_num,rfl,HT.out,by omega,HK.out.2.2.1,HK.out.2.2.2.1,hpq⟩,by simp [intOf];omega⟩
       ·have e2':(p.toList==[46])=false:=by rw [e2,decide_eq_false_iff_not];exact c2
        by_cases c3:af p=[46,46]
        ·have e3':(p.toList==[46,46])=true:=by rw [e3,c3];rfl
         by_cases c4:l=[]
         ·subst c4;have hT:=HX.out.1;rw [c3,oT,jz] at hT;have hR:R=none:=by
           rw [←HG.out.2.1];have e:=(Prod.mk.inj hT).1;rw [HG.out.1] at e;show Option.map _ (dn (some []) (bL 47 rest))=none;unfold bL;rw [e];rfl
          subst hR;clear hT e1 e2 e3 c1 c2 c3;go_wp2_with fail;go_ret2;exact⟨rfl,HK.out.2.2.2.1⟩
         ·have hT:=HX.out.1;rw [show fu (some l) (af p)=some l.dropLast by rw [c3];exact tK _ c4] at hT;obtain⟨g,cap,hv,hcap,hpop⟩:=HK.out.2.2.1.pop c4;injection hv with hv1 hv2 hv3;subst hv1 hv3;have hl1:0 < l.length:=List.length_pos_iff.2 c4;have HT:=aa (ab hT hpop);have e4:((l.length:Int)==0)=false:=by simp;exact c4
          have e5:(((l.length-1:Nat):Int))=(l.length:Int)-1:=by omega
          have hwd:=qq l;clear hT e1 e2 e3 c1 c2 c3 hpop c4;go_wp2_with fail;exact⟨⟨i+1,i+1,l.dropLast,p,by omega,Nat.le_refl _,by go_num,by go_num,rfl,HT.out.1,by omega,(by simpa using HT.out.2),HK.out.2.2.2.1,hpq⟩,by simp [intOf];omega⟩
        ·have e3':(p.toList==[46,46])=false:=by rw [e3,decide_eq_false_iff_not];exact c3
         have hT:=HX.out.1;rw [my _ _ c1 c2 c3] at hT;have HT:=aa hT;have hB1:w.heap.size≤(wr.alloc (.cells #[] 9)).heap.size:=by have:=HK.out.2.2.2.1.size;simp;omega
         have h0l:A0=none→l.length=0∧c0=0:=fun e=>by
          refine⟨?_,HK.out.2.2.2.2.2 e⟩;rcases Nat.eq_zero_or_pos l.length with h|h
          ·exact h
          ·obtain⟨_,_,he,_⟩:=HK.out.2.2.2.2.1 0 (aP l[0]) (by simp [h]);rw [e] at he;cases he
         have HA:=aa (ab (gg wr 9 1 HK.out.2.2.2.1.size) (ab (HK.out.2.2.2.2.1.no ((Sm.refl No wr).alloc (.cells #[] 9))) (ab h0l hB1)));clear hT e1 e2 e3 c1 c2 c3 h0l hB1;go_wp2_with (first
          |(refine bE rfl (.tmp 38) (.tmp 39) 119 9 rfl Tryz.underlying119 _ 1 16 eK rfl (by decide) (by decide) w.heap.size 0 _ [] rfl HA.out.1 A0 l.length c0 (l.map aP) rfl HA.out.2.2.1 (by simp) HA.out.2.1 (by simp [aP,Value.oneCell']) (by omega) HA.out.2.2.2 ?_;intro v5 w5 hown5 hs5 hv5;have HB:=aa (yQ (p:=p) HK.out.2.2.2.1 hown5 hs5);clear hown5 hs5 hv5)
          |(refine aY rfl _ _ 119 9 rfl Tryz.underlying119 _ 1 16 eK rfl (by decide) (by decide) w.heap.size _ _ _ rfl HB.out.1 w5.heap.size #[.string p] rfl (Bk.new w5 _ _) rfl (by simp [Value.oneCell']) (by omega) HB.out.2.2.2 ?_;intro v6 w6 hown6 hs6 hv6))
         have HF:=aa (show bi w6 w.heap.size v6 (l++[af p])∧Sm No w w6 from⟨bi.push (by rw [show aP (af p)=.string p from iB p];exact hown6),HB.out.2.1.trans hs6 (fun b hb e=>by
          have:=(World.ownsRow.lt HB.out.2.2.1 b e).1;omega)⟩)
         clear hown6 hs6 hv6;go_wp2_with fail;exact⟨⟨i+1,i+1,l++[af p],p,by omega,Nat.le_refl _,by go_num,by go_num,rfl,HT.out,by rw [qw,ag];omega,HF.out.1,HF.out.2,hpq⟩,by simp [intOf];omega⟩
     ·have ht:((q[i].toNat:Int) != 47)=true:=by
       have:=dq (c:=q[i]) (n:=47) (by decide) hc;simp at this ⊢;exact this
      have hso:=yZ q (f:=f) hlt hf hc;have hT:=HK.out.1;rw [hso] at hT;have HT:=aa hT;clear hT hso hc;go_wp2_with fail;exact⟨⟨i+1,f,l,last,by omega,by omega,by go_num,rfl,rfl,HT.out,HK.out.2.1,HK.out.2.2.1,HK.out.2.2.2.1,hll⟩,by simp [intOf];omega⟩
    ·have hT:=HK.out.1;have hend:(af q).drop i=[]:=List.drop_eq_nil_of_le (by rw [ag];omega);rw [hend] at hT;have hR:R=some (nl (af last) (ed l)):=by
      rw [←HG.out.2.1];rw [HG.out.1] at hT;show Option.map (fun l=>nl ((bL 47 rest).getLastD []) (ed l)) (dn (some []) (bL 47 rest))=_;unfold bL;rw [(Prod.mk.inj hT).1,(Prod.mk.inj hT).2];rfl
     have hwl:wt l≤q.size:=by have:=HK.out.2.1;omega
     have HE:=aa hR;clear hR hT hend;go_wp2_with fail
     go_loopw [9,10] (fun ov i wr'=>xC w w.heap.size (.slice A0 l.length c0) l ov i wr') (fun _ i _=>l.length-(intOf i).toNat)
     case atStart=>exact⟨0,⟨#[]⟩,Nat.zero_le _,rfl,rfl,rfl,HK.out.2.2.1,HK.out.2.2.2.1⟩
     case round=>
      obtain⟨j,out,hj,rfl,rfl,hout,hO,hsm⟩:=hrel;have hoz:out.size≤q.size:=by have:=lZ l j;rw [←hout,ag] at this;omega
      have HO:=aa (ab hout (ab hO hsm));clear hout hO hsm;by_cases hlt2:j < l.length
      ·have hget:(l.map aP)[j]?=some (aP l[j]):=by simp [hlt2]
       obtain⟨bb,off,hAe,hbb,r0⟩:=(fR HO.out.2.1) _ _ hget;subst hAe;obtain⟨p,hp⟩:∃ p:ByteArray,p=⟨l[j].toArray⟩:=⟨_,rfl⟩;have htp:af p=l[j]:=by rw [hp];rfl
       rw [show aP l[j]=.string p by rw [hp];rfl] at r0;have hnew:af (out++⟨#[47]⟩++p)=ed (l.take (j+1)):=by
        rw [iA hlt2,du,du,HO.out.1,htp,List.append_assoc];rfl
       have hnz:(out++⟨#[47]⟩++p).size≤q.size:=by have:=lZ l (j+1);rw [←hnew,ag] at this;omega
       have hnz0:=hnz;rw [ByteArray.size_append,ByteArray.size_append] at hnz0;have hone:(⟨#[47]⟩:ByteArray).size=1:=rfl;have hpz:p.size≤q.size:=by omega
       have HN:=aa hnew;have k3:(0:Int)≤(j:Int):=by omega
       have k4:(j:Int) < (l.length:Int):=by omega
       clear hnew hget hp htp hnz hnz0 hone;go_wp2_with fail;exact⟨⟨j+1,_,by omega,by go_num,rfl,HN.out,HO.out.2.1,HO.out.2.2⟩,by simp [intOf];omega⟩
      ·have hout:af out=ed l:=by rw [HO.out.1,List.take_of_length_le (by omega)]
       have HF:=aa hout;clear hout;go_wp2_with fail
       all_goals go_ret2
       all_goals refine⟨?_,HO.out.2.2⟩
       all_goals rw [HE.out]
       all_goals first
        |(refine F7 last out l HF.out true ?_;first|(simp [*];done)|(simp only [Bool.or_eq_true];assumption))
        |(refine F7 last out l HF.out false ?_;first|(simp [*];done)|(simp only [Bool.or_eq_false_iff];assumption))
  ·have hq:((s[0].toNat:Int) != 47)=true:=by
    have:=dq (c:=s[0]) (n:=47) (by decide) hq0;simp at this ⊢;exact this
   have hR:bt (af s)=none:=iS (by rw [hh];intro e;injection e with e;exact hq0 e);rw [hR];clear hh hR h0 hq0;go_in;go_wp2_with fail;go_ret2;exact⟨rfl,Sm.refl _ _⟩
theorem Cr(s:ByteArray)(hs:s.size≤140737488351232)(w:World):
 Calls Tryz.prog 90 #[.string s] w fun e w'=>e=.returned (.bool (bG (af s)))∧w=w':=by
 by_cases h2:2≤s.size
 ·obtain⟨p,hp⟩:=ai (s.extract (s.size-2) s.size);have htp:af p=(af s).drop ((af s).length-2):=by rw [←hp,bz,List.take_of_length_le (by rw [ag];exact Nat.le_refl _),ag]
  have hR:bG (af s)=(af p==[47,42]):=by
   unfold bG;rw [←htp,ag];simp [h2]
  rw [hR];have k2:(2:Int)≤(s.size:Int):=by omega
  have k3:(((s.size:Int)-2).toNat)=s.size-2:=by omega
  by_cases hc:af p=[47,42]
  ·have e1:(p.toList==[47,42])=true:=by rw [cN,hc];rfl
   have hf:(af p==([47,42]:ah))=true:=by rw [hc];rfl
   rw [hf];clear htp hR hc hf;go_in;go_wp2_with fail;go_ret;exact⟨rfl,rfl⟩
  ·have e1:(p.toList==[47,42])=false:=by rw [cN,decide_eq_false_iff_not];exact hc
   have hf:(af p==([47,42]:ah))=false:=by simpa using hc
   rw [hf];clear htp hR hc hf;go_in;go_wp2_with fail;go_ret;exact⟨rfl,rfl⟩
 ·have hR:bG (af s)=false:=by unfold bG;rw [ag];simp [h2]
  rw [hR];clear hR;go_in;go_wp2_with fail;go_ret;exact⟨rfl,rfl⟩
theorem ky{s:ByteArray}{b:Bool}(h:Hid (bG (af s)=b))(hs:s.size≤140737488351232)(w:World):
 Calls Tryz.prog 90 #[.string s] w fun e w'=>e=.returned (.bool b)∧w=w':=by rw [←h.out];exact Cr s hs w
theorem lg(s:ByteArray)(hs:s.size≤140737488351232)(w:World):
 Calls Tryz.prog 60 #[.string s] w fun e w'=>e=.returned (.bool (cR (af s)))∧Sm No w w':=by
 obtain⟨R,hR⟩:=ai (cR (af s));rw [hR];unfold cR at hR;rw [ag] at hR;by_cases hz:s.size≤200
 ·have hC:=uZ s (by omega) w;obtain⟨C,hCC⟩:=ai (bt (af s));rw [hCC] at hC hR;have HC:=aa hC;obtain⟨wd,hwd⟩:=ai (bG (af s));rw [hwd] at hR;have HW:=aa hwd;clear hC hwd hCC
  cases C with
  |none=>
   have hR:R=false:=by rw [←hR];simp
   subst hR;go_in;go_wp2_with fail;refine HC.out.mono ?_;rintro e w1 ⟨rfl,hs1⟩;have H1:=aa hs1;clear hs1;unfold eI;go_wp2_with fail;go_ret;exact⟨rfl,H1.out⟩
  |some l=>
   obtain⟨lb,e1,e2⟩:∃ lb:ByteArray,fp l=.string lb∧af lb=l:=⟨⟨l.toArray⟩,rfl,eA l⟩;have e1':eI (some l)=.tuple #[.string lb,.bool true]:=by
    show Value.tuple #[fp l,.bool true]=_;rw [e1]
   rw [e1'] at HC;by_cases hl:l=af s
   ·obtain rfl:s=lb:=by rw [←fr lb,←fr s,e2,hl]
    have hR:R= !wd:=by rw [←hR];simp [hz,hl]
    subst hR;clear e1 e2 e1' hl;go_in;go_wp2_with fail;refine HC.out.mono ?_;rintro e w1 ⟨rfl,hs1⟩;have H1:=aa hs1;clear hs1;go_wp2_with fail;refine(ky HW hs w1).mono ?_;rintro e w2 ⟨rfl,rfl⟩;go_wp2_with fail;go_ret;exact⟨rfl,H1.out⟩
   ·have e3:¬lb.toList=s.toList:=fun e=>hl (e2 ▸ (aN lb (af s)).1 (e.trans ((aN s (af s)).2 rfl)));have hR:R=false:=by rw [←hR];simp [hl]
    subst hR;clear e1 e2 e1' hl;go_in;go_wp2_with fail;refine HC.out.mono ?_;rintro e w1 ⟨rfl,hs1⟩;have H1:=aa hs1;clear hs1;go_wp2_with fail;go_ret;exact⟨rfl,H1.out⟩
 ·have hR:R=false:=by rw [←hR];simp [hz]
  subst hR;go_in;go_wp2_with fail;go_ret;exact⟨rfl,Sm.refl _ _⟩
theorem sb(s:ByteArray)(hs:s.size≤140737488351232)(w:World):
 Calls Tryz.prog 92 #[.string s] w fun e w'=>e=.returned (.bool (kq (af s)))∧Sm No w w':=by
 obtain⟨wd,hwd⟩:=ai (bG (af s));have HW:=aa hwd;obtain⟨R,hR⟩:=ai (kq (af s));rw [hR];unfold kq at hR;rw [hwd,ag] at hR;have HP:=aa (lg s hs w)
 cases wd with
 |false=>
  have hR:cR (af s)=R:=by simpa using hR
  rw [hR] at HP;clear hwd hR;go_in;go_wp2_with fail;refine(ky HW hs w).mono ?_;rintro e w2 ⟨rfl,rfl⟩;go_wp2_with fail;refine HP.out.mono ?_;rintro e w1 ⟨rfl,hs1⟩;have H1:=aa hs1;clear hs1;go_wp2_with fail;go_ret;exact⟨rfl,H1.out⟩
 |true=>
  by_cases hz:s.size≤201
  ·have h2:2≤s.size:=by
    obtain⟨q,hq⟩:=(gv _).1 hwd;rw [←ag,hq];simp
   have hpt:af (s.extract 0 (s.size-1))=(af s).dropLast:=by rw [bz,List.drop_zero,List.dropLast_eq_take,ag]
   have hR:cR (af (s.extract 0 (s.size-1)))=R:=by rw [hpt,←hR];simp [hz]
   have HQ:=aa (lg (s.extract 0 (s.size-1)) (by rw [←ag,hpt];simp [ag];omega) w);rw [hR] at HQ;have k3:(((s.size:Int)-1).toNat)=s.size-1:=by omega
   clear hwd hR hpt HP;go_in;go_wp2_with fail;refine(ky HW hs w).mono ?_;rintro e w2 ⟨rfl,rfl⟩;go_wp2_with fail;refine HQ.out.mono ?_;rintro e w1 ⟨rfl,hs1⟩;have H1:=aa hs1;clear hs1;go_wp2_with fail;go_ret;exact⟨rfl,H1.out⟩
  ·have hR:cR (af s)=R:=by rw [←hR];simp [hz]
   rw [hR] at HP;clear hwd hR;go_in;go_wp2_with fail;refine(ky HW hs w).mono ?_;rintro e w2 ⟨rfl,rfl⟩;go_wp2_with fail;refine HP.out.mono ?_;rintro e w1 ⟨rfl,hs1⟩;have H1:=aa hs1;clear hs1;go_wp2_with fail;go_ret;exact⟨rfl,H1.out⟩
def FN(l:List ah)(m:ah)(i:Value):Prop:=∃ k:Nat,k≤l.length∧i=.int .i64 k∧∀ x∈l.take k,x≠m
theorem AU(w:World)(A:Option Addr)(c:Nat)(l:List ah)(x:ByteArray)(hA:ax w A (l.map aP))(hl:l.length≤1000000):
 Calls Tryz.prog 94 #[.slice A l.length c,.string x] w fun e w'=>e=.returned (.bool (l.contains (af x)))∧w=w':=by
 obtain⟨R,hR⟩:=ai (l.contains (af x));rw [hR];have HA:=aa (ab hA hR);clear hA hR;go_in;go_wp2_with fail
 go_loop [5] (fun i=>FN l (af x) i) (fun i=>l.length-(intOf i).toNat)
 case atStart=>exact⟨0,Nat.zero_le _,rfl,fun x h=>by simp at h⟩
 case round=>
  obtain⟨k,hk,rfl,hno⟩:=hrel;have HN:=aa hno;clear hno;by_cases hlt:k < l.length
  ·obtain⟨bb,off,hAe,hbb,r0⟩:=HA.out.1.at (df hlt);subst hAe;obtain⟨s,hsk⟩:=ai ((⟨l[k].toArray⟩:ByteArray));have hts:af s=l[k]:=by rw [←hsk,eA]
   rw [hsk] at r0;have hmem:=List.getElem_mem hlt;have hst:l[k]≠af x→∀ y∈l.take (k+1),y≠af x:=fun h y hy=>by
    rw [List.take_succ_eq_append_getElem hlt,List.mem_append,List.mem_singleton] at hy;rcases hy with hy|rfl
    ·exact HN.out y hy
    ·exact h
   rw [←hts] at hmem hst;have HX:=aa (ab hmem hst);have k1:(0:Int)≤(k:Int):=by omega
   have k2:(k:Int) < (l.length:Int):=by omega
   clear hsk hts hmem hst;by_cases hx:af s=af x
   ·obtain rfl:s=x:=by rw [←fr s,←fr x,hx]
    have hRt:R=true:=by rw [←HA.out.2];exact List.contains_iff_mem.2 HX.out.1
    subst hRt;clear hx;go_wp2_with fail;go_ret;exact⟨rfl,rfl⟩
   ·have e3:¬s.toList=x.toList:=fun e=>hx ((aN s (af x)).1 (e.trans ((aN x (af x)).2 rfl)));have e4:(s.toList==x.toList)=false:=by simpa using e3
    have HY:=aa (HX.out.2 hx);clear hx;go_wp2_with fail
    go_round
    case rel=>exact⟨k+1,by omega,by go_num,HY.out⟩
    case measure=>simp [intOf];omega
  ·have hRf:R=false:=by
    rw [←HA.out.2];rw [Bool.eq_false_iff];intro h;have hm:=List.contains_iff_mem.1 h;exact HN.out _ (by rw [List.take_of_length_le (by omega)];exact hm) rfl
   subst hRf;go_wp2_with fail;go_ret;exact⟨rfl,rfl⟩
theorem rY{l:List ah}{x:ByteArray}{b:Bool}(h:Hid (l.contains (af x)=b))(w:World)(A:Option Addr)(c:Nat)(hA:ax w A (l.map aP))(hl:l.length≤1000000):
 Calls Tryz.prog 94 #[.slice A l.length c,.string x] w fun e w'=>e=.returned (.bool b)∧w=w':=by rw [←h.out];exact AU w A c l x hA hl
section
variable {P:Program} {ops:Array Oper} {o:Oper} {a:Act} {w:World} {Q:Exit→Act→World→Prop}
theorem jq {E:Prop} {K:Act→World→Prop} (hgd:o.guard=none) (s x:Operand) (st t:TypeId)
 (ho:o.op=.call {callee:=.builtin .append,args:=#[s,x],argTypes:=#[st,st]}) (ht:P.underlying st=some (.slice t))
 (z:Value) (size bytes:Nat) (hi:(P.info? t).map (fun i=>(i.zero,i.size,i.bytes))=some (some z,size,bytes)) (hzs:z.cells.size=size) (hsz:0 < size) (hby:bytes≤1000)
 (B n:Nat) (v:Value) (xs:List Value) (hs:a.eval s=v) (hown:w.ownsRow B t size v n xs)
 (A:Option Addr) (m c:Nat) (news:List Value) (hx:a.eval x=.slice A m c) (h0:A=none→m=0∧c=0) (hl:news.length=m * size) (hrow:ax w A news) (h1:∀ u∈news,u.oneCell'=true) (hn:n+m≤1000001) (hB:B≤w.heap.size)
 (h:∀ A' c' w',w'.ownsRow B t size (.slice A' (n+m) c') (n+m) (xs++news)→Sm (fun b=>v.ownBlock=some b) w w'→((Value.slice A' (n+m) c').ownBlock=v.ownBlock∨(Value.slice A' (n+m) c').ownBlock=some w.heap.size)→K (a.put o.dst (.slice A' (n+m) c')) w'):
 if Region.wanted o (yielded ops a.tmps)=true then Oper.wp P o a w K Q else E:=by
 have hw:Region.wanted o (yielded ops a.tmps)=true:=by simp [Region.wanted,hgd]
 rw [if_pos hw];obtain⟨i0,hi0,hz0,hz1,hz2⟩:=info_parts hi;have hr:∃ v' w',(Builtin.append_ #[st,st] o.type #[v,.slice A m c]).run P w=.ok v' w'∧w'.ownsRow B t size v' (n+m) (xs++news)∧Sm (fun b=>v.ownBlock=some b) w w'∧(v'.ownBlock=v.ownBlock∨v'.ownBlock=some w.heap.size):=by
  cases A with
  |some ad=>
   obtain⟨v',w',h2,h3,h4,_,h6⟩:=run_append_own_at (P:=P) w B st o.type t i0 z size bytes ht hi0 hz0 hz1 hz2 hzs hsz v n xs hown ad m c news hl (hrow.news rfl) h1 (by unfold maxLen;omega)
    (by have:(n+m) * bytes≤1000001 * 1000:=Nat.mul_le_mul (by omega) hby
        omega) hB
   exact⟨v',w',h2,h3,(Sm.refl _ w).grown h4 (fun k hk=>Or.inl hk),h6⟩
  |none=>
   obtain⟨rfl,rfl⟩:=h0 rfl;have hnn:news=[]:=List.eq_nil_of_length_eq_zero (by rw [hl];simp);subst hnn;exact⟨v,w,run_append_owned_none (P:=P) (w:=w) B st o.type t i0 size ht hi0 v n xs hown,by simpa using hown,Sm.refl _ _,Or.inl rfl⟩
 obtain⟨v',w',h2,h3,h4,h6⟩:=hr;obtain⟨A',c',rfl,_,_,_⟩:=au h3;unfold Oper.wp execOp;simp only [ho,resolve,invoke,builtin,Sem.run_bind,Sem.run_pure,Result.andThen_ok,List.map_toArray,List.map_cons,List.map_nil,hs,hx,h2];exact h A' c' w' h3 h4 h6
theorem mE {E:Prop} {K:Act→World→Prop} (hgd:o.guard=none) (s x:Operand) (st t:TypeId)
 (ho:o.op=.call {callee:=.builtin .append,args:=#[s,x],argTypes:=#[st,st]}) (ht:P.underlying st=some (.slice t))
 (z:Value) (size bytes:Nat) (hi:(P.info? t).map (fun i=>(i.zero,i.size,i.bytes))=some (some z,size,bytes)) (hzs:z.cells.size=size) (hsz:0 < size) (hby:bytes≤1000)
 (B:Nat) (v:Value) (hs:a.eval s=v) (hown:w.ownsRow B t size v 0 [])
 (A:Option Addr) (m c:Nat) (news:List Value) (hx:a.eval x=.slice A m c) (h0:A=none→m=0∧c=0) (hl:news.length=m * size) (hrow:ax w A news) (h1:∀ u∈news,u.oneCell'=true) (hn:m≤1000001) (hB:B≤w.heap.size)
 (h:∀ A' c' w',w'.ownsRow B t size (.slice A' m c') m news→Sm (fun b=>v.ownBlock=some b) w w'→((Value.slice A' m c').ownBlock=v.ownBlock∨(Value.slice A' m c').ownBlock=some w.heap.size)→K (a.put o.dst (.slice A' m c')) w'):
 if Region.wanted o (yielded ops a.tmps)=true then Oper.wp P o a w K Q else E:=
 jq hgd s x st t ho ht z size bytes hi hzs hsz hby B 0 v [] hs hown A m c news hx h0 hl hrow h1 (by omega) hB (fun A' c' w' g1 g2 g3=>by
  rw [Nat.zero_add] at g1 g3 ⊢;exact h A' c' w' (by simpa using g1) g2 g3)
end
def jw(l:List (Lt × Value)):List Value:=l.flatMap fun x=>[fp x.1.pat,.int .i64 x.1.id,x.2]
theorem yy{l:List (Lt × Value)}{k:Nat}(h:k < l.length):(jw l)[k * 3]?=some (fp l[k].1.pat)∧(jw l)[k * 3+1]?=some (.int .i64 l[k].1.id)∧(jw l)[k * 3+2]?=some l[k].2:=by
 induction l generalizing k with
 |nil=>simp at h
 |cons x l ih=>
  cases k with
  |zero=>exact⟨rfl,rfl,rfl⟩
  |succ k=>
   obtain⟨h1,h2,h3⟩:=ih (k:=k) (by simpa using h);have e1:(k+1) * 3=k * 3+3:=by omega
   rw [e1];exact⟨h1,h2,h3⟩
theorem FH:(Tryz.prog.info? 121).map (fun i=>(i.zero,i.size,i.bytes))=some (some (.agg #[.string ⟨#[]⟩,.int .i64 0,.slice none 0 0]),3,48):=by kernel_rfl
def AH(tt:TypeId)(tl:List Value)(w:World)(O:Nat→Prop)(r:Nat)(L:List Lt)(v:Value)(l:List (Lt × Value)):Prop:=
 Bk w r tt (v::tl).toArray∧w.ownsRow 0 121 3 v L.length (jw l)∧l.map Prod.fst=L∧(∀ x∈l,bi w 0 x.2 x.1.ms)∧O r∧(∀ g,v.ownBlock=some g→O g)∧(∀ x∈l,∀ g,x.2.ownBlock=some g→O g)∧(∀ b,O b→b < w.heap.size)∧tt≠121∧tt≠9
def dk(tt:TypeId)(tl:List Value)(w:World)(O:Nat→Prop)(r:Nat)(L:List Lt):Prop:=∃ v l,AH tt tl w O r L v l
variable {tt:TypeId} {tl:List Value}
theorem AH.sm{S O:Nat→Prop}{w w':World}{r:Nat}{L:List Lt}{v:Value}{l:List (Lt × Value)}(h:AH tt tl w O r L v l)(hs:Sm S w w')(hS:∀ b,O b→¬S b):AH tt tl w' O r L v l:=by
 obtain⟨h1,h2,h3,h4,h5,h6,h7,h8,h9⟩:=h;exact⟨h1.sm hs (hS r h5),ae h2 hs (fun g hg=>hS g (h6 g hg)),h3,fun x hx=>ae (h4 x hx) hs (fun g hg=>hS g (h7 x hx g hg)),h5,h6,h7,fun b hb=>Nat.lt_of_lt_of_le (h8 b hb) hs.size,h9⟩
theorem AH.no{O:Nat→Prop}{w w':World}{r:Nat}{L:List Lt}{v:Value}{l:List (Lt × Value)}(h:AH tt tl w O r L v l)(hs:Sm No w w'):AH tt tl w' O r L v l:=h.sm hs (fun _ _ h=>h)
theorem dk.sm{S O:Nat→Prop}{w w':World}{r:Nat}{L:List Lt}(h:dk tt tl w O r L)(hs:Sm S w w')(hS:∀ b,O b→¬S b):dk tt tl w' O r L:=by
 obtain⟨v,l,h⟩:=h;exact⟨v,l,h.sm hs hS⟩
theorem dk.no{O:Nat→Prop}{w w':World}{r:Nat}{L:List Lt}(h:dk tt tl w O r L)(hs:Sm No w w'):dk tt tl w' O r L:=h.sm hs (fun _ _ h=>h)
theorem AH.form{O:Nat→Prop}{w:World}{r:Nat}{L:List Lt}{v:Value}{l:List (Lt × Value)}(h:AH tt tl w O r L v l):∃ A c,v=.slice A L.length c:=by
 obtain⟨A,c,hv,_⟩:=au h.2.1;exact⟨A,c,hv⟩
theorem AH.get{O:Nat→Prop}{w:World}{r n c:Nat}{L:List Lt}{A:Option Addr}{l:List (Lt × Value)}(h:AH tt tl w O r L (.slice A n c) l){k:Nat}(hk:k < L.length):
 ∃ g A2 c2,A=some ⟨g,0,none⟩∧w.cell? ⟨g,k * 3,none⟩=some (fp L[k].pat)∧w.cell? ⟨g,k * 3+1,none⟩=some (.int .i64 L[k].id)∧w.cell? ⟨g,k * 3+2,none⟩=some (.slice A2 L[k].ms.length c2)∧ax w A2 (L[k].ms.map aP)∧(A2=none→c2=0):=by
 obtain⟨_,h2,rfl,h4,_⟩:=h;have hk':k < l.length:=by simpa using hk
 rcases aK h2 with ⟨_,h0,_⟩|⟨g,cap,hv,_,_,hb,_,hx,_⟩
 ·simp at h0;subst h0;simp at hk'
 ·injection hv with hv;subst hv;obtain⟨e1,e2,e3⟩:=yy hk';obtain⟨A2,c2,hv2,hR,_,hn⟩:=au (h4 l[k] (List.getElem_mem hk'));have eL:(l.map Prod.fst)[k]=l[k].1:=by simp
  refine⟨g,A2,c2,rfl,?_,?_,?_,?_,hn⟩
  ·rw [eL];exact hx _ _ e1
  ·rw [eL];exact hx _ _ e2
  ·rw [eL,←hv2];exact hx _ _ e3
  ·rw [eL];exact hR
def cr(tt:TypeId)(tl:List Value)(w:World)(O:Nat→Prop)(r:Nat)(L:List Lt)(x:Lt)(e:Ending)(w':World):Prop:=
 e=.returned (.int .i64 (bW L x))∧∃ O':Nat→Prop,dk tt tl w' O' r (fX L x)∧Sm O w w'∧∀ b,O' b→O b∨w.heap.size≤b
theorem cr.not{w w':World}{O:Nat→Prop}{r:Nat}{L:List Lt}{x:Lt}{c:Int}(hc:bW L x=c)(h0:c≠0)(h:dk tt tl w O r L)(hs:Sm No w w'):cr tt tl w O r L x (.returned (.int .i64 c)) w':=by
 refine⟨by rw [hc],O,?_,hs.any _,fun b hb=>Or.inl hb⟩;unfold fX;rw [if_neg (by rw [hc];exact h0)];exact h.no hs
theorem cr.yes {w w4 w5 w6:World} {O:Nat→Prop} {r:Nat} {L:List Lt} {x:Lt} {v:Value} {l:List (Lt × Value)} {cv v':Value} (hc:bW L x=0) (h:AH tt tl w O r L v l) (s4:Sm No w w4) (hcv:bi w4 w.heap.size cv x.ms) (s5:Sm No w4 w5)
 (hv:w6.ownsRow 0 121 3 v' (L.length+1) (jw l++[fp x.pat,.int .i64 x.id,cv])) (s6:Sm (fun b=>v.ownBlock=some b) w5 w6) (hb:v'.ownBlock=v.ownBlock∨v'.ownBlock=some w5.heap.size):
 cr tt tl w O r L x (.returned (.int .i64 0)) (w6.setCell ⟨r,0,none⟩ v'):=by
 obtain⟨h1,h2,h3,h4,h5,h6,h7,h8,h9,h10⟩:=h;have z4:=s4.size;have z5:=s5.size;have z6:=s6.size;have hrv:v.ownBlock≠some r:=am h2 h1 (fun e=>h9 e.symm);have s7:Sm (fun b=>b=r) w6 (w6.setCell ⟨r,0,none⟩ v'):=(Sm.refl _ w6).set1 0 _;have s47:Sm (fun b=>v.ownBlock=some b∨b=r) w4 (w6.setCell ⟨r,0,none⟩ v'):=((s5.any _).trans s6 (fun b _ e=>Or.inl e)).trans s7 (fun b _ e=>Or.inr e);have s17:Sm (fun b=>v.ownBlock=some b∨b=r) w (w6.setCell ⟨r,0,none⟩ v'):=(s4.any _).trans s47 (fun b _ e=>e);have hrlt:=h8 r h5;have hv'r:v'.ownBlock≠some r:=by
  rcases hb with e|e
  ·rw [e];exact hrv
  ·rw [e];intro e;injection e with e;omega
 have hvlt:∀ g,v.ownBlock=some g→g < w.heap.size:=fun g hg=>fY h2 hg;refine⟨by rw [hc],(fun b=>O b∨(w.heap.size≤b∧b < w6.heap.size)),?_,s17.mono (fun b _ e=> ?_),fun b hb=>hb.elim Or.inl (fun h=>Or.inr h.1)⟩
 ·unfold fX;rw [if_pos hc];refine⟨v',l++[(x,cv)],((((h1.sm s4 (fun h=>h)).sm s5 (fun h=>h)).sm s6 hrv).set 0 _).eq (by simp),?_,by rw [List.map_append,h3];rfl,fun y hy=> ?_,Or.inl h5,fun g hg=> ?_,fun y hy g hg=> ?_,fun b hb=> ?_,h9,h10⟩
  ·have:=ae hv s7 (fun b e hS=>hv'r (hS ▸ e));rw [List.length_append,jw,List.flatMap_append];exact this
  ·rcases List.mem_append.1 hy with hy|hy
   ·exact ae (h4 y hy) s17 (fun b e hS=>by
     rcases hS with hS|rfl
     ·exact lx (h4 y hy) h2 (by decide) e hS
     ·exact am (h4 y hy) h1 (fun e=>h10 e.symm) e)
   ·rw [List.mem_singleton] at hy;subst hy;exact bI (ae hcv s47 (fun b e hS=>by
     have hge:=(World.ownsRow.lt hcv _ e).1;rcases hS with hS|rfl
     ·have:=hvlt _ hS;omega
     ·omega)) (fun _ _=>Nat.zero_le _)
  ·rcases hb with g2|g2
   ·exact Or.inl (h6 g (g2 ▸ hg))
   ·have:=fY hv hg;rw [g2] at hg;injection hg with hg;exact Or.inr ⟨by omega,by omega⟩
  ·rcases List.mem_append.1 hy with hy|hy
   ·exact Or.inl (h7 y hy g hg)
   ·rw [List.mem_singleton] at hy;subst hy;have:=fY hcv hg;have:=(World.ownsRow.lt hcv _ hg).1;exact Or.inr ⟨by omega,by omega⟩
  ·have e0:(w6.setCell ⟨r,0,none⟩ v').heap.size=w6.heap.size:=by simp
   rw [e0];rcases hb with hb|hb
   ·have:=h8 b hb;omega
   ·exact hb.2
 ·rcases e with e|rfl
  ·exact h6 b e
  ·exact h5
end Go.Proofs.YtadcjgopaadfjaaGreatDoor
