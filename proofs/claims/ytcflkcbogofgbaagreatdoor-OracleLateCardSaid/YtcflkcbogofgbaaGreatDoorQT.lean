import Derived.Test.YtcflkcbogofgbaaGreatDoorQI
import Derived.Test.YtcflkcbogofgbaaGreatDoorQO
import Derived.Test.YtcflkcbogofgbaaGreatDoorQR
import Derived.Deep.QuietTactic
import Derived.BigQuiet
import Derived.Deep.RegionHeld3
set_option maxHeartbeats 4000000
set_option maxRecDepth 100000
namespace Go.Proofs.YtcflkcbogofgbaaGreatDoor
open Go.RowKit Go.Proofs
def Ho(w:World)(q:ByteArray)(T:Option (List af) × af)(v lv fv iv:Value)(wr:World):Prop:=
 ∃ (i f:Nat) (l:List af) (last:ByteArray),i≤q.size∧f≤i∧iv=.int .i64 i∧fv=.int .i64 f∧lv=.string last∧
   T=(dP (some l) (bV 47 (((ab q).take i).drop f) ((ab q).drop i)),(bV 47 (((ab q).take i).drop f) ((ab q).drop i)).getLastD (ab last))∧wt l≤f∧bo wr w.heap.size v l∧Sm No w wr∧last.size≤q.size
theorem un(q:ByteArray){i:Nat}(h:i < q.size):(ab q).drop i=q[i]::(ab q).drop (i+1):=bL q i h
theorem DU(q:ByteArray){i:Nat}(h:i < q.size):(ab q).take (i+1)=(ab q).take i++[q[i]]:=by
 rw [List.take_succ_eq_append_getElem (by rw [ae];exact h)];rfl
theorem yJ(q:ByteArray){i f:Nat}(h:i < q.size)(hf:f≤i)(hc:q[i]≠47):
 bV 47 (((ab q).take i).drop f) ((ab q).drop i)=bV 47 (((ab q).take (i+1)).drop f) ((ab q).drop (i+1)):=by
 rw [un q h,bV,if_neg hc,DU q h,List.drop_append_of_le_length (by rw [List.length_take,ae];omega)]
theorem zM(q:ByteArray){i f:Nat}(h:i < q.size)(hc:q[i]=47):
 bV 47 (((ab q).take i).drop f) ((ab q).drop i)=((ab q).take i).drop f::bV 47 (((ab q).take (i+1)).drop (i+1)) ((ab q).drop (i+1)):=by
 rw [un q h,bV,if_pos hc];congr 2;rw [List.drop_eq_nil_of_le (by simp;omega)]
theorem aN(q:ByteArray)(f i:Nat):ab (q.extract f i)=((ab q).take i).drop f:=by
 unfold ab;rw [Lib.extract_data,List.drop_take]
theorem Hi(last out:ByteArray)(l:List af)(hout:ab out=eN l)(b:Bool)(hb:(out.toList.isEmpty||last.toList.isEmpty||(last.toList==[46])||(last.toList==[46,46]))=b):
 Ending.returned (.tuple #[.string (if b=true then out++⟨#[47]⟩ else out),.bool true])=.returned (dV (some (oP (ab last) (eN l)))):=
 GT last out l hout b (by rw [←hb];cases out.toList.isEmpty<;>simp)
theorem Bg{w wr w5:World}{v5:Value}{l:List af}{p:ByteArray}(h:Sm No w wr)(hown:w5.ownsRow w.heap.size 9 1 v5 (0+l.length) ([]++l.map aX))(hs:Sm (fun b=>(Value.slice (some ⟨wr.heap.size,0,none⟩) 0 0).ownBlock=some b) (wr.alloc (.cells #[] 9)) w5):
 (w5.alloc (.cells #[.string p] 9)).ownsRow w.heap.size 9 1 v5 l.length (l.map aX)∧Sm No w (w5.alloc (.cells #[.string p] 9))∧bo w5 w.heap.size v5 l∧w.heap.size≤(w5.alloc (.cells #[.string p] 9)).heap.size:=by
 have hO5:bo w5 w.heap.size v5 l:=by
  unfold bo;rw [Nat.zero_add,List.nil_append] at hown;exact hown
 have hS5:Sm No w w5:=(((h.alloc (.cells #[] 9)).any (fun b=>(Value.slice (some ⟨wr.heap.size,0,none⟩) 0 0).ownBlock=some b)).tt hs).mono (fun b hb e=>by
  have:=h.size;simp [Value.ownBlock] at e;omega)
 exact⟨World.ownsRow.alloc hO5 _,hS5.alloc _,hO5,(hS5.alloc _).size⟩
theorem pi(s:ByteArray)(hs:s.size≤900000)(w:World):
 Calls Tryz.prog 127 #[.string s] w fun e w'=>e=.returned (dV (bG (ab s)))∧Sm No w w':=by
 by_cases h0:s.size=0
 ·have hn:ab s=[]:=List.eq_nil_of_length_eq_zero (by rw [ae];exact h0);have hR:bG (ab s)=none:=jv (by rw [hn];simp);rw [hR];have h1:s.toList.isEmpty=true:=by rw [cO,hn];rfl
  clear hn h0 hR;go_in;go_wp2_with fail;go_ret2;exact⟨rfl,Sm.refl _ _⟩
 ·have h2:0 < s.size:=by omega
  have h1:s.toList.isEmpty=false:=by rw [cO,decide_eq_false_iff_not];intro e;have:=ae s;rw [e] at this;simp at this;omega
  have hh:=uY s h2;by_cases hq0:s[0]=47
  ·have hq:((s[0].toNat:Int) != 47)=false:=by simp [hq0]
   rw [hq0] at hh;obtain⟨R,hR⟩:=Iu (bG (ab s));rw [hR];obtain⟨rest,hrest⟩:∃ rest,ab s=47::rest:=by
    cases hts:ab s with
    |nil=>rw [hts] at hh;cases hh
    |cons a r=>rw [hts] at hh;injection hh with hh;exact⟨r,by rw [hh]⟩
   have hqt:ab (s.extract 1 s.size++⟨#[47]⟩)=rest++[47]:=by
    rw [dT,aN,List.take_of_length_le (by rw [ae];exact Nat.le_refl _),hrest];rfl
   have hR2:=hR;rw [hrest,rl] at hR2;have hqz:(s.extract 1 s.size++(⟨#[47]⟩:ByteArray)).size=s.size:=by
    rw [←ae,hqt,←ae s,hrest];simp
   have HG:=ns (BT hqt (BT hR2 hqz));clear hh hR h0 hq0 hqt hqz hrest hR2;go_in;go_wp2_with fail;generalize s.extract 1 s.size++(⟨#[47]⟩:ByteArray)=q at HG ⊢;have hqz:q.size=s.size:=HG.out.2.2;have hqs:q.size≤900000:=by omega
   have HQ:=ns hqz;clear hqz
   go_loopw [4,5,7,8] (fun v lv fv iv wr=>Ho w q (dP (some []) (bV 47 [] (ab q)),(bV 47 [] (ab q)).getLastD []) v lv fv iv wr) (fun _ _ _ i _=>q.size-(intOf i).toNat)
   case atStart=>exact⟨0,0,[],⟨#[]⟩,Nat.zero_le _,Nat.le_refl _,rfl,rfl,rfl,rfl,by simp [wt],World.ownsRow_nil _ _ _ 1,Sm.refl _ _,Nat.zero_le _⟩
   case round=>
    obtain⟨i,f,l,last,hi,hf,rfl,rfl,rfl,hT,hW,hO,hsm,hll⟩:=hrel;obtain⟨A0,c0,rfl,hrow,_,hnc⟩:=ak hO;have hlm:l.length≤900000:=by have:=mZ l;omega
    have HK:=ns (BT hT (BT hW (BT hO (BT hsm (BT hrow hnc)))));clear hT hW hO hsm hrow hnc;have i1:(0:Int)≤(i:Int):=by omega
    have f1:(0:Int)≤(f:Int):=by omega
    have f2:(f:Int)≤(i:Int):=by omega
    by_cases hlt:i < q.size
    ·have i2:(i:Int) < (q.size:Int):=by omega
     by_cases hc:q[i]=47
     ·have ht:((q[i].toNat:Int) != 47)=false:=by simp [hc]
      have hsl:=zM q (f:=f) hlt hc;obtain⟨p,hp⟩:=Iu (q.extract f i);have htp:ab p=((ab q).take i).drop f:=by rw [←hp,aN]
      have hpz:p.size=i-f:=by rw [←ae,htp];simp [ae];omega
      have hT:(dP (some []) (bV 47 [] (ab q)),(bV 47 [] (ab q)).getLastD [])=(dP (fR (some l) (ab p)) (bV 47 (((ab q).take (i+1)).drop (i+1)) ((ab q).drop (i+1))),(bV 47 (((ab q).take (i+1)).drop (i+1)) ((ab q).drop (i+1))).getLastD (ab p)):=by
       rw [HK.out.1,hsl,il,List.getLastD_cons,←htp]
      have HX:=ns (BT hT hpz);have hpq:p.size≤q.size:=by omega
      have hwn:wt l+(p.size+1)≤i+1:=by have:=HK.out.2.1;omega
      clear hsl htp hpz hT hc;have e1:p.toList.isEmpty=decide (ab p=[]):=cO p;have e2:(p.toList==[46])=decide (ab p=[46]):=dQ p _;have e3:(p.toList==[46,46])=decide (ab p=[46,46]):=dQ p _;by_cases c1:ab p=[]
      ·have hT:=HX.out.1;rw [fP _ _ (Or.inl c1)] at hT;have HT:=ns hT;rw [c1] at e1;have e1':p.toList.isEmpty=true:=e1;clear hT e1 e2 e3 c1;go_wp2_with fail;exact⟨⟨i+1,i+1,l,p,by omega,Nat.le_refl _,by go_num,by go_num,rfl,HT.out,by omega,HK.out.2.2.1,HK.out.2.2.2.1,hpq⟩,by simp [intOf];omega⟩
      ·have e1':p.toList.isEmpty=false:=by rw [e1,decide_eq_false_iff_not];exact c1
       by_cases c2:ab p=[46]
       ·have hT:=HX.out.1;rw [fP _ _ (Or.inr c2)] at hT;have HT:=ns hT;have e2':(p.toList==[46])=true:=by rw [e2,c2];rfl
        clear hT e1 e2 e3 c1 c2;go_wp2_with fail;exact⟨⟨i+1,i+1,l,p,by omega,Nat.le_refl _,by go_num,by go_num,rfl,HT.out,by omega,HK.out.2.2.1,HK.out.2.2.2.1,hpq⟩,by simp [intOf];omega⟩
       ·have e2':(p.toList==[46])=false:=by rw [e2,decide_eq_false_iff_not];exact c2
        by_cases c3:ab p=[46,46]
        ·have e3':(p.toList==[46,46])=true:=by rw [e3,c3];rfl
         by_cases c4:l=[]
         ·subst c4;have hT:=HX.out.1;rw [c3,pS,kh] at hT;have hR:R=none:=by
           rw [←HG.out.2.1];have e:=(Prod.mk.inj hT).1;rw [HG.out.1] at e;show Option.map _ (dP (some []) (cc 47 rest))=none;unfold cc;rw [e];rfl
          subst hR;clear hT e1 e2 e3 c1 c2 c3;go_wp2_with fail;go_ret2;exact⟨rfl,HK.out.2.2.2.1⟩
         ·have hT:=HX.out.1;rw [show fR (some l) (ab p)=some l.dropLast by rw [c3];exact sx _ c4] at hT;obtain⟨g,cap,hv,hcap,hpop⟩:=HK.out.2.2.1.pop c4;injection hv with hv1 hv2 hv3;subst hv1 hv3;have hl1:0 < l.length:=List.length_pos_iff.2 c4;have HT:=ns (BT hT hpop);have e4:((l.length:Int)==0)=false:=by simp;exact c4
          have e5:(((l.length-1:Nat):Int))=(l.length:Int)-1:=by omega
          have hwd:=qR l;clear hT e1 e2 e3 c1 c2 c3 hpop c4;go_wp2_with fail;exact⟨⟨i+1,i+1,l.dropLast,p,by omega,Nat.le_refl _,by go_num,by go_num,rfl,HT.out.1,by omega,(by simpa using HT.out.2),HK.out.2.2.2.1,hpq⟩,by simp [intOf];omega⟩
        ·have e3':(p.toList==[46,46])=false:=by rw [e3,decide_eq_false_iff_not];exact c3
         have hT:=HX.out.1;rw [oN _ _ c1 c2 c3] at hT;have HT:=ns hT;have hB1:w.heap.size≤(wr.alloc (.cells #[] 9)).heap.size:=by have:=HK.out.2.2.2.1.size;simp;omega
         have h0l:A0=none→l.length=0∧c0=0:=fun e=>by
          refine⟨?_,HK.out.2.2.2.2.2 e⟩;rcases Nat.eq_zero_or_pos l.length with h|h
          ·exact h
          ·obtain⟨_,_,he,_⟩:=HK.out.2.2.2.2.1 0 (aX l[0]) (by simp [h]);rw [e] at he;cases he
         have HA:=ns (BT (lI wr 9 1 HK.out.2.2.2.1.size) (BT (HK.out.2.2.2.2.1.no ((Sm.refl No wr).alloc (.cells #[] 9))) (BT h0l hB1)));clear hT e1 e2 e3 c1 c2 c3 h0l hB1;go_wp2_with (first
          |(refine cA rfl (.tmp 38) (.tmp 39) 125 9 rfl Tryz.underlying125 _ 1 16 dR rfl (by decide) (by decide) w.heap.size 0 _ [] rfl HA.out.1 A0 l.length c0 (l.map aX) rfl HA.out.2.2.1 (by simp) HA.out.2.1 (by simp [aX,Value.oneCell']) (by omega) HA.out.2.2.2 ?_;intro v5 w5 hown5 hs5 hv5;have HB:=ns (Bg (p:=p) HK.out.2.2.2.1 hown5 hs5);clear hown5 hs5 hv5)
          |(refine aq rfl _ _ 125 9 rfl Tryz.underlying125 _ 1 16 dR rfl (by decide) (by decide) w.heap.size _ _ _ rfl HB.out.1 w5.heap.size #[.string p] rfl (Bk.new w5 _ _) rfl (by simp [Value.oneCell']) (by omega) HB.out.2.2.2 ?_;intro v6 w6 hown6 hs6 hv6))
         have HF:=ns (show bo w6 w.heap.size v6 (l++[ab p])∧Sm No w w6 from⟨bo.push (by rw [show aX (ab p)=.string p from kt p];exact hown6),HB.out.2.1.trans hs6 (fun b hb e=>by
          have:=(World.ownsRow.lt HB.out.2.2.1 b e).1;omega)⟩)
         clear hown6 hs6 hv6;go_wp2_with fail;exact⟨⟨i+1,i+1,l++[ab p],p,by omega,Nat.le_refl _,by go_num,by go_num,rfl,HT.out,by rw [rN,ae];omega,HF.out.1,HF.out.2,hpq⟩,by simp [intOf];omega⟩
     ·have ht:((q[i].toNat:Int) != 47)=true:=by
       have:=aK (c:=q[i]) (n:=47) (by decide) hc;simp at this ⊢;exact this
      have hso:=yJ q (f:=f) hlt hf hc;have hT:=HK.out.1;rw [hso] at hT;have HT:=ns hT;clear hT hso hc;go_wp2_with fail;exact⟨⟨i+1,f,l,last,by omega,by omega,by go_num,rfl,rfl,HT.out,HK.out.2.1,HK.out.2.2.1,HK.out.2.2.2.1,hll⟩,by simp [intOf];omega⟩
    ·have hT:=HK.out.1;have hend:(ab q).drop i=[]:=List.drop_eq_nil_of_le (by rw [ae];omega);rw [hend] at hT;have hR:R=some (oP (ab last) (eN l)):=by
      rw [←HG.out.2.1];rw [HG.out.1] at hT;show Option.map (fun l=>oP ((cc 47 rest).getLastD []) (eN l)) (dP (some []) (cc 47 rest))=_;unfold cc;rw [(Prod.mk.inj hT).1,(Prod.mk.inj hT).2];rfl
     have hwl:wt l≤q.size:=by have:=HK.out.2.1;omega
     have HE:=ns hR;clear hR hT hend;go_wp2_with fail
     go_loopw [9,10] (fun ov i wr'=>yk w w.heap.size (.slice A0 l.length c0) l ov i wr') (fun _ i _=>l.length-(intOf i).toNat)
     case atStart=>exact⟨0,⟨#[]⟩,Nat.zero_le _,rfl,rfl,rfl,HK.out.2.2.1,HK.out.2.2.2.1⟩
     case round=>
      obtain⟨j,out,hj,rfl,rfl,hout,hO,hsm⟩:=hrel;have hoz:out.size≤q.size:=by have:=mV l j;rw [←hout,ae] at this;omega
      have HO:=ns (BT hout (BT hO hsm));clear hout hO hsm;by_cases hlt2:j < l.length
      ·have hget:(l.map aX)[j]?=some (aX l[j]):=by simp [hlt2]
       obtain⟨bb,off,hAe,hbb,r0⟩:=(gw HO.out.2.1) _ _ hget;subst hAe;obtain⟨p,hp⟩:∃ p:ByteArray,p=⟨l[j].toArray⟩:=⟨_,rfl⟩;have htp:ab p=l[j]:=by rw [hp];rfl
       rw [show aX l[j]=.string p by rw [hp];rfl] at r0;have hnew:ab (out++⟨#[47]⟩++p)=eN (l.take (j+1)):=by
        rw [jm hlt2,dT,dT,HO.out.1,htp,List.append_assoc];rfl
       have hnz:(out++⟨#[47]⟩++p).size≤q.size:=by have:=mV l (j+1);rw [←hnew,ae] at this;omega
       have hnz0:=hnz;rw [ByteArray.size_append,ByteArray.size_append] at hnz0;have hone:(⟨#[47]⟩:ByteArray).size=1:=rfl;have hpz:p.size≤q.size:=by omega
       have HN:=ns hnew;have k3:(0:Int)≤(j:Int):=by omega
       have k4:(j:Int) < (l.length:Int):=by omega
       clear hnew hget hp htp hnz hnz0 hone;go_wp2_with fail;exact⟨⟨j+1,_,by omega,by go_num,rfl,HN.out,HO.out.2.1,HO.out.2.2⟩,by simp [intOf];omega⟩
      ·have hout:ab out=eN l:=by rw [HO.out.1,List.take_of_length_le (by omega)]
       have HF:=ns hout;clear hout;go_wp2_with fail
       all_goals go_ret2
       all_goals refine⟨?_,HO.out.2.2⟩
       all_goals rw [HE.out]
       all_goals first
        |(refine Hi last out l HF.out true ?_;first|(simp [*];done)|(simp only [Bool.or_eq_true];assumption))
        |(refine Hi last out l HF.out false ?_;first|(simp [*];done)|(simp only [Bool.or_eq_false_iff];assumption))
  ·have hq:((s[0].toNat:Int) != 47)=true:=by
    have:=aK (c:=s[0]) (n:=47) (by decide) hq0;simp at this ⊢;exact this
   have hR:bG (ab s)=none:=jv (by rw [hh];intro e;injection e with e;exact hq0 e);rw [hR];clear hh hR h0 hq0;go_in;go_wp2_with fail;go_ret2;exact⟨rfl,Sm.refl _ _⟩
section
variable {P:Program} {ops:Array Oper} {o:Oper} {a:Act} {w:World} {Q:Exit→Act→World→Prop}
theorem jR {E:Prop} {K:Act→World→Prop} (hgd:o.guard=none) (s x:Operand) (st t:TypeId)
 (ho:o.op=.call {callee:=.builtin .append,args:=#[s,x],argTypes:=#[st,st]}) (ht:P.underlying st=some (.slice t))
 (z:Value) (size bytes:Nat) (hi:(P.info? t).map (fun i=>(i.zero,i.size,i.bytes))=some (some z,size,bytes)) (hzs:z.cells.size=size) (hsz:0 < size) (hby:bytes≤1000)
 (B n:Nat) (v:Value) (xs:List Value) (hs:a.eval s=v) (hown:w.ownsRow B t size v n xs)
 (A:Option Addr) (m c:Nat) (news:List Value) (hx:a.eval x=.slice A m c) (h0:A=none→m=0∧c=0) (hl:news.length=m * size) (hrow:ar w A news) (h1:∀ u∈news,u.oneCell'=true) (hn:n+m≤1000001) (hB:B≤w.heap.size)
 (h:∀ A' c' w',w'.ownsRow B t size (.slice A' (n+m) c') (n+m) (xs++news)→Sm (fun b=>v.ownBlock=some b) w w'→((Value.slice A' (n+m) c').ownBlock=v.ownBlock∨(Value.slice A' (n+m) c').ownBlock=some w.heap.size)→K (a.put o.dst (.slice A' (n+m) c')) w'):
 if Region.wanted o (yielded ops a.tmps)=true then Oper.wp P o a w K Q else E:=by
 have hw:Region.wanted o (yielded ops a.tmps)=true:=by simp [Region.wanted,hgd]
 rw [if_pos hw];obtain⟨i0,hi0,hz0,hz1,hz2⟩:=info_parts hi;have hr:∃ v' w',(Builtin.append_ #[st,st] o.type #[v,.slice A m c]).run P w=.ok v' w'∧w'.ownsRow B t size v' (n+m) (xs++news)∧Sm (fun b=>v.ownBlock=some b) w w'∧(v'.ownBlock=v.ownBlock∨v'.ownBlock=some w.heap.size):=by
  cases A with
  |some ad=>
   obtain⟨v',w',h2,h3,h4,_,h6⟩:=run_append_own_at (P:=P) w B st o.type t i0 z size bytes ht hi0 hz0 hz1 hz2 hzs hsz v n xs hown ad m c news hl (hrow.news rfl) h1 (by unfold maxLen;omega)
    (by have:(n+m) * bytes≤1000001 * 1000:=Nat.mul_le_mul (by omega) hby
        omega) hB
   exact⟨v',w',h2,h3,(Sm.refl _ w).grown h4 (fun k hk=>Or.inl hk),h6⟩
  |none=>
   obtain⟨rfl,rfl⟩:=h0 rfl;have hnn:news=[]:=List.eq_nil_of_length_eq_zero (by rw [hl];simp);subst hnn;exact⟨v,w,run_append_owned_none (P:=P) (w:=w) B st o.type t i0 size ht hi0 v n xs hown,by simpa using hown,Sm.refl _ _,Or.inl rfl⟩
 obtain⟨v',w',h2,h3,h4,h6⟩:=hr;obtain⟨A',c',rfl,_,_,_⟩:=ak h3;unfold Oper.wp execOp;simp only [ho,resolve,invoke,builtin,Sem.run_bind,Sem.run_pure,Result.andThen_ok,List.map_toArray,List.map_cons,List.map_nil,hs,hx,h2];exact h A' c' w' h3 h4 h6
theorem jp {E:Prop} {K:Act→World→Prop} (hgd:o.guard=none) (s x:Operand) (st t:TypeId)
 (ho:o.op=.call {callee:=.builtin .append,args:=#[s,x],argTypes:=#[st,st]}) (ht:P.underlying st=some (.slice t))
 (z:Value) (size bytes:Nat) (hi:(P.info? t).map (fun i=>(i.zero,i.size,i.bytes))=some (some z,size,bytes)) (hzs:z.cells.size=size) (hsz:0 < size) (hby:bytes≤1000)
 (B:Nat) (v:Value) (hs:a.eval s=v) (hown:w.ownsRow B t size v 0 [])
 (A:Option Addr) (m c:Nat) (news:List Value) (hx:a.eval x=.slice A m c) (h0:A=none→m=0∧c=0) (hl:news.length=m * size) (hrow:ar w A news) (h1:∀ u∈news,u.oneCell'=true) (hn:m≤1000001) (hB:B≤w.heap.size)
 (h:∀ A' c' w',w'.ownsRow B t size (.slice A' m c') m news→Sm (fun b=>v.ownBlock=some b) w w'→((Value.slice A' m c').ownBlock=v.ownBlock∨(Value.slice A' m c').ownBlock=some w.heap.size)→K (a.put o.dst (.slice A' m c')) w'):
 if Region.wanted o (yielded ops a.tmps)=true then Oper.wp P o a w K Q else E:=
 jR hgd s x st t ho ht z size bytes hi hzs hsz hby B 0 v [] hs hown A m c news hx h0 hl hrow h1 (by omega) hB (fun A' c' w' g1 g2 g3=>by
  rw [Nat.zero_add] at g1 g3 ⊢;exact h A' c' w' (by simpa using g1) g2 g3)
end
def mf(l:List (Lt × Value)):List Value:=l.flatMap fun x=>[gj x.1.pat,.int .i64 x.1.id,x.2]
theorem AH{l:List (Lt × Value)}{k:Nat}(h:k < l.length):(mf l)[k * 3]?=some (gj l[k].1.pat)∧(mf l)[k * 3+1]?=some (.int .i64 l[k].1.id)∧(mf l)[k * 3+2]?=some l[k].2:=by
 induction l generalizing k with
 |nil=>simp at h
 |cons x l ih=>
  cases k with
  |zero=>exact⟨rfl,rfl,rfl⟩
  |succ k=>
   obtain⟨h1,h2,h3⟩:=ih (k:=k) (by simpa using h);have e1:(k+1) * 3=k * 3+3:=by omega
   rw [e1];exact⟨h1,h2,h3⟩
def BR(tt:TypeId)(tl:List Value)(w:World)(O:Nat→Prop)(r:Nat)(L:List Lt)(v:Value)(l:List (Lt × Value)):Prop:=
 Bk w r tt (v::tl).toArray∧w.ownsRow 0 153 3 v L.length (mf l)∧l.map Prod.fst=L∧(∀ x∈l,bo w 0 x.2 x.1.ms)∧O r∧(∀ g,v.ownBlock=some g→O g)∧(∀ x∈l,∀ g,x.2.ownBlock=some g→O g)∧(∀ b,O b→b < w.heap.size)∧tt≠153∧tt≠9
def ek(tt:TypeId)(tl:List Value)(w:World)(O:Nat→Prop)(r:Nat)(L:List Lt):Prop:=∃ v l,BR tt tl w O r L v l
variable {tt:TypeId} {tl:List Value}
theorem BR.sm{S O:Nat→Prop}{w w':World}{r:Nat}{L:List Lt}{v:Value}{l:List (Lt × Value)}(h:BR tt tl w O r L v l)(hs:Sm S w w')(hS:∀ b,O b→¬S b):BR tt tl w' O r L v l:=by
 obtain⟨h1,h2,h3,h4,h5,h6,h7,h8,h9⟩:=h;exact⟨h1.sm hs (hS r h5),aa h2 hs (fun g hg=>hS g (h6 g hg)),h3,fun x hx=>aa (h4 x hx) hs (fun g hg=>hS g (h7 x hx g hg)),h5,h6,h7,fun b hb=>Nat.lt_of_lt_of_le (h8 b hb) hs.size,h9⟩
theorem BR.no{O:Nat→Prop}{w w':World}{r:Nat}{L:List Lt}{v:Value}{l:List (Lt × Value)}(h:BR tt tl w O r L v l)(hs:Sm No w w'):BR tt tl w' O r L v l:=h.sm hs (fun _ _ h=>h)
theorem ek.sm{S O:Nat→Prop}{w w':World}{r:Nat}{L:List Lt}(h:ek tt tl w O r L)(hs:Sm S w w')(hS:∀ b,O b→¬S b):ek tt tl w' O r L:=by
 obtain⟨v,l,h⟩:=h;exact⟨v,l,h.sm hs hS⟩
theorem ek.no{O:Nat→Prop}{w w':World}{r:Nat}{L:List Lt}(h:ek tt tl w O r L)(hs:Sm No w w'):ek tt tl w' O r L:=h.sm hs (fun _ _ h=>h)
theorem BR.form{O:Nat→Prop}{w:World}{r:Nat}{L:List Lt}{v:Value}{l:List (Lt × Value)}(h:BR tt tl w O r L v l):∃ A c,v=.slice A L.length c:=by
 obtain⟨A,c,hv,_⟩:=ak h.2.1;exact⟨A,c,hv⟩
theorem BR.get{O:Nat→Prop}{w:World}{r n c:Nat}{L:List Lt}{A:Option Addr}{l:List (Lt × Value)}(h:BR tt tl w O r L (.slice A n c) l){k:Nat}(hk:k < L.length):
 ∃ g A2 c2,A=some ⟨g,0,none⟩∧w.cell? ⟨g,k * 3,none⟩=some (gj L[k].pat)∧w.cell? ⟨g,k * 3+1,none⟩=some (.int .i64 L[k].id)∧w.cell? ⟨g,k * 3+2,none⟩=some (.slice A2 L[k].ms.length c2)∧ar w A2 (L[k].ms.map aX)∧(A2=none→c2=0):=by
 obtain⟨_,h2,rfl,h4,_⟩:=h;have hk':k < l.length:=by simpa using hk
 rcases aR h2 with ⟨_,h0,_⟩|⟨g,cap,hv,_,_,hb,_,hx,_⟩
 ·simp at h0;subst h0;simp at hk'
 ·injection hv with hv;subst hv;obtain⟨e1,e2,e3⟩:=AH hk';obtain⟨A2,c2,hv2,hR,_,hn⟩:=ak (h4 l[k] (List.getElem_mem hk'));have eL:(l.map Prod.fst)[k]=l[k].1:=by simp
  refine⟨g,A2,c2,rfl,?_,?_,?_,?_,hn⟩
  ·rw [eL];exact hx _ _ e1
  ·rw [eL];exact hx _ _ e2
  ·rw [eL,←hv2];exact hx _ _ e3
  ·rw [eL];exact hR
def kX(tt:TypeId)(tl:List Value)(w:World)(O:Nat→Prop)(r:Nat)(L:List Lt)(x:Lt)(e:Ending)(w':World):Prop:=
 e=.returned (.int .i64 (ef L x))∧∃ O':Nat→Prop,ek tt tl w' O' r (iJ L x)∧Sm O w w'∧∀ b,O' b→O b∨w.heap.size≤b
theorem kX.not{w w':World}{O:Nat→Prop}{r:Nat}{L:List Lt}{x:Lt}{c:Int}(hc:ef L x=c)(h0:c≠0)(h:ek tt tl w O r L)(hs:Sm No w w'):kX tt tl w O r L x (.returned (.int .i64 c)) w':=by
 refine⟨by rw [hc],O,?_,hs.any _,fun b hb=>Or.inl hb⟩;unfold iJ;rw [if_neg (by rw [hc];exact h0)];exact h.no hs
theorem kX.yes {w w4 w5 w6:World} {O:Nat→Prop} {r:Nat} {L:List Lt} {x:Lt} {v:Value} {l:List (Lt × Value)} {cv v':Value} (hc:ef L x=0) (h:BR tt tl w O r L v l) (s4:Sm No w w4) (hcv:bo w4 w.heap.size cv x.ms) (s5:Sm No w4 w5)
 (hv:w6.ownsRow 0 153 3 v' (L.length+1) (mf l++[gj x.pat,.int .i64 x.id,cv])) (s6:Sm (fun b=>v.ownBlock=some b) w5 w6) (hb:v'.ownBlock=v.ownBlock∨v'.ownBlock=some w5.heap.size):
 kX tt tl w O r L x (.returned (.int .i64 0)) (w6.setCell ⟨r,0,none⟩ v'):=by
 obtain⟨h1,h2,h3,h4,h5,h6,h7,h8,h9,h10⟩:=h;have z4:=s4.size;have z5:=s5.size;have z6:=s6.size;have hrv:v.ownBlock≠some r:=ah h2 h1 (fun e=>h9 e.symm);have s7:Sm (fun b=>b=r) w6 (w6.setCell ⟨r,0,none⟩ v'):=(Sm.refl _ w6).set1 0 _;have s47:Sm (fun b=>v.ownBlock=some b∨b=r) w4 (w6.setCell ⟨r,0,none⟩ v'):=((s5.any _).trans s6 (fun b _ e=>Or.inl e)).trans s7 (fun b _ e=>Or.inr e);have s17:Sm (fun b=>v.ownBlock=some b∨b=r) w (w6.setCell ⟨r,0,none⟩ v'):=(s4.any _).trans s47 (fun b _ e=>e);have hrlt:=h8 r h5;have hv'r:v'.ownBlock≠some r:=by
  rcases hb with e|e
  ·rw [e];exact hrv
  ·rw [e];intro e;injection e with e;omega
 have hvlt:∀ g,v.ownBlock=some g→g < w.heap.size:=fun g hg=>jh h2 hg;refine⟨by rw [hc],(fun b=>O b∨(w.heap.size≤b∧b < w6.heap.size)),?_,s17.mono (fun b _ e=> ?_),fun b hb=>hb.elim Or.inl (fun h=>Or.inr h.1)⟩
 ·unfold iJ;rw [if_pos hc];refine⟨v',l++[(x,cv)],((((h1.sm s4 (fun h=>h)).sm s5 (fun h=>h)).sm s6 hrv).set 0 _).eq (by simp),?_,by rw [List.map_append,h3];rfl,fun y hy=> ?_,Or.inl h5,fun g hg=> ?_,fun y hy g hg=> ?_,fun b hb=> ?_,h9,h10⟩
  ·have:=aa hv s7 (fun b e hS=>hv'r (hS ▸ e));rw [List.length_append,mf,List.flatMap_append];exact this
  ·rcases List.mem_append.1 hy with hy|hy
   ·exact aa (h4 y hy) s17 (fun b e hS=>by
     rcases hS with hS|rfl
     ·exact mD (h4 y hy) h2 (by decide) e hS
     ·exact ah (h4 y hy) h1 (fun e=>h10 e.symm) e)
   ·rw [List.mem_singleton] at hy;subst hy;exact bc (aa hcv s47 (fun b e hS=>by
     have hge:=(World.ownsRow.lt hcv _ e).1;rcases hS with hS|rfl
     ·have:=hvlt _ hS;omega
     ·omega)) (fun _ _=>Nat.zero_le _)
  ·rcases hb with g2|g2
   ·exact Or.inl (h6 g (g2 ▸ hg))
   ·have:=jh hv hg;rw [g2] at hg;injection hg with hg;exact Or.inr ⟨by omega,by omega⟩
  ·rcases List.mem_append.1 hy with hy|hy
   ·exact Or.inl (h7 y hy g hg)
   ·rw [List.mem_singleton] at hy;subst hy;have:=jh hcv hg;have:=(World.ownsRow.lt hcv _ hg).1;exact Or.inr ⟨by omega,by omega⟩
  ·have e0:(w6.setCell ⟨r,0,none⟩ v').heap.size=w6.heap.size:=by simp
   rw [e0];rcases hb with hb|hb
   ·have:=h8 b hb;omega
   ·exact hb.2
 ·rcases e with e|rfl
  ·exact h6 b e
  ·exact h5
end Go.Proofs.YtcflkcbogofgbaaGreatDoor
