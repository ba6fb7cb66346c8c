import Derived.Test.YtadcjgopaadfjaaGreatDoorQRoutF
import Derived.Test.YtadcjgopaadfjaaGreatDoorQO
import Derived.Deep.QuietTactic
import Derived.BigQuiet
set_option maxHeartbeats 2000000
set_option maxRecDepth 100000
namespace Go.Proofs.YtadcjgopaadfjaaGreatDoor
open Go.RowKit Go.Proofs
def cx(w:World)(L:List Lt)(m path:ah)(e:Ending)(w':World):Prop:=
 ∃ v,e=.returned (.tuple #[.int .i64 (aW L m path).1,fp (aW L m path).2.1,v,.int .i64 (aW L m path).2.2.2])∧bi w' w.heap.size v (aW L m path).2.2.1∧Sm No w w'
theorem cx.of{w w':World}{L:List Lt}{m path:ah}{i st:Int}{rest:ah}{al:List ah}{v:Value}(h:aW L m path=(i,rest,al,st))(hv:bi w' w.heap.size v al)(hs:Sm No w w'):
 cx w L m path (.returned (.tuple #[.int .i64 i,fp rest,v,.int .i64 st])) w':=by
 refine⟨v,by rw [h],by rw [h];exact hv,hs⟩
def F0(w:World)(S:List Lt)(i v:Value)(wr:World):Prop:=
 ∃ k:Nat,k≤S.length∧i=.int .i64 k∧bi wr w.heap.size v (fq (S.take k))∧Sm No w wr
theorem CU(S:List Lt)(h:∀ x∈S,x.ms.length≤4000):(fq S).length≤S.length * 4000:=by
 induction S with
 |nil=>simp [fq]
 |cons x S ih=>
  have h1:=h x (by simp);have h2:=ih (fun y hy=>h y (by simp [hy]));simp only [fq,List.flatMap_cons,List.length_append,List.length_cons] at h2 ⊢;omega
theorem tD{S:List Lt}{k:Nat}(h:k < S.length):fq (S.take (k+1))=fq (S.take k)++S[k].ms:=by
 unfold fq;rw [List.take_succ_eq_append_getElem h,List.flatMap_append];simp
theorem iW(l:List ah):(dF l).length=l.length:=by simp [dF]
theorem bi.join{w:World}{B:Nat}{v:Value}{l m:List ah}(h:w.ownsRow B 9 1 v (l.length+m.length) (l.map aP++m.map aP)):bi w B v (l++m):=by
 unfold bi;rw [List.length_append,List.map_append];exact h
theorem eY{S:Nat→Prop}{w w1 w2 w3:World}{v:Value}{l:List ah}(h:bi w1 w.heap.size v l)(h1:Sm No w w2)(h2:Sm S w2 w3)(hS:∀ b,S b→v.ownBlock=some b):Sm No w w3:=
 ((h1.any _).tt h2).mono (fun b hb e=>by
   have:=(World.ownsRow.lt h _ (hS b e)).1;omega)
theorem zG(w:World)(O:Nat→Prop)(r:Nat)(L:List Lt)(m path:ByteArray)(h:aT w O r L)(hL:L.length≤64)(hms:∀ x∈L,x.ms.length≤4000)(hp:path.size≤1000000):
 Calls Tryz.prog 130 #[.pointer (some ⟨r,0,none⟩),.string m,.string path] w (cx w L (af m) (af path)):=by
 obtain⟨M,hM⟩:=ai (aW L (af m) (af path));have HM:=aa hM;have HF:=aa (Cf w O r L path h (fun x hx=>Nat.le_trans (hms x hx) (by decide)) hp);have HI:=aa (ab hms h);clear hM h hms;go_in;go_wp2_with fail;refine HF.out.mono ?_;rintro e w1 ⟨v,rest,rfl,hs1,hor⟩;have nE:=GL;have nN:=GF;rcases hor with ⟨hf,rfl,rfl⟩|⟨k,hf,hne,hR⟩
 ·have hc:aW L (af m) (af path)=(0,[],[],404):=by unfold aW;rw [hf]
  have HE:=aa (cx.of hc (World.ownsRow_nil _ _ _ 1:bi w1 w.heap.size (.slice none 0 0) []) hs1);unfold lQ;clear hc hf hs1;go_wp2_with fail;exact bodyPost_ret (v:=.tuple #[.int .i64 0,.string ⟨#[]⟩,.slice none 0 0,.int .i64 404]) (by simp [results,Tryz.results130,go_sem]) rfl HE.out
 ·obtain⟨A,c,rfl,hA⟩:=hR.form;obtain⟨g,rfl⟩:=hA hne;have hSl:(gF L k).length≤64:=Nat.le_trans (List.length_filter_le _ _) hL;have hSm:∀ x∈gF L k,x.ms.length≤4000:=fun x hx=>HI.out.1 x (List.mem_filter.1 hx).1;have hmt:∀ i,ig (gF L k) (af m)=some i→aW L (af m) (af path)=(i,rest,[],200):=fun i e=>by unfold aW;rw [hf];simp only [e]
  have hmn:ig (gF L k) (af m)=none→aW L (af m) (af path)=(0,[],gN (gF L k),405):=fun e=>by unfold aW;rw [hf];simp only [e]
  obtain⟨S,hS⟩:=ai (gF L k);rw [hS] at hR hSl hSm hmt hmn hne ⊢;have HK:=aa (ab hR (ab hSm (ab hs1 (ab hmt hmn))));obtain⟨rb,hrb⟩:∃ rb:ByteArray,fp rest=.string rb:=⟨_,rfl⟩;have HRB:=aa hrb;rw [hrb];obtain⟨P,hP⟩:=ai (tM S (af m));have HO:=aa (sR w1 _ S m (hR.no hs1) (by omega));rw [hP] at HO;have HPk:=aa hP;clear hf hne hR hS hSm hmt hmn hs1 hrb hA hP
  cases P with
  |some i=>
   have hc:=HK.out.2.2.2.1 i (by unfold ig;rw [HPk.out]);go_wp2_with fail;refine HO.out.mono ?_;rintro e w2 ⟨rfl,hs2⟩;have HE:=aa (cx.of hc (World.ownsRow_nil _ _ _ 1:bi w2 w.heap.size (.slice none 0 0) []) (HK.out.2.2.1.tt hs2));rw [HRB.out] at HE;clear hc hs2;unfold FW;go_wp2_with fail;exact bodyPost_ret (v:=.tuple #[.int .i64 i,.string rb,.slice none 0 0,.int .i64 200]) (by simp [results,Tryz.results130,go_sem]) rfl HE.out
  |none=>
   by_cases hm:m.toList=[72,69,65,68]
   ·obtain⟨P2,hP2⟩:∃ P,tM S lX=P:=⟨_,rfl⟩;have hpk:ig S (af m)=P2:=by
     unfold ig;rw [HPk.out,←hP2];simp only;rw [if_pos ((aN m fo).1 hm)]
    have HO2:=aa (fun (w2:World) (hs:Sm No w1 w2)=>sR w2 _ S ⟨#[71,69,84]⟩ (HK.out.1.no (HK.out.2.2.1.tt hs)) (by omega));rw [show af (⟨#[71,69,84]⟩:ByteArray)=lX from rfl,hP2] at HO2;have HP2:=aa hpk;clear hpk hP2;go_wp2_with fail;refine HO.out.mono ?_;rintro e w2 ⟨rfl,hs2⟩;have HS2:=aa hs2;clear hs2;unfold FW;go_wp2_with fail;refine(HO2.out w2 HS2.out).mono ?_;rintro e w3 ⟨rfl,hs3⟩;have HS3:=aa ((HK.out.2.2.1.tt HS2.out).tt hs3);have HSa:=aa (HS2.out.tt hs3);clear hs3
    cases P2 with
    |some i=>
     have hc:=HK.out.2.2.2.1 i HP2.out;have HE:=aa (cx.of hc (World.ownsRow_nil _ _ _ 1:bi w3 w.heap.size (.slice none 0 0) []) HS3.out);rw [HRB.out] at HE;clear hc;unfold FW;go_wp2_with fail;exact bodyPost_ret (v:=.tuple #[.int .i64 i,.string rb,.slice none 0 0,.int .i64 200]) (by simp [results,Tryz.results130,go_sem]) rfl HE.out
    |none=>
     unfold FW;go_wp2_with fail;have hc:=HK.out.2.2.2.2 HP2.out;have HC:=aa hc;clear hc
     go_loopw [44,8] (fun i v wr=>F0 w S i v wr) (fun i _ _=>S.length-(intOf i).toNat)
     case atStart=>exact⟨0,Nat.zero_le _,rfl,World.ownsRow_nil _ _ _ 1,HS3.out⟩
     case round=>
      obtain⟨k,hk,rfl,hown,hsm⟩:=hrel;have hlen:(fq (S.take k)).length≤900000:=by
       have:=CU (S.take k) (fun x hx=>HK.out.2.1 x (List.mem_of_mem_take hx));have h2:(S.take k).length≤S.length:=by simp;omega
       have:(S.take k).length * 4000≤64 * 4000:=Nat.mul_le_mul (by omega) (Nat.le_refl _);omega
      by_cases hlt:k < S.length
      ·obtain⟨n,hn⟩:=ai ((fq (S.take k)).length);rw [hn] at hlen;obtain⟨g2,A2,c2,hAe,hg,r0,r1,hR2,hl2,hA2⟩:=(HK.out.1.no hsm).get hlt;obtain rfl:g=g2:=by simpa using hAe
       have hmz:=HK.out.2.1 _ (List.getElem_mem hlt);have hstep:=tD hlt;obtain⟨yi,hyi⟩:=ai (S[k].id);obtain⟨ym,hym⟩:=ai (S[k].ms);rw [hyi] at r0;rw [hym] at r1 hR2 hl2 hmz hstep;have hA0:A2=none→ym.length=0∧c2=0:=fun e=>by
        subst e;refine⟨?_,hA2 rfl⟩;rcases Nat.eq_zero_or_pos ym.length with h|h
        ·exact h
        ·obtain⟨_,_,he,_⟩:=hR2.at (df h)
         cases he
       have hs2:=(Sm.refl No wr).alloc (.cells #[.int .i64 yi,.slice A2 ym.length c2] 163);have HOwn:=aa (show (wr.alloc (.cells #[.int .i64 yi,.slice A2 ym.length c2] 163)).ownsRow w.heap.size 9 1 _ n _ from hn ▸ (World.ownsRow.alloc hown (.cells #[.int .i64 yi,.slice A2 ym.length c2] 163)));have HBx:=aa (ab hA0 (ab (hR2.no hs2) (ab hown (ab (hsm.tt hs2) (ab hstep hn)))));have HBb:Hid (w.heap.size≤(wr.alloc (.cells #[.int .i64 yi,.slice A2 ym.length c2] 163)).heap.size):=aa (HBx.out.2.2.2.1.size);have k1:(0:Int)≤(k:Int):=by omega
       have k2:(k:Int) < (S.length:Int):=by omega
       clear hAe hyi hym hA0 hR2 hA2 hs2 hown hsm hstep hn;go_wp2_with (refine bE rfl _ _ 119 9 rfl Tryz.underlying119 _ 1 16 eK rfl (by decide) (by decide) w.heap.size n _ _ rfl HOwn.out A2 ym.length c2 (ym.map aP) rfl HBx.out.1 (by simp) HBx.out.2.1 (by simp [aP,Value.oneCell']) (by omega) HBb.out ?_;intro v' w4 hown4 hs4 hv4);have HF4:=aa (show bi w4 w.heap.size v' (fq (S.take (k+1)))∧Sm No w w4 from⟨by rw [HBx.out.2.2.2.2.1];exact bi.join (by rw [HBx.out.2.2.2.2.2];exact hown4),eY HBx.out.2.2.1 HBx.out.2.2.2.1 hs4 (fun _ e=>e)⟩);clear hown4 hs4 hv4;go_wp2_with fail;exact⟨⟨k+1,by omega,by go_num,HF4.out.1,HF4.out.2⟩,by simp [intOf];omega⟩
      ·have hall:S.take k=S:=List.take_of_length_le (by omega);rw [hall] at hown hlen;obtain⟨Av,cv,rfl,hRv,_,_⟩:=au hown;obtain⟨b,hb⟩:∃ b,(fq S).contains (af ⟨#[71,69,84]⟩)=b:=⟨_,rfl⟩;have HB:=aa hb;have HX:=aa (ab hRv (ab hown hsm));clear hall hRv hown hb hsm;go_wp2_with fail;refine(dY HB _ Av cv HX.out.1 (by omega)).mono ?_;rintro e w5 ⟨rfl,rfl⟩
       cases b
       ·have HSO:=aa (ab HX.out.2.1 (ab HX.out.2.2 (ab (show (fq S).length≤1000000 by omega) (show cz (fq S)=fq S by unfold cz;rw [if_neg];rw [show (fq S).contains lX=false from HB.out];simp))));go_wp2_with fail;refine(kN _ w.heap.size _ (fq S) HSO.out.1 HSO.out.2.2.1).mono ?_;rintro e w6 ⟨rfl,hO6,hs6⟩;have H6:=aa (ab hO6 (eY HSO.out.1 HSO.out.2.1 hs6 (fun _ e=>e)));clear hO6 hs6;go_wp2_with fail;refine(fO _ w.heap.size _ (dF (fq S)) H6.out.1 (by rw [iW];exact HSO.out.2.2.1)).mono ?_;rintro e w7 ⟨v7,rfl,hO7,hs7⟩;have H7:=aa (cx.of (HC.out.trans (by rw [gN,HSO.out.2.2.2])) hO7 (eY H6.out.1 H6.out.2 hs7 (fun _ e=>e)));obtain⟨A7,c7,rfl,_,_,_⟩:=au hO7;clear hO7 hs7;go_wp2_with fail;exact bodyPost_ret (v:=.tuple #[.int .i64 0,.string ⟨#[]⟩,.slice A7 (Lib.compact (dF (fq S))).length c7,.int .i64 405]) (by simp [results,Tryz.results130,go_sem]) rfl H7.out
       ·have HKx:=aa (World.ownsRow.alloc HX.out.2.1 (.cells #[.string ⟨#[72,69,65,68]⟩] 9));have HKb:Hid (w.heap.size≤(w5.alloc (.cells #[.string ⟨#[72,69,65,68]⟩] 9)).heap.size):=aa ((HX.out.2.2.alloc _).size);go_wp2_with (refine aY rfl _ _ 119 9 rfl Tryz.underlying119 _ 1 16 eK rfl (by decide) (by decide) w.heap.size _ _ _ rfl HKx.out w5.heap.size #[.string ⟨#[72,69,65,68]⟩] rfl (Bk.new w5 _ _) rfl (by simp [Value.oneCell']) (by omega) HKb.out ?_;intro v' w4 hown4 hs4 hv4);have HSO:=aa (ab (bi.push (t:=fo) hown4) (ab (eY HX.out.2.1 (HX.out.2.2.alloc _) hs4 (fun _ e=>e)) (ab (show (fq S++[fo]).length≤1000000 by simp;omega) (show cz (fq S)=fq S++[fo] by unfold cz;rw [if_pos];exact HB.out))));clear hown4 hs4 hv4;go_wp2_with fail;refine(kN _ w.heap.size _ (fq S++[fo]) HSO.out.1 HSO.out.2.2.1).mono ?_;rintro e w6 ⟨rfl,hO6,hs6⟩;have H6:=aa (ab hO6 (eY HSO.out.1 HSO.out.2.1 hs6 (fun _ e=>e)));clear hO6 hs6;go_wp2_with fail;refine(fO _ w.heap.size _ (dF (fq S++[fo])) H6.out.1 (by rw [iW];exact HSO.out.2.2.1)).mono ?_;rintro e w7 ⟨v7,rfl,hO7,hs7⟩;have H7:=aa (cx.of (HC.out.trans (by rw [gN,HSO.out.2.2.2])) hO7 (eY H6.out.1 H6.out.2 hs7 (fun _ e=>e)));obtain⟨A7,c7,rfl,_,_,_⟩:=au hO7;clear hO7 hs7;go_wp2_with fail;exact bodyPost_ret (v:=.tuple #[.int .i64 0,.string ⟨#[]⟩,.slice A7 (Lib.compact (dF (fq S++[fo]))).length c7,.int .i64 405]) (by simp [results,Tryz.results130,go_sem]) rfl H7.out
   ·have hpk:ig S (af m)=none:=by
     unfold ig;rw [HPk.out];simp only;rw [if_neg (fun e=>hm ((aN m fo).2 e))]
    have HP2:=aa hpk;clear hpk;have hm2:(m.toList==[72,69,65,68])=false:=by simpa using hm
    go_wp2_with fail;refine HO.out.mono ?_;rintro e w3 ⟨rfl,hs3⟩;have HS3:=aa (HK.out.2.2.1.tt hs3);have HSa:=aa hs3;clear hs3;unfold FW;go_wp2_with fail;have hc:=HK.out.2.2.2.2 HP2.out;have HC:=aa hc;clear hc
    go_loopw [44,8] (fun i v wr=>F0 w S i v wr) (fun i _ _=>S.length-(intOf i).toNat)
    case atStart=>exact⟨0,Nat.zero_le _,rfl,World.ownsRow_nil _ _ _ 1,HS3.out⟩
    case round=>
     obtain⟨k,hk,rfl,hown,hsm⟩:=hrel;have hlen:(fq (S.take k)).length≤900000:=by
      have:=CU (S.take k) (fun x hx=>HK.out.2.1 x (List.mem_of_mem_take hx));have h2:(S.take k).length≤S.length:=by simp;omega
      have:(S.take k).length * 4000≤64 * 4000:=Nat.mul_le_mul (by omega) (Nat.le_refl _);omega
     by_cases hlt:k < S.length
     ·obtain⟨n,hn⟩:=ai ((fq (S.take k)).length);rw [hn] at hlen;obtain⟨g2,A2,c2,hAe,hg,r0,r1,hR2,hl2,hA2⟩:=(HK.out.1.no hsm).get hlt;obtain rfl:g=g2:=by simpa using hAe
      have hmz:=HK.out.2.1 _ (List.getElem_mem hlt);have hstep:=tD hlt;obtain⟨yi,hyi⟩:=ai (S[k].id);obtain⟨ym,hym⟩:=ai (S[k].ms);rw [hyi] at r0;rw [hym] at r1 hR2 hl2 hmz hstep;have hA0:A2=none→ym.length=0∧c2=0:=fun e=>by
       subst e;refine⟨?_,hA2 rfl⟩;rcases Nat.eq_zero_or_pos ym.length with h|h
       ·exact h
       ·obtain⟨_,_,he,_⟩:=hR2.at (df h)
        cases he
      have hs2:=(Sm.refl No wr).alloc (.cells #[.int .i64 yi,.slice A2 ym.length c2] 163);have HOwn:=aa (show (wr.alloc (.cells #[.int .i64 yi,.slice A2 ym.length c2] 163)).ownsRow w.heap.size 9 1 _ n _ from hn ▸ (World.ownsRow.alloc hown (.cells #[.int .i64 yi,.slice A2 ym.length c2] 163)));have HBx:=aa (ab hA0 (ab (hR2.no hs2) (ab hown (ab (hsm.tt hs2) (ab hstep hn)))));have HBb:Hid (w.heap.size≤(wr.alloc (.cells #[.int .i64 yi,.slice A2 ym.length c2] 163)).heap.size):=aa (HBx.out.2.2.2.1.size);have k1:(0:Int)≤(k:Int):=by omega
      have k2:(k:Int) < (S.length:Int):=by omega
      clear hAe hyi hym hA0 hR2 hA2 hs2 hown hsm hstep hn;go_wp2_with (refine bE rfl _ _ 119 9 rfl Tryz.underlying119 _ 1 16 eK rfl (by decide) (by decide) w.heap.size n _ _ rfl HOwn.out A2 ym.length c2 (ym.map aP) rfl HBx.out.1 (by simp) HBx.out.2.1 (by simp [aP,Value.oneCell']) (by omega) HBb.out ?_;intro v' w4 hown4 hs4 hv4);have HF4:=aa (show bi w4 w.heap.size v' (fq (S.take (k+1)))∧Sm No w w4 from⟨by rw [HBx.out.2.2.2.2.1];exact bi.join (by rw [HBx.out.2.2.2.2.2];exact hown4),eY HBx.out.2.2.1 HBx.out.2.2.2.1 hs4 (fun _ e=>e)⟩);clear hown4 hs4 hv4;go_wp2_with fail;exact⟨⟨k+1,by omega,by go_num,HF4.out.1,HF4.out.2⟩,by simp [intOf];omega⟩
     ·have hall:S.take k=S:=List.take_of_length_le (by omega);rw [hall] at hown hlen;obtain⟨Av,cv,rfl,hRv,_,_⟩:=au hown;obtain⟨b,hb⟩:∃ b,(fq S).contains (af ⟨#[71,69,84]⟩)=b:=⟨_,rfl⟩;have HB:=aa hb;have HX:=aa (ab hRv (ab hown hsm));clear hall hRv hown hb hsm;go_wp2_with fail;refine(dY HB _ Av cv HX.out.1 (by omega)).mono ?_;rintro e w5 ⟨rfl,rfl⟩
      cases b
      ·have HSO:=aa (ab HX.out.2.1 (ab HX.out.2.2 (ab (show (fq S).length≤1000000 by omega) (show cz (fq S)=fq S by unfold cz;rw [if_neg];rw [show (fq S).contains lX=false from HB.out];simp))));go_wp2_with fail;refine(kN _ w.heap.size _ (fq S) HSO.out.1 HSO.out.2.2.1).mono ?_;rintro e w6 ⟨rfl,hO6,hs6⟩;have H6:=aa (ab hO6 (eY HSO.out.1 HSO.out.2.1 hs6 (fun _ e=>e)));clear hO6 hs6;go_wp2_with fail;refine(fO _ w.heap.size _ (dF (fq S)) H6.out.1 (by rw [iW];exact HSO.out.2.2.1)).mono ?_;rintro e w7 ⟨v7,rfl,hO7,hs7⟩;have H7:=aa (cx.of (HC.out.trans (by rw [gN,HSO.out.2.2.2])) hO7 (eY H6.out.1 H6.out.2 hs7 (fun _ e=>e)));obtain⟨A7,c7,rfl,_,_,_⟩:=au hO7;clear hO7 hs7;go_wp2_with fail;exact bodyPost_ret (v:=.tuple #[.int .i64 0,.string ⟨#[]⟩,.slice A7 (Lib.compact (dF (fq S))).length c7,.int .i64 405]) (by simp [results,Tryz.results130,go_sem]) rfl H7.out
      ·have HKx:=aa (World.ownsRow.alloc HX.out.2.1 (.cells #[.string ⟨#[72,69,65,68]⟩] 9));have HKb:Hid (w.heap.size≤(w5.alloc (.cells #[.string ⟨#[72,69,65,68]⟩] 9)).heap.size):=aa ((HX.out.2.2.alloc _).size);go_wp2_with (refine aY rfl _ _ 119 9 rfl Tryz.underlying119 _ 1 16 eK rfl (by decide) (by decide) w.heap.size _ _ _ rfl HKx.out w5.heap.size #[.string ⟨#[72,69,65,68]⟩] rfl (Bk.new w5 _ _) rfl (by simp [Value.oneCell']) (by omega) HKb.out ?_;intro v' w4 hown4 hs4 hv4);have HSO:=aa (ab (bi.push (t:=fo) hown4) (ab (eY HX.out.2.1 (HX.out.2.2.alloc _) hs4 (fun _ e=>e)) (ab (show (fq S++[fo]).length≤1000000 by simp;omega) (show cz (fq S)=fq S++[fo] by unfold cz;rw [if_pos];exact HB.out))));clear hown4 hs4 hv4;go_wp2_with fail;refine(kN _ w.heap.size _ (fq S++[fo]) HSO.out.1 HSO.out.2.2.1).mono ?_;rintro e w6 ⟨rfl,hO6,hs6⟩;have H6:=aa (ab hO6 (eY HSO.out.1 HSO.out.2.1 hs6 (fun _ e=>e)));clear hO6 hs6;go_wp2_with fail;refine(fO _ w.heap.size _ (dF (fq S++[fo])) H6.out.1 (by rw [iW];exact HSO.out.2.2.1)).mono ?_;rintro e w7 ⟨v7,rfl,hO7,hs7⟩;have H7:=aa (cx.of (HC.out.trans (by rw [gN,HSO.out.2.2.2])) hO7 (eY H6.out.1 H6.out.2 hs7 (fun _ e=>e)));obtain⟨A7,c7,rfl,_,_,_⟩:=au hO7;clear hO7 hs7;go_wp2_with fail;exact bodyPost_ret (v:=.tuple #[.int .i64 0,.string ⟨#[]⟩,.slice A7 (Lib.compact (dF (fq S++[fo]))).length c7,.int .i64 405]) (by simp [results,Tryz.results130,go_sem]) rfl H7.out
theorem dt{w:World}{g:Nat}{t:TypeId}{cs:Array Value}(h:Bk w g t cs):ax w (some ⟨g,0,none⟩) cs.toList:=by
 intro j u hj;refine⟨g,0,rfl,h.lt,?_⟩;rw [Nat.zero_add];exact h.at j (by simpa using hj)
theorem Sm.fresh{S:Nat→Prop}{w w1 w2:World}(h:Sm No w w1)(k:Sm S w1 w2)(hS:∀ b,S b→w.heap.size≤b):Sm No w w2:=
 ((h.any _).tt k).mono (fun b hb e=>by have:=hS b e;omega)
def rI(w w1:World)(r:Nat)(L:List Lt):Prop:=∃ O,aT w1 O r L∧Sm No w w1∧∀ b,O b→w.heap.size≤b
theorem rI.no{w w1 w2:World}{r:Nat}{L:List Lt}(h:rI w w1 r L)(hs:Sm No w1 w2):rI w w2 r L:=by
 obtain⟨O,h1,h2,h3⟩:=h;exact⟨O,h1.no hs,h2.tt hs,h3⟩
theorem rI.sm{w w1:World}{r:Nat}{L:List Lt}(h:rI w w1 r L):Sm No w w1:=by
 obtain⟨O,_,h2,_⟩:=h;exact h2
def oa(L:List Lt):Prop:=L.length≤64∧∀ x∈L,x.ms.length≤4000
theorem oa.nil:oa []:=⟨by simp,by simp⟩
theorem oa.add{L:List Lt}{x:Lt}(h:oa L)(hx:x.ms.length≤4000):oa (fX L x):=by
 unfold fX;split
 ·rename_i hc
  have:=(xr hc).2.2.2.1;refine⟨by simp;omega,fun y hy=> ?_⟩;rcases List.mem_append.1 hy with hy|hy
  ·exact h.2 y hy
  ·rw [List.mem_singleton] at hy;subst hy;exact hx
 ·exact h
end Go.Proofs.YtadcjgopaadfjaaGreatDoor
