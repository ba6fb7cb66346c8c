import Derived.Test.YtcflkcbogofgbaaGreatDoorQRoutF
import Derived.Test.YtcflkcbogofgbaaGreatDoorQO
import Derived.Deep.QuietTactic
import Derived.BigQuiet
set_option maxHeartbeats 2000000
set_option maxRecDepth 100000
namespace Go.Proofs.YtcflkcbogofgbaaGreatDoor
open Go.RowKit Go.Proofs
def cN(w:World)(L:List Lt)(m path:af)(e:Ending)(w':World):Prop:=
 ∃ v,e=.returned (.tuple #[.int .i64 (bl L m path).1,gj (bl L m path).2.1,v,.int .i64 (bl L m path).2.2.2])∧bo w' w.heap.size v (bl L m path).2.2.1∧Sm No w w'
theorem cN.of{w w':World}{L:List Lt}{m path:af}{i st:Int}{rest:af}{al:List af}{v:Value}(h:bl L m path=(i,rest,al,st))(hv:bo w' w.heap.size v al)(hs:Sm No w w'):
 cN w L m path (.returned (.tuple #[.int .i64 i,gj rest,v,.int .i64 st])) w':=by
 refine⟨v,by rw [h],by rw [h];exact hv,hs⟩
def Ha(w:World)(S:List Lt)(i v:Value)(wr:World):Prop:=
 ∃ k:Nat,k≤S.length∧i=.int .i64 k∧bo wr w.heap.size v (fI (S.take k))∧Sm No w wr
theorem Da(S:List Lt)(h:∀ x∈S,x.ms.length≤4000):(fI S).length≤S.length * 4000:=by
 induction S with
 |nil=>simp [fI]
 |cons x S ih=>
  have h1:=h x (by simp);have h2:=ih (fun y hy=>h y (by simp [hy]));simp only [fI,List.flatMap_cons,List.length_append,List.length_cons] at h2 ⊢;omega
theorem tE{S:List Lt}{k:Nat}(h:k < S.length):fI (S.take (k+1))=fI (S.take k)++S[k].ms:=by
 unfold fI;rw [List.take_succ_eq_append_getElem h,List.flatMap_append];simp
theorem jE(l:List af):(eb l).length=l.length:=by simp [eb]
theorem bo.join{w:World}{B:Nat}{v:Value}{l m:List af}(h:w.ownsRow B 9 1 v (l.length+m.length) (l.map aX++m.map aX)):bo w B v (l++m):=by
 unfold bo;rw [List.length_append,List.map_append];exact h
theorem fw{S:Nat→Prop}{w w1 w2 w3:World}{v:Value}{l:List af}(h:bo w1 w.heap.size v l)(h1:Sm No w w2)(h2:Sm S w2 w3)(hS:∀ b,S b→v.ownBlock=some b):Sm No w w3:=
 ((h1.any _).tt h2).mono (fun b hb e=>by
   have:=(World.ownsRow.lt h _ (hS b e)).1;omega)
theorem Aa(w:World)(O:Nat→Prop)(r:Nat)(L:List Lt)(m path:ByteArray)(h:bj w O r L)(hL:L.length≤64)(hms:∀ x∈L,x.ms.length≤4000)(hp:path.size≤1000000):
 Calls Tryz.prog 70 #[.pointer (some ⟨r,0,none⟩),.string m,.string path] w (cN w L (ab m) (ab path)):=by
 obtain⟨M,hM⟩:=Iu (bl L (ab m) (ab path));have HM:=ns hM;have HF:=ns (B7 w O r L path h (fun x hx=>Nat.le_trans (hms x hx) (by decide)) hp);have HI:=ns (BT hms h);clear hM h hms;go_in;go_wp2_with fail;refine HF.out.mono ?_;rintro e w1 ⟨v,rest,rfl,hs1,hor⟩;have nE:=IL;have nN:=Iv;rcases hor with ⟨hf,rfl,rfl⟩|⟨k,hf,hne,hR⟩
 ·have hc:bl L (ab m) (ab path)=(0,[],[],404):=by unfold bl;rw [hf]
  have HE:=ns (cN.of hc (World.ownsRow_nil _ _ _ 1:bo w1 w.heap.size (.slice none 0 0) []) hs1);unfold mP;clear hc hf hs1;go_wp2_with fail;exact bodyPost_ret (v:=.tuple #[.int .i64 0,.string ⟨#[]⟩,.slice none 0 0,.int .i64 404]) (by simp [results,Tryz.results70,go_sem]) rfl HE.out
 ·obtain⟨A,c,rfl,hA⟩:=hR.form;obtain⟨g,rfl⟩:=hA hne;have hSl:(iN L k).length≤64:=Nat.le_trans (List.length_filter_le _ _) hL;have hSm:∀ x∈iN L k,x.ms.length≤4000:=fun x hx=>HI.out.1 x (List.mem_filter.1 hx).1;have hmt:∀ i,iO (iN L k) (ab m)=some i→bl L (ab m) (ab path)=(i,rest,[],200):=fun i e=>by unfold bl;rw [hf];simp only [e]
  have hmn:iO (iN L k) (ab m)=none→bl L (ab m) (ab path)=(0,[],ib (iN L k),405):=fun e=>by unfold bl;rw [hf];simp only [e]
  obtain⟨S,hS⟩:=Iu (iN L k);rw [hS] at hR hSl hSm hmt hmn hne ⊢;have HK:=ns (BT hR (BT hSm (BT hs1 (BT hmt hmn))));obtain⟨rb,hrb⟩:∃ rb:ByteArray,gj rest=.string rb:=⟨_,rfl⟩;have HRB:=ns hrb;rw [hrb];obtain⟨P,hP⟩:=Iu (uU S (ab m));have HO:=ns (us w1 _ S m (hR.no hs1) (by omega));rw [hP] at HO;have HPk:=ns hP;clear hf hne hR hS hSm hmt hmn hs1 hrb hA hP
  cases P with
  |some i=>
   have hc:=HK.out.2.2.2.1 i (by unfold iO;rw [HPk.out]);go_wp2_with fail;refine HO.out.mono ?_;rintro e w2 ⟨rfl,hs2⟩;have HE:=ns (cN.of hc (World.ownsRow_nil _ _ _ 1:bo w2 w.heap.size (.slice none 0 0) []) (HK.out.2.2.1.tt hs2));rw [HRB.out] at HE;clear hc hs2;unfold G6;go_wp2_with fail;exact bodyPost_ret (v:=.tuple #[.int .i64 i,.string rb,.slice none 0 0,.int .i64 200]) (by simp [results,Tryz.results70,go_sem]) rfl HE.out
  |none=>
   by_cases hm:m.toList=[72,69,65,68]
   ·obtain⟨P2,hP2⟩:∃ P,uU S na=P:=⟨_,rfl⟩;have hpk:iO S (ab m)=P2:=by
     unfold iO;rw [HPk.out,←hP2];simp only;rw [if_pos ((fB m fW).1 hm)]
    have HO2:=ns (fun (w2:World) (hs:Sm No w1 w2)=>us w2 _ S ⟨#[71,69,84]⟩ (HK.out.1.no (HK.out.2.2.1.tt hs)) (by omega));rw [show ab (⟨#[71,69,84]⟩:ByteArray)=na from rfl,hP2] at HO2;have HP2:=ns hpk;clear hpk hP2;go_wp2_with fail;refine HO.out.mono ?_;rintro e w2 ⟨rfl,hs2⟩;have HS2:=ns hs2;clear hs2;unfold G6;go_wp2_with fail;refine(HO2.out w2 HS2.out).mono ?_;rintro e w3 ⟨rfl,hs3⟩;have HS3:=ns ((HK.out.2.2.1.tt HS2.out).tt hs3);have HSa:=ns (HS2.out.tt hs3);clear hs3
    cases P2 with
    |some i=>
     have hc:=HK.out.2.2.2.1 i HP2.out;have HE:=ns (cN.of hc (World.ownsRow_nil _ _ _ 1:bo w3 w.heap.size (.slice none 0 0) []) HS3.out);rw [HRB.out] at HE;clear hc;unfold G6;go_wp2_with fail;exact bodyPost_ret (v:=.tuple #[.int .i64 i,.string rb,.slice none 0 0,.int .i64 200]) (by simp [results,Tryz.results70,go_sem]) rfl HE.out
    |none=>
     unfold G6;go_wp2_with fail;have hc:=HK.out.2.2.2.2 HP2.out;have HC:=ns hc;clear hc
     go_loopw [44,8] (fun i v wr=>Ha w S i v wr) (fun i _ _=>S.length-(intOf i).toNat)
     case atStart=>exact⟨0,Nat.zero_le _,rfl,World.ownsRow_nil _ _ _ 1,HS3.out⟩
     case round=>
      obtain⟨k,hk,rfl,hown,hsm⟩:=hrel;have hlen:(fI (S.take k)).length≤900000:=by
       have:=Da (S.take k) (fun x hx=>HK.out.2.1 x (List.mem_of_mem_take hx));have h2:(S.take k).length≤S.length:=by simp;omega
       have:(S.take k).length * 4000≤64 * 4000:=Nat.mul_le_mul (by omega) (Nat.le_refl _);omega
      by_cases hlt:k < S.length
      ·obtain⟨n,hn⟩:=Iu ((fI (S.take k)).length);rw [hn] at hlen;obtain⟨g2,A2,c2,hAe,hg,r0,r1,hR2,hl2,hA2⟩:=(HK.out.1.no hsm).get hlt;obtain rfl:g=g2:=by simpa using hAe
       have hmz:=HK.out.2.1 _ (List.getElem_mem hlt);have hstep:=tE hlt;obtain⟨yi,hyi⟩:=Iu (S[k].id);obtain⟨ym,hym⟩:=Iu (S[k].ms);rw [hyi] at r0;rw [hym] at r1 hR2 hl2 hmz hstep;have hA0:A2=none→ym.length=0∧c2=0:=fun e=>by
        subst e;refine⟨?_,hA2 rfl⟩;rcases Nat.eq_zero_or_pos ym.length with h|h
        ·exact h
        ·obtain⟨_,_,he,_⟩:=hR2.at (fG h)
         cases he
       have hs2:=(Sm.refl No wr).alloc (.cells #[.int .i64 yi,.slice A2 ym.length c2] 169);have HOwn:=ns (show (wr.alloc (.cells #[.int .i64 yi,.slice A2 ym.length c2] 169)).ownsRow w.heap.size 9 1 _ n _ from hn ▸ (World.ownsRow.alloc hown (.cells #[.int .i64 yi,.slice A2 ym.length c2] 169)));have HBx:=ns (BT hA0 (BT (hR2.no hs2) (BT hown (BT (hsm.tt hs2) (BT hstep hn)))));have HBb:Hid (w.heap.size≤(wr.alloc (.cells #[.int .i64 yi,.slice A2 ym.length c2] 169)).heap.size):=ns (HBx.out.2.2.2.1.size);have k1:(0:Int)≤(k:Int):=by omega
       have k2:(k:Int) < (S.length:Int):=by omega
       clear hAe hyi hym hA0 hR2 hA2 hs2 hown hsm hstep hn;go_wp2_with (refine cA rfl _ _ 125 9 rfl Tryz.underlying125 _ 1 16 dR rfl (by decide) (by decide) w.heap.size n _ _ rfl HOwn.out A2 ym.length c2 (ym.map aX) rfl HBx.out.1 (by simp) HBx.out.2.1 (by simp [aX,Value.oneCell']) (by omega) HBb.out ?_;intro v' w4 hown4 hs4 hv4);have HF4:=ns (show bo w4 w.heap.size v' (fI (S.take (k+1)))∧Sm No w w4 from⟨by rw [HBx.out.2.2.2.2.1];exact bo.join (by rw [HBx.out.2.2.2.2.2];exact hown4),fw HBx.out.2.2.1 HBx.out.2.2.2.1 hs4 (fun _ e=>e)⟩);clear hown4 hs4 hv4;go_wp2_with fail;exact⟨⟨k+1,by omega,by go_num,HF4.out.1,HF4.out.2⟩,by simp [intOf];omega⟩
      ·have hall:S.take k=S:=List.take_of_length_le (by omega);rw [hall] at hown hlen;obtain⟨Av,cv,rfl,hRv,_,_⟩:=ak hown;obtain⟨b,hb⟩:∃ b,(fI S).contains (ab ⟨#[71,69,84]⟩)=b:=⟨_,rfl⟩;have HB:=ns hb;have HX:=ns (BT hRv (BT hown hsm));clear hall hRv hown hb hsm;go_wp2_with fail;refine(et HB _ Av cv HX.out.1 (by omega)).mono ?_;rintro e w5 ⟨rfl,rfl⟩
       cases b
       ·have HSO:=ns (BT HX.out.2.1 (BT HX.out.2.2 (BT (show (fI S).length≤1000000 by omega) (show cJ (fI S)=fI S by unfold cJ;rw [if_neg];rw [show (fI S).contains na=false from HB.out];simp))));go_wp2_with fail;refine(kU _ w.heap.size _ (fI S) HSO.out.1 HSO.out.2.2.1).mono ?_;rintro e w6 ⟨rfl,hO6,hs6⟩;have H6:=ns (BT hO6 (fw HSO.out.1 HSO.out.2.1 hs6 (fun _ e=>e)));clear hO6 hs6;go_wp2_with fail;refine(gm _ w.heap.size _ (eb (fI S)) H6.out.1 (by rw [jE];exact HSO.out.2.2.1)).mono ?_;rintro e w7 ⟨v7,rfl,hO7,hs7⟩;have H7:=ns (cN.of (HC.out.trans (by rw [ib,HSO.out.2.2.2])) hO7 (fw H6.out.1 H6.out.2 hs7 (fun _ e=>e)));obtain⟨A7,c7,rfl,_,_,_⟩:=ak hO7;clear hO7 hs7;go_wp2_with fail;exact bodyPost_ret (v:=.tuple #[.int .i64 0,.string ⟨#[]⟩,.slice A7 (Lib.compact (eb (fI S))).length c7,.int .i64 405]) (by simp [results,Tryz.results70,go_sem]) rfl H7.out
       ·have HKx:=ns (World.ownsRow.alloc HX.out.2.1 (.cells #[.string ⟨#[72,69,65,68]⟩] 9));have HKb:Hid (w.heap.size≤(w5.alloc (.cells #[.string ⟨#[72,69,65,68]⟩] 9)).heap.size):=ns ((HX.out.2.2.alloc _).size);go_wp2_with (refine aq rfl _ _ 125 9 rfl Tryz.underlying125 _ 1 16 dR rfl (by decide) (by decide) w.heap.size _ _ _ rfl HKx.out w5.heap.size #[.string ⟨#[72,69,65,68]⟩] rfl (Bk.new w5 _ _) rfl (by simp [Value.oneCell']) (by omega) HKb.out ?_;intro v' w4 hown4 hs4 hv4);have HSO:=ns (BT (bo.push (t:=fW) hown4) (BT (fw HX.out.2.1 (HX.out.2.2.alloc _) hs4 (fun _ e=>e)) (BT (show (fI S++[fW]).length≤1000000 by simp;omega) (show cJ (fI S)=fI S++[fW] by unfold cJ;rw [if_pos];exact HB.out))));clear hown4 hs4 hv4;go_wp2_with fail;refine(kU _ w.heap.size _ (fI S++[fW]) HSO.out.1 HSO.out.2.2.1).mono ?_;rintro e w6 ⟨rfl,hO6,hs6⟩;have H6:=ns (BT hO6 (fw HSO.out.1 HSO.out.2.1 hs6 (fun _ e=>e)));clear hO6 hs6;go_wp2_with fail;refine(gm _ w.heap.size _ (eb (fI S++[fW])) H6.out.1 (by rw [jE];exact HSO.out.2.2.1)).mono ?_;rintro e w7 ⟨v7,rfl,hO7,hs7⟩;have H7:=ns (cN.of (HC.out.trans (by rw [ib,HSO.out.2.2.2])) hO7 (fw H6.out.1 H6.out.2 hs7 (fun _ e=>e)));obtain⟨A7,c7,rfl,_,_,_⟩:=ak hO7;clear hO7 hs7;go_wp2_with fail;exact bodyPost_ret (v:=.tuple #[.int .i64 0,.string ⟨#[]⟩,.slice A7 (Lib.compact (eb (fI S++[fW]))).length c7,.int .i64 405]) (by simp [results,Tryz.results70,go_sem]) rfl H7.out
   ·have hpk:iO S (ab m)=none:=by
     unfold iO;rw [HPk.out];simp only;rw [if_neg (fun e=>hm ((fB m fW).2 e))]
    have HP2:=ns hpk;clear hpk;have hm2:(m.toList==[72,69,65,68])=false:=by simpa using hm
    go_wp2_with fail;refine HO.out.mono ?_;rintro e w3 ⟨rfl,hs3⟩;have HS3:=ns (HK.out.2.2.1.tt hs3);have HSa:=ns hs3;clear hs3;unfold G6;go_wp2_with fail;have hc:=HK.out.2.2.2.2 HP2.out;have HC:=ns hc;clear hc
    go_loopw [44,8] (fun i v wr=>Ha w S i v wr) (fun i _ _=>S.length-(intOf i).toNat)
    case atStart=>exact⟨0,Nat.zero_le _,rfl,World.ownsRow_nil _ _ _ 1,HS3.out⟩
    case round=>
     obtain⟨k,hk,rfl,hown,hsm⟩:=hrel;have hlen:(fI (S.take k)).length≤900000:=by
      have:=Da (S.take k) (fun x hx=>HK.out.2.1 x (List.mem_of_mem_take hx));have h2:(S.take k).length≤S.length:=by simp;omega
      have:(S.take k).length * 4000≤64 * 4000:=Nat.mul_le_mul (by omega) (Nat.le_refl _);omega
     by_cases hlt:k < S.length
     ·obtain⟨n,hn⟩:=Iu ((fI (S.take k)).length);rw [hn] at hlen;obtain⟨g2,A2,c2,hAe,hg,r0,r1,hR2,hl2,hA2⟩:=(HK.out.1.no hsm).get hlt;obtain rfl:g=g2:=by simpa using hAe
      have hmz:=HK.out.2.1 _ (List.getElem_mem hlt);have hstep:=tE hlt;obtain⟨yi,hyi⟩:=Iu (S[k].id);obtain⟨ym,hym⟩:=Iu (S[k].ms);rw [hyi] at r0;rw [hym] at r1 hR2 hl2 hmz hstep;have hA0:A2=none→ym.length=0∧c2=0:=fun e=>by
       subst e;refine⟨?_,hA2 rfl⟩;rcases Nat.eq_zero_or_pos ym.length with h|h
       ·exact h
       ·obtain⟨_,_,he,_⟩:=hR2.at (fG h)
        cases he
      have hs2:=(Sm.refl No wr).alloc (.cells #[.int .i64 yi,.slice A2 ym.length c2] 169);have HOwn:=ns (show (wr.alloc (.cells #[.int .i64 yi,.slice A2 ym.length c2] 169)).ownsRow w.heap.size 9 1 _ n _ from hn ▸ (World.ownsRow.alloc hown (.cells #[.int .i64 yi,.slice A2 ym.length c2] 169)));have HBx:=ns (BT hA0 (BT (hR2.no hs2) (BT hown (BT (hsm.tt hs2) (BT hstep hn)))));have HBb:Hid (w.heap.size≤(wr.alloc (.cells #[.int .i64 yi,.slice A2 ym.length c2] 169)).heap.size):=ns (HBx.out.2.2.2.1.size);have k1:(0:Int)≤(k:Int):=by omega
      have k2:(k:Int) < (S.length:Int):=by omega
      clear hAe hyi hym hA0 hR2 hA2 hs2 hown hsm hstep hn;go_wp2_with (refine cA rfl _ _ 125 9 rfl Tryz.underlying125 _ 1 16 dR rfl (by decide) (by decide) w.heap.size n _ _ rfl HOwn.out A2 ym.length c2 (ym.map aX) rfl HBx.out.1 (by simp) HBx.out.2.1 (by simp [aX,Value.oneCell']) (by omega) HBb.out ?_;intro v' w4 hown4 hs4 hv4);have HF4:=ns (show bo w4 w.heap.size v' (fI (S.take (k+1)))∧Sm No w w4 from⟨by rw [HBx.out.2.2.2.2.1];exact bo.join (by rw [HBx.out.2.2.2.2.2];exact hown4),fw HBx.out.2.2.1 HBx.out.2.2.2.1 hs4 (fun _ e=>e)⟩);clear hown4 hs4 hv4;go_wp2_with fail;exact⟨⟨k+1,by omega,by go_num,HF4.out.1,HF4.out.2⟩,by simp [intOf];omega⟩
     ·have hall:S.take k=S:=List.take_of_length_le (by omega);rw [hall] at hown hlen;obtain⟨Av,cv,rfl,hRv,_,_⟩:=ak hown;obtain⟨b,hb⟩:∃ b,(fI S).contains (ab ⟨#[71,69,84]⟩)=b:=⟨_,rfl⟩;have HB:=ns hb;have HX:=ns (BT hRv (BT hown hsm));clear hall hRv hown hb hsm;go_wp2_with fail;refine(et HB _ Av cv HX.out.1 (by omega)).mono ?_;rintro e w5 ⟨rfl,rfl⟩
      cases b
      ·have HSO:=ns (BT HX.out.2.1 (BT HX.out.2.2 (BT (show (fI S).length≤1000000 by omega) (show cJ (fI S)=fI S by unfold cJ;rw [if_neg];rw [show (fI S).contains na=false from HB.out];simp))));go_wp2_with fail;refine(kU _ w.heap.size _ (fI S) HSO.out.1 HSO.out.2.2.1).mono ?_;rintro e w6 ⟨rfl,hO6,hs6⟩;have H6:=ns (BT hO6 (fw HSO.out.1 HSO.out.2.1 hs6 (fun _ e=>e)));clear hO6 hs6;go_wp2_with fail;refine(gm _ w.heap.size _ (eb (fI S)) H6.out.1 (by rw [jE];exact HSO.out.2.2.1)).mono ?_;rintro e w7 ⟨v7,rfl,hO7,hs7⟩;have H7:=ns (cN.of (HC.out.trans (by rw [ib,HSO.out.2.2.2])) hO7 (fw H6.out.1 H6.out.2 hs7 (fun _ e=>e)));obtain⟨A7,c7,rfl,_,_,_⟩:=ak hO7;clear hO7 hs7;go_wp2_with fail;exact bodyPost_ret (v:=.tuple #[.int .i64 0,.string ⟨#[]⟩,.slice A7 (Lib.compact (eb (fI S))).length c7,.int .i64 405]) (by simp [results,Tryz.results70,go_sem]) rfl H7.out
      ·have HKx:=ns (World.ownsRow.alloc HX.out.2.1 (.cells #[.string ⟨#[72,69,65,68]⟩] 9));have HKb:Hid (w.heap.size≤(w5.alloc (.cells #[.string ⟨#[72,69,65,68]⟩] 9)).heap.size):=ns ((HX.out.2.2.alloc _).size);go_wp2_with (refine aq rfl _ _ 125 9 rfl Tryz.underlying125 _ 1 16 dR rfl (by decide) (by decide) w.heap.size _ _ _ rfl HKx.out w5.heap.size #[.string ⟨#[72,69,65,68]⟩] rfl (Bk.new w5 _ _) rfl (by simp [Value.oneCell']) (by omega) HKb.out ?_;intro v' w4 hown4 hs4 hv4);have HSO:=ns (BT (bo.push (t:=fW) hown4) (BT (fw HX.out.2.1 (HX.out.2.2.alloc _) hs4 (fun _ e=>e)) (BT (show (fI S++[fW]).length≤1000000 by simp;omega) (show cJ (fI S)=fI S++[fW] by unfold cJ;rw [if_pos];exact HB.out))));clear hown4 hs4 hv4;go_wp2_with fail;refine(kU _ w.heap.size _ (fI S++[fW]) HSO.out.1 HSO.out.2.2.1).mono ?_;rintro e w6 ⟨rfl,hO6,hs6⟩;have H6:=ns (BT hO6 (fw HSO.out.1 HSO.out.2.1 hs6 (fun _ e=>e)));clear hO6 hs6;go_wp2_with fail;refine(gm _ w.heap.size _ (eb (fI S++[fW])) H6.out.1 (by rw [jE];exact HSO.out.2.2.1)).mono ?_;rintro e w7 ⟨v7,rfl,hO7,hs7⟩;have H7:=ns (cN.of (HC.out.trans (by rw [ib,HSO.out.2.2.2])) hO7 (fw H6.out.1 H6.out.2 hs7 (fun _ e=>e)));obtain⟨A7,c7,rfl,_,_,_⟩:=ak hO7;clear hO7 hs7;go_wp2_with fail;exact bodyPost_ret (v:=.tuple #[.int .i64 0,.string ⟨#[]⟩,.slice A7 (Lib.compact (eb (fI S++[fW]))).length c7,.int .i64 405]) (by simp [results,Tryz.results70,go_sem]) rfl H7.out
theorem io{w:World}{g:Nat}{t:TypeId}{cs:Array Value}(h:Bk w g t cs):ar w (some ⟨g,0,none⟩) cs.toList:=by
 intro j u hj;refine⟨g,0,rfl,h.lt,?_⟩;rw [Nat.zero_add];exact h.at j (by simpa using hj)
theorem Sm.fresh{S:Nat→Prop}{w w1 w2:World}(h:Sm No w w1)(k:Sm S w1 w2)(hS:∀ b,S b→w.heap.size≤b):Sm No w w2:=
 ((h.any _).tt k).mono (fun b hb e=>by have:=hS b e;omega)
def tQ(w w1:World)(r:Nat)(L:List Lt):Prop:=∃ O,bj w1 O r L∧Sm No w w1∧∀ b,O b→w.heap.size≤b
theorem tQ.no{w w1 w2:World}{r:Nat}{L:List Lt}(h:tQ w w1 r L)(hs:Sm No w1 w2):tQ w w2 r L:=by
 obtain⟨O,h1,h2,h3⟩:=h;exact⟨O,h1.no hs,h2.tt hs,h3⟩
theorem tQ.sm{w w1:World}{r:Nat}{L:List Lt}(h:tQ w w1 r L):Sm No w w1:=by
 obtain⟨O,_,h2,_⟩:=h;exact h2
def tN(L:List Lt):Prop:=L.length≤64∧∀ x∈L,x.ms.length≤4000
theorem tN.nil:tN []:=⟨by simp,by simp⟩
theorem tN.add{L:List Lt}{x:Lt}(h:tN L)(hx:x.ms.length≤4000):tN (iJ L x):=by
 unfold iJ;split
 ·rename_i hc
  have:=(xW hc).2.2.2.1;refine⟨by simp;omega,fun y hy=> ?_⟩;rcases List.mem_append.1 hy with hy|hy
  ·exact h.2 y hy
  ·rw [List.mem_singleton] at hy;subst hy;exact hx
 ·exact h
end Go.Proofs.YtcflkcbogofgbaaGreatDoor
