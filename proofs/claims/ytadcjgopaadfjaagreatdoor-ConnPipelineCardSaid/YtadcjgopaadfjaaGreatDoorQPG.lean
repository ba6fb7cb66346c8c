import Derived.Test.YtadcjgopaadfjaaGreatDoorQPgV
import Derived.Test.YtadcjgopaadfjaaGreatDoorQT
import Derived.Test.YtadcjgopaadfjaaGreatDoorQOR
set_option maxHeartbeats 16000000
set_option maxRecDepth 100000
namespace Go.Proofs.YtadcjgopaadfjaaGreatDoor
open Go.RowKit Go.Proofs
theorem oW(h:Hd):∀ (k:Nat) (b l:ah),k+1≤l.length→((b.length+(k+1):Nat):Int)≤h.how.len→aS (.len h b) l=
 ((aS (if ((b.length+(k+1):Nat):Int)=h.how.len then cP.whole h (b++l.take (k+1)) else .len h (b++l.take (k+1))) (l.drop (k+1))).1,(aS (if ((b.length+(k+1):Nat):Int)=h.how.len then cP.whole h (b++l.take (k+1)) else .len h (b++l.take (k+1))) (l.drop (k+1))).2+(k+1))
 |k,b,[],hl,_=>absurd hl (by simp)
 |0,b,c::r,_,hk=>by
  rw [da rfl,show lI (.len h b) c=if ((b.length+1:Nat):Int)=h.how.len then .whole h (b++[c]) else .len h (b++[c]) from rfl];rfl
 |k+1,b,c::r,hl,hk=>by
  rw [da rfl,show lI (.len h b) c=if ((b.length+1:Nat):Int)=h.how.len then .whole h (b++[c]) else .len h (b++[c]) from rfl,if_neg (by omega)];have e1:(b++[c]).length+(k+1)=b.length+(k+1+1):=by rw [List.length_append,List.length_singleton];omega
  have ih:=oW h k (b++[c]) r (by simpa using hl) (by rw [e1];exact hk);have e2:b++[c]++r.take (k+1)=b++(c::r).take (k+1+1):=by rw [List.take_succ_cons,List.append_assoc];rfl
  rw [e1,e2] at ih;rw [ih,show (c::r).drop (k+1+1)=r.drop (k+1) from rfl];simp only [Prod.mk.injEq,true_and];omega
def kK(w:World)(O:Nat→Prop)(g:Nat)(s:cP)(l:ah)(e:Ending)(w':World):Prop:=
 ∃ (k:Nat) (s':cP),e=.returned (.int .i64 k)∧1≤k∧k≤l.length∧aS s l=((aS s' (l.drop k)).1,(aS s' (l.drop k)).2+k)∧cK s'∧bZ w' (be O w w') g s'∧Sm O w w'
theorem mW (w:World) (O:Nat→Prop) (g gh gf:Nat) (vF vL:Value) (s:cP) (h:Hd) (L:ah) (ph:Int) (c:UInt8) (r:ah) (A:Option Addr) (cp:Nat) (hK:fB w g ph 0 vL (cn gh) 0 bD (.pointer none) 0) (hh:cI w O gh gf vF h) (hln:jA w O vL L) (hm:BA h) (og:O g) (lt:∀ x,O x→x < w.heap.size)
 (hg:G0 w) (hO0:¬O 0) (ho:cK (.head h L)) (hph:ph≠2) (hs:lI s c=eP h L c) (hd:s.done=false) (hos:cK s) (hR:ax w A ((c::r).map aU)) (hA:∀ a,A=some a→¬O a.block) (hl:(c::r).length≤1000000):
 Calls Tryz.prog 125 #[.pointer (some ⟨g,0,none⟩),.slice A (c::r).length cp] w (kK w O g s (c::r)):=by
 obtain⟨w1,hw1⟩:=ai (w.setCell ⟨g,0,none⟩ (.int .i64 1));have hs1:Sm (fun x=>x=g) w w1:=by rw [←hw1];exact(Sm.refl _ w).set1 0 _
 have hK1:fB w1 g 1 0 vL (cn gh) 0 bD (.pointer none) 0:=by rw [←hw1];exact(Bk.set hK 0 _).eq rfl
 have hsO:Sm O w w1:=hs1.mono (fun x _ e=>e ▸ og);have lt1:∀ x,O x→x < w1.heap.size:=fun x e=>Nat.lt_of_lt_of_le (lt x e) hs1.size;have HC:=aa (rn w1 O g h L c ⟨⟨gh,gf,vF,vL,hK1,hh.own hK rfl hs1,hln.own hK rfl hs1,hm⟩,og,lt1⟩ (hg.out hsO hO0) hO0 ho);obtain⟨bb,off,hAe,hbb,r1⟩:=(hR.sm hsO hA).at (j:=0) (u:=.int .u8 c.toNat) (by simp [aU]);subst hAe;rw [Nat.add_zero] at r1;have hgl:=Bk.lt hK;have hc:=Bk.all hK;have hz:=Bk.fz hK;have hgl1:=Bk.lt hK1;unfold cn bD at hc;have e2:(ph==2)=false:=by simp [hph]
 have e3:(ph != 2)=true:=by simp [hph]
 have HW:=aa (ab hw1 (ab hs (ab hd (ab hos (ab og (ab lt hsO))))));obtain⟨n,hn⟩:=ai ((c::r).length);have n1:(1:Int)≤(n:Int):=by rw [←hn];simp;omega
 have n2:(0:Int) < (n:Int):=by omega
 have n3:(n:Int)≤1000000:=by rw [hn] at hl;omega
 have HN:=aa hn;rw [hn];clear hw1 hs1 hK1 hsO lt1 hK hh hln hm og lt hg hO0 ho hph hs hd hos hR hA hl hn;go_in;go_upto_region 3 with fail;rw [HW.out.1];clear hc hz;go_wp2_with fail;refine HC.out.mono ?_;rintro e w2 ⟨rfl,hI2,hs2⟩;have H2:=aa (ab hI2 hs2);clear hI2 hs2 r1;go_wp2_with fail;go_ret;obtain⟨hw1,hs,hd,hos,og,lt,hsO⟩:=HW.out;refine⟨1,lI s c,rfl,Nat.le_refl _,by simp,?_,wX hos,?_,hsO.tt H2.out.2⟩
 ·rw [da hd];rfl
 ·rw [hs];exact H2.out.1.imp (fun x e=>e.imp id (fun e=>⟨Nat.le_trans hsO.size e.1,e.2⟩)) (be.lt lt (Nat.le_trans hsO.size H2.out.2.size))
theorem xR(w:World)(O:Nat→Prop)(g:Nat)(h:Hd)(B:ah)(l:ah)(A:Option Addr)(cp:Nat)(hI:bZ w O g (.len h B))(ho:cK (.len h B))(hl0:l≠[])(hR:ax w A (l.map aU))(hA:∀ a,A=some a→¬O a.block)(hl:l.length≤1000000)(hcp:l.length≤cp):
 Calls Tryz.prog 125 #[.pointer (some ⟨g,0,none⟩),.slice A l.length cp] w (kK w O g (.len h B) l):=by
 obtain⟨⟨gh,gf,vF,ln,vB,hK,hh,hB⟩,og,lt⟩:=hI;have hlp:0 < l.length:=List.length_pos_iff.2 hl0;have hob:B.length≤2048∧(B.length:Int) < h.how.len∧h.how.len≤2048:=⟨by have:=ho.2.2;omega,ho.2.2⟩;obtain⟨n,hn⟩:=ai h.how.len;rw [hn] at hob hK;obtain⟨k,hk⟩:∃ k:Nat,min (n-(B.length:Int)) (l.length:Int)=((k+1:Nat):Int):=⟨(min (n-(B.length:Int)) (l.length:Int)).toNat-1,by omega⟩;have hkl:k+1≤l.length:=by omega
 have hkn:((B.length+(k+1):Nat):Int)≤n:=by omega
 have HF:=aa (oW h k B l hkl (by rw [hn];exact hkn));rw [hn] at HF;have HOk:=aa (ab ho.1 (ab ho.2.1 (ab hob hkn)));obtain⟨K,hK1⟩:=ai (k+1);rw [hK1] at hk hkl hkn HF HOk;have HLen:=aa (show (B++l.take K).length=B.length+K from by rw [List.length_append,List.length_take];omega);have HHow:=aa hn;obtain⟨Ab,cb,hv, -⟩:=hB.1.slice;subst hv;have hgl:=Bk.lt hK;have hc:=Bk.all hK;have hz:=Bk.fz hK;unfold cn at hc;have H:=aa (ab hK (ab hh (ab hB (ab og lt))));have HN:=aa (show (Value.slice Ab B.length cb).ownBlock≠some g from am hB.1 hK (by decide));have HNF:=aa (show ∀ x,(Value.slice Ab B.length cb).ownBlock=some x→x≠gh∧x≠gf∧vF.ownBlock≠some x from fun x e=>⟨fun e2=>am hB.1 hh.ph.bk (by decide) (by rw [e,e2]),fun e2=>am hB.1 hh.ph.fs.1 (by decide) (by rw [e,e2]),fun e2=>by
  obtain⟨c1,h1⟩:=az hh.ph.fs.2.1 e2;obtain⟨c2,h2⟩:=az hB.1 e;rw [h1] at h2;injection h2 with h2;injection h2 with _ h2;exact absurd h2 (by decide)⟩)
 have HRow:=aa (show ax w A ((l.take K).map aU) from fun j u hj=>hR j u (by
  rw [List.map_take,List.getElem?_take] at hj;split at hj
  ·exact hj
  ·cases hj))
 have HL:=aa (show ((l.take K).map aU).length=K * 1∧(A=none→K=0∧cp=0)∧1≤K from by
  refine⟨by rw [List.length_map,List.length_take];omega,fun e=> ?_,by omega⟩;subst e;obtain⟨bb,off,hAe,_⟩:=hR.at (j:=0) (u:=.int .u8 (l[0]).toNat) (by simp [hlp,aU])
  cases hAe)
 have k1:(K:Int)≤(cp:Int):=by omega
 have k2:(K:Int)≤(l.length:Int):=by omega
 have k3:IntKind.i64.wrap (n-(B.length:Int)-(K:Int))=n-(B.length:Int)-(K:Int):=IntWalk.i64_in _ (by omega);have k4:IntKind.i64.wrap ((B.length:Int)+(K:Int))=(B.length:Int)+(K:Int):=IntWalk.i64_in _ (by omega);have k5:(0:Int)≤(K:Int):=by omega
 have k6:K≤2048:=by have:=hob.2.2;omega
 have k7:B.length≤2048:=hob.1;obtain⟨m,hm⟩:=ai l.length;have HM:=aa hm;rw [hm] at hk k2 ⊢;clear hn hK1 hK hh hB og lt hR hA hlp hob hl0 ho hl hcp hkl hm;go_in;go_upto_region 7 with fail;have HOwn:=aa (H.out.2.2.1.1.drew);have HRowD:=aa (HRow.out.no (Sm.refl No w).drew);have HKd:=aa (Bk.drew H.out.1);have HOne:=aa (show ∀ u∈(l.take K).map aU,u.oneCell'=true from fun u hu=>by obtain⟨c,_,rfl⟩:=List.mem_map.1 hu;rfl)
 go_region_law
  ((refine jq (by rfl) _ _ 34 5 (by rfl) Tryz.underlying34 _ 1 1 fC rfl (by decide) (by decide) 0 B.length (.slice Ab B.length cb) (B.map aU) (by rfl) HOwn.out A K cp ((l.take K).map aU) (by rfl) HL.out.2.1 HL.out.1 HRowD.out HOne.out (by omega) (Nat.zero_le _) ?_;intro A5 c5 w5 hown5 hs5 hr5;have hb5:=Bk.sm HKd.out hs5 HN.out;have hc5:=Bk.all hb5;have hz5:=Bk.fz hb5;have hl5:=Bk.lt hb5;unfold cn at hc5))
 all_goals
  have hs5':Sm (fun b=>(Value.slice Ab B.length cb).ownBlock=some b) w w5:=(Sm.refl _ w).drew.tt hs5;have hO5:aG w5 0 (.slice A5 (B.length+K) c5) (B++l.take K):=by
   unfold aG;rw [HLen.out,List.map_append];exact hown5
  obtain⟨w6,hw6⟩:=ai (w5.setCell ⟨g,5,none⟩ (.slice A5 (B.length+K) c5));have hs56:Sm (fun x=>x=g) w5 w6:=by rw [←hw6];exact(Sm.refl _ w5).set1 5 _
  have hK6:fB w6 g 2 0 ln (cn gh) (n-(B.length:Int)) (.slice A5 (B.length+K) c5) (.pointer none) B.length:=by rw [←hw6];exact(Bk.set hb5 5 _).eq rfl
  have hO6:aG w6 0 (.slice A5 (B.length+K) c5) (B++l.take K):=ae hO5 hs56 (fun x e e2=>am hO5 hb5 (by decide) (by rw [e,e2]));have hh5:cI w5 O gh gf vF h:=H.out.2.1.sm hs5' (fun e=>(HNF.out _ e).1 rfl) (fun e=>(HNF.out _ e).2.1 rfl) (fun x e e2=>(HNF.out _ e2).2.2 e);have hh6:cI w6 O gh gf vF h:=hh5.own hb5 rfl hs56;have hsO:Sm O w w6:=(hs5'.mono (fun x _ e=>H.out.2.2.1.2 x e)).trans hs56 (fun x _ e=>e ▸ H.out.2.2.2.1);have how:∀ y,(Value.slice A5 (B.length+K) c5).ownBlock=some y→be O w w6 y:=fun y e=>by
   rcases hr5 with e2|e2
   ·exact Or.inl (H.out.2.2.1.2 y (by rw [←e2,e]))
   ·rw [e2] at e;injection e with e;subst e;exact Or.inr ⟨Nat.le_refl _,(World.ownsRow.lt hO6 _ e2).2⟩
  have H6:=aa (ab hK6 (ab hO6 (ab hh6 (ab hsO how))));have hgl6:=Bk.lt hK6;have hc6:=Bk.all hK6;have hz6:=Bk.fz hK6;unfold cn at hc6;rw [hw6];clear hs5' hO5 hw6 hs56 hK6 hO6 hh5 hh6 hsO how hown5 hs5 hr5 hb5 hc5 hz5 hl5 hc hz;by_cases he:((B.length+K:Nat):Int)=n
  ·have k8:(n-(B.length:Int)-(K:Int)==0)=true:=by rw [beq_iff_eq];omega
   have HF2:=aa (HF.out.trans (by rw [if_pos he]));clear he;go_wp2_with fail;go_ret;have hs7:Sm (fun x=>x=g) w6 (((w6.setCell ⟨g,4,none⟩ (.int .i64 (n-(B.length:Int)-(K:Int)))).setCell ⟨g,0,none⟩ (.int .i64 3)).setCell ⟨g,7,none⟩ (.int .i64 ((B.length:Int)+(K:Int)))):=(((Sm.refl _ w6).set1 4 _).set1 0 _).set1 7 _;have hK7:fB (((w6.setCell ⟨g,4,none⟩ (.int .i64 (n-(B.length:Int)-(K:Int)))).setCell ⟨g,0,none⟩ (.int .i64 3)).setCell ⟨g,7,none⟩ (.int .i64 ((B.length:Int)+(K:Int)))) g 3 0 ln (cn gh) (n-(B.length:Int)-(K:Int)) (.slice A5 (B.length+K) c5) (.pointer none) ((B.length:Int)+(K:Int)):=(((Bk.set H6.out.1 4 _).set 0 _).set 7 _).eq rfl;have hsw:=H6.out.2.2.2.1.tt (hs7.mono (fun x _ e=>e ▸ H.out.2.2.2.1):Sm O w6 _);refine⟨K,_,rfl,HL.out.2.2,by rw [HM.out];omega,HF2.out,?_,⟨⟨gh,gf,vF,ln,_,_,_,_,hK7,(H6.out.2.2.1.own H6.out.1 rfl hs7).imp (fun x e=>Or.inl e),aH.of (ae H6.out.2.1 hs7 (fun x e e2=>am H6.out.2.1 H6.out.1 (by decide) (by rw [e,e2]))),fun y e=>(H6.out.2.2.2.2 y e).imp id (fun e=>⟨e.1,Nat.lt_of_lt_of_le e.2 hs7.size⟩)⟩,Or.inl H.out.2.2.2.1,be.lt H.out.2.2.2.2 hsw.size⟩,hsw⟩;exact⟨HOk.out.1,by rw [HLen.out];have h1:=HOk.out.2.2.2;have h2:=HOk.out.2.2.1.2.2;omega⟩
  ·have k8:(n-(B.length:Int)-(K:Int)==0)=false:=by rw [beq_eq_false_iff_ne];omega
   have HF2:=aa (HF.out.trans (by rw [if_neg he]));have HNe:=aa he;clear he;go_wp2_with fail;go_ret;have hs7:Sm (fun x=>x=g) w6 ((w6.setCell ⟨g,4,none⟩ (.int .i64 (n-(B.length:Int)-(K:Int)))).setCell ⟨g,7,none⟩ (.int .i64 ((B.length:Int)+(K:Int)))):=((Sm.refl _ w6).set1 4 _).set1 7 _;have hK7:fB ((w6.setCell ⟨g,4,none⟩ (.int .i64 (n-(B.length:Int)-(K:Int)))).setCell ⟨g,7,none⟩ (.int .i64 ((B.length:Int)+(K:Int)))) g 2 0 ln (cn gh) (n-(B.length:Int)-(K:Int)) (.slice A5 (B.length+K) c5) (.pointer none) ((B.length:Int)+(K:Int)):=((Bk.set H6.out.1 4 _).set 7 _).eq rfl;have hsw:=H6.out.2.2.2.1.tt (hs7.mono (fun x _ e=>e ▸ H.out.2.2.2.1):Sm O w6 _);have hK8:fB ((w6.setCell ⟨g,4,none⟩ (.int .i64 (n-(B.length:Int)-(K:Int)))).setCell ⟨g,7,none⟩ (.int .i64 ((B.length:Int)+(K:Int)))) g 2 0 ln (cn gh) (h.how.len-((B++l.take K).length:Int)) (.slice A5 (B.length+K) c5) (.pointer none) ((B++l.take K).length:Int):=by
    rw [HLen.out,HHow.out];have e1:n-((B.length+K:Nat):Int)=n-(B.length:Int)-(K:Int):=by omega
    have e2:((B.length+K:Nat):Int)=(B.length:Int)+(K:Int):=by omega
    rw [e1,e2];exact hK7
   refine⟨K,_,rfl,HL.out.2.2,by rw [HM.out];omega,HF2.out,?_,⟨⟨gh,gf,vF,ln,_,hK8,(H6.out.2.2.1.own H6.out.1 rfl hs7).imp (fun x e=>Or.inl e),ae H6.out.2.1 hs7 (fun x e e2=>am H6.out.2.1 H6.out.1 (by decide) (by rw [e,e2])),fun y e=>(H6.out.2.2.2.2 y e).imp id (fun e=>⟨e.1,Nat.lt_of_lt_of_le e.2 hs7.size⟩)⟩,Or.inl H.out.2.2.2.1,be.lt H.out.2.2.2.2 hsw.size⟩,hsw⟩;exact⟨HOk.out.1,HOk.out.2.1,by have h1:=HOk.out.2.2.2;have h2:=HNe.out;rw [HLen.out,HHow.out];omega,by rw [HHow.out];exact HOk.out.2.2.1.2.2⟩
theorem DY{b:ah}{p:dG}{l:ah}(h:l≠[]):1≤(jc (.at b p) l).2:=by
 cases l with
 |nil=>exact absurd rfl h
 |cons c r=>show 1≤_+1;omega
theorem Ch{h:Hd}{b:ah}{p:dG}{l:ah}{q:eW}{k:Nat}(hq:jc (.at b p) l=(q,k)):aS (.chunk h b p) l=((aS (dy h q) (l.drop k)).1,(aS (dy h q) (l.drop k)).2+k):=by
 have e:=ip h l (.at b p);rw [hq] at e;have e:aS (.chunk h b p) l=(dy h q,k):=e;rw [e];have hd:aS (dy h q) (l.drop k)=(dy h q,0):=by
  cases hdn:(dy h q).done with
  |true=>exact ez hdn _
  |false=>
   have h1:=oU l (.chunk h b p) (by rw [e];exact hdn);rw [e] at h1;have h1:k=l.length:=h1;rw [h1,List.drop_length];rfl
 rw [hd];simp
theorem tY(w:World)(O:Nat→Prop)(g:Nat)(h:Hd)(B:ah)(p:dG)(l:ah)(A:Option Addr)(cp:Nat)(hI:bZ w O g (.chunk h B p))(ho:cK (.chunk h B p))(hl0:l≠[])(hR:ax w A (l.map aU))(hA:∀ a,A=some a→¬O a.block)(hl:l.length≤1000000):
 Calls Tryz.prog 125 #[.pointer (some ⟨g,0,none⟩),.slice A l.length cp] w (kK w O g (.chunk h B p) l):=by
 have hos:=sq l ho;obtain⟨⟨gh,gf,vF,ln,gr,Oq,fed,hK,hh,hP,hsub,n1,n2,n3,n4,hfed⟩,og,lt⟩:=hI;have HC:=uc w Oq gr B p A cp l hP ho.2.2 hR (fun a e _ e2=>hA a e (hsub _ e2)) hl;obtain⟨q,k,hq⟩:∃ q k,jc (.at B p) l=(q,k):=⟨_,_,rfl⟩;have hk1:1≤k:=by have:=DY (b:=B) (p:=p) hl0;rw [hq] at this;exact this
 have hk2:k≤l.length:=by have:=BQ l (.at B p);rw [hq] at this;exact this
 have HW:=aa (Ch (h:=h) hq);have hos:cK (dy h q):=by
  have e:=ip h l (.at B p);rw [hq] at e;have e:aS (.chunk h B p) l=(dy h q,k):=e;rw [e] at hos;exact hos
 have hfb:=hfed.bd ho.2.2;have hf0:=hfed.lo;have HQ:=aa (ab hq (ab ho.2.2 (ab hos hfed)));rw [hq] at HC;have HC:=aa HC;have hgl:=Bk.lt hK;have hc:=Bk.all hK;have hz:=Bk.fz hK;unfold cn bD at hc;have k4:IntKind.i64.wrap (fed+(k:Int))=fed+(k:Int):=IntWalk.i64_in _ (by omega);have hrl:gr < w.heap.size:=(show pu w Oq gr (.at B p) from hP).lt.1 _ (show pu w Oq gr (.at B p) from hP).lt.2;have H:=aa (ab hK (ab hh (ab hsub (ab n1 (ab n2 (ab n3 (ab n4 (ab og lt))))))));have HL:=aa (ab hk1 hk2);obtain⟨m,hm⟩:=ai l.length;have m1:(1:Int)≤(m:Int):=by omega
 have m2:(m:Int)≤1000000:=by omega
 have hmin:min (0:Int) (m:Int)=0:=by omega
 rw [hm] at HC ⊢;clear hK hh hP hsub n1 n2 n3 n4 hfed og lt hq hos hk1 hk2 hR hA hl0 ho hl hm;have hMid:Hid (∀ (w2:World),Sm Oq w w2→fB w2 g 2 0 ln (cn gh) 0 bD (cn gr) fed∧cI w2 O gh gf vF h∧Sm O w w2):=aa (fun w2 hs2=>
  ⟨Bk.sm H.out.1 hs2 H.out.2.2.2.1,H.out.2.1.sm hs2 H.out.2.2.2.2.1 H.out.2.2.2.2.2.1 H.out.2.2.2.2.2.2.1,hs2.mono (fun x _ e=>H.out.2.2.1 x e)⟩)
 cases q with
 |«at» b' p'=>
  go_in;go_wp2_with fail;refine HC.out.mono ?_;rintro e w2 ⟨rfl,hQ2,hok2,hs2⟩;obtain⟨hK2,hh2,hsO⟩:=hMid.out w2 hs2;have H2:=aa (ab hK2 (ab hh2 (ab hsO (ab hQ2 (ab hok2 hs2)))));have hgl2:=Bk.lt hK2;have hc2:=Bk.all hK2;have hz2:=Bk.fz hK2;unfold cn bD at hc2;have HR0:=aa (jx w2 g);clear hK2 hh2 hsO hQ2 hok2 hs2 hc hz;dsimp only [eW.wh,eW.sta];go_wp2_with fail;refine HR0.out.mono ?_;rintro e w3 ⟨rfl,rfl⟩;go_wp2_with fail;go_ret;have hs7:Sm (fun x=>x=g) w2 (w2.setCell ⟨g,7,none⟩ (.int .i64 (fed+(k:Int)))):=(Sm.refl _ w2).set1 7 _;have hK7:fB (w2.setCell ⟨g,7,none⟩ (.int .i64 (fed+(k:Int)))) g 2 0 ln (cn gh) 0 bD (cn gr) (fed+(k:Int)):=(Bk.set H2.out.1 7 _).eq rfl;have hsw:Sm O w _:=H2.out.2.2.1.tt (hs7.mono (fun x _ e=>e ▸ H.out.2.2.2.2.2.2.2.1):Sm O w2 _);have ng:¬be Oq w w2 g:=fun e=>e.elim H.out.2.2.2.1 (fun e=>absurd e.1 (by have:=H.out.2.2.2.2.2.2.2.2 g H.out.2.2.2.2.2.2.2.1;omega));have hlt:=H.out.2.2.2.2.2.2.2.2;have nin:∀ x,O x→¬Oq x→¬be Oq w w2 x:=fun x hx hn e=>e.elim hn (fun e=>absurd e.1 (by have:=hlt x hx;omega));refine⟨k,_,rfl,HL.out.1,HL.out.2,HW.out,HQ.out.2.2.1,⟨⟨gh,gf,vF,ln,gr,be Oq w w2,_,hK7,(H2.out.2.1.own H2.out.1 rfl hs7).imp (fun x e=>Or.inl e),pu.sm H2.out.2.2.2.1 hs7 (fun x e e2=>by subst e2;exact ng e),fun y e=>e.imp (H.out.2.2.1 y) (fun e=>⟨e.1,Nat.lt_of_lt_of_le e.2 hs7.size⟩),ng,nin gh H.out.2.1.og H.out.2.2.2.2.1,nin gf H.out.2.1.ogf H.out.2.2.2.2.2.1,fun y e=>nin y (H.out.2.1.of y e) (H.out.2.2.2.2.2.2.1 y e),wY l HQ.out.2.1 HQ.out.2.2.2 HQ.out.1⟩,Or.inl H.out.2.2.2.2.2.2.2.1,be.lt hlt hsw.size⟩,hsw⟩
 |whole b'=>
  have hb2:b'.length≤1000000:=by have:=HQ.out.2.2.1.2;omega
  go_in;go_wp2_with fail;refine HC.out.mono ?_;rintro e w2 ⟨rfl,hQ2,hok2,hs2⟩;obtain⟨hK2,hh2,hsO⟩:=hMid.out w2 hs2;have HB:=aa (uj w2 (be Oq w w2) gr b' hQ2 hb2);have H2:=aa (ab hK2 (ab hh2 hsO));have hgl2:=Bk.lt hK2;have hc2:=Bk.all hK2;have hz2:=Bk.fz hK2;unfold cn bD at hc2;clear hK2 hh2 hsO hQ2 hok2 hs2 hc hz;dsimp only [eW.wh,eW.sta];go_wp2_with fail;refine HB.out.mono ?_;rintro e w3 ⟨v,rfl,hv3,hs3⟩;obtain⟨A3,c3,rfl, -⟩:=hv3.row;have hK3:fB w3 g 2 0 ln (cn gh) 0 bD (cn gr) fed:=Bk.sm H2.out.1 hs3 (fun e=>e);have hh3:cI w3 O gh gf vF h:=H2.out.2.1.no hs3;have hgl3:=Bk.lt hK3;have hc3:=Bk.all hK3;have hz3:=Bk.fz hK3;unfold cn bD at hc3;have H3:=aa (ab hK3 (ab hh3 (ab hv3 hs3)));obtain⟨w4,hw4⟩:=ai ((w3.setCell ⟨g,5,none⟩ (.slice A3 b'.length c3)).setCell ⟨g,0,none⟩ (.int .i64 3));have hs4:Sm (fun x=>x=g) w3 w4:=by rw [←hw4];exact((Sm.refl _ w3).set1 5 _).set1 0 _
  have hK4:fB w4 g 3 0 ln (cn gh) 0 (.slice A3 b'.length c3) (cn gr) fed:=by rw [←hw4];exact((Bk.set hK3 5 _).set 0 _).eq rfl
  have hgl4:=Bk.lt hK4;have hc4:=Bk.all hK4;have hz4:=Bk.fz hK4;unfold cn at hc4;have H4:=aa (ab hw4 (ab hs4 hK4));have HR0:=aa (jx w4 g);clear hK3 hh3 hv3 hs3 hw4 hs4 hK4 hc2 hz2;go_upto_region 16 with fail;rw [H4.out.1];clear hc3 hz3;go_wp2_with fail;refine HR0.out.mono ?_;rintro e w5 ⟨rfl,rfl⟩;go_wp2_with fail;go_ret;have hs7:Sm (fun x=>x=g) w4 (w4.setCell ⟨g,7,none⟩ (.int .i64 (fed+(k:Int)))):=(Sm.refl _ w4).set1 7 _;have hs37:Sm (fun x=>x=g) w3 (w4.setCell ⟨g,7,none⟩ (.int .i64 (fed+(k:Int)))):=H4.out.2.1.tt hs7;have hK7:fB (w4.setCell ⟨g,7,none⟩ (.int .i64 (fed+(k:Int)))) g 3 0 ln (cn gh) 0 (.slice A3 b'.length c3) (cn gr) (fed+(k:Int)):=(Bk.set H4.out.2.2 7 _).eq rfl;have hsw:Sm O w _:=(H2.out.2.2.trans H3.out.2.2.2 (fun _ _ e=>e.elim)).tt (hs37.mono (fun x _ e=>e ▸ H.out.2.2.2.2.2.2.2.1):Sm O w3 _);have hfr:=fun y e=>H3.out.2.2.1.lt y e;refine⟨k,_,rfl,HL.out.1,HL.out.2,HW.out,HQ.out.2.2.1,⟨⟨gh,gf,vF,ln,_,_,_,_,hK7,(H3.out.2.1.own H3.out.1 rfl hs37).imp (fun x e=>Or.inl e),aH.base (H3.out.2.2.1.sm hs37 (fun y e e2=> ?_)) (fun _ _=>Nat.zero_le _),fun y e=>Or.inr ⟨Nat.le_trans H2.out.2.2.size (hfr y e).1,Nat.lt_of_lt_of_le (hfr y e).2 hs37.size⟩⟩,Or.inl H.out.2.2.2.2.2.2.2.1,be.lt H.out.2.2.2.2.2.2.2.2 hsw.size⟩,hsw⟩;have:=(hfr y e).1;omega
 |bad s=>
  go_in;go_wp2_with fail;refine HC.out.mono ?_;rintro e w2 ⟨rfl,hQ2,hok2,hs2⟩;obtain⟨hK2,hh2,hsO⟩:=hMid.out w2 hs2;have H2:=aa (ab hK2 (ab hh2 hsO));have HR:=aa (de w2 g s hok2 hK2);have hgl2:=Bk.lt hK2;have hc2:=Bk.all hK2;have hz2:=Bk.fz hK2;unfold cn bD at hc2;clear hK2 hh2 hsO hQ2 hok2 hs2 hc hz;dsimp only [eW.wh,eW.sta];go_wp2_with fail;refine HR.out.mono ?_;rintro e w3 ⟨rfl,hK3,hs3⟩;have hgl3:=Bk.lt hK3;have hc3:=Bk.all hK3;have hz3:=Bk.fz hK3;have H3:=aa (ab hK3 hs3);clear hK3 hs3 hc2 hz2;go_wp2_with fail;go_ret;have hs7:Sm (fun x=>x=g) w3 (w3.setCell ⟨g,7,none⟩ (.int .i64 (fed+(k:Int)))):=(Sm.refl _ w3).set1 7 _;have hK7:fB (w3.setCell ⟨g,7,none⟩ (.int .i64 (fed+(k:Int)))) g 4 s ln (cn gh) 0 bD (cn gr) (fed+(k:Int)):=(Bk.set H3.out.1 7 _).eq rfl;have hsw:Sm O w _:=H2.out.2.2.tt ((H3.out.2.trans hs7 (fun _ _ e=>e)).mono (fun x _ e=>e ▸ H.out.2.2.2.2.2.2.2.1):Sm O w2 _);exact⟨k,_,rfl,HL.out.1,HL.out.2,HW.out,HQ.out.2.2.1,⟨⟨_,_,_,_,_,_,hK7⟩,Or.inl H.out.2.2.2.2.2.2.2.1,be.lt H.out.2.2.2.2.2.2.2.2 hsw.size⟩,hsw⟩
theorem zW(w:World)(O:Nat→Prop)(g:Nat)(s:cP)(l:ah)(A:Option Addr)(cp:Nat)(hI:bZ w O g s)(ho:cK s)(hd:s.done=false)(hg:G0 w)(hO0:¬O 0)(hl0:l≠[])(hR:ax w A (l.map aU))(hA:∀ a,A=some a→¬O a.block)(hl:l.length≤1000000)(hcp:l.length≤cp):
 Calls Tryz.prog 125 #[.pointer (some ⟨g,0,none⟩),.slice A l.length cp] w (kK w O g s l):=by
 cases s with
 |idle=>
  obtain⟨⟨gh,gf,vF,vL,hK,hh,hln⟩,og,lt⟩:=hI
  cases l with
  |nil=>exact absurd rfl hl0
  |cons c r=>exact mW w O g gh gf vF vL .idle Hd.new [] 0 c r A cp hK hh hln DW og lt hg hO0 (by exact⟨kE,⟨kE.ok,by decide,rfl,rfl⟩⟩) (by decide) rfl rfl (by trivial) hR hA hl
 |head h L=>
  obtain⟨⟨gh,gf,vF,vL,hK,hh,hln,hm⟩,og,lt⟩:=hI
  cases l with
  |nil=>exact absurd rfl hl0
  |cons c r=>exact mW w O g gh gf vF vL (.head h L) h L 1 c r A cp hK hh hln hm og lt hg hO0 ho (by decide) rfl rfl ho hR hA hl
 |len h B=>exact xR w O g h B l A cp hI ho hl0 hR hA hl hcp
 |chunk h B p=>exact tY w O g h B p l A cp hI ho hl0 hR hA hl
 |whole h B=>cases hd
 |bad s=>cases hd
def Aq(w:World)(O:Nat→Prop)(g:Nat)(p:cP × Nat)(e:Ending)(w':World):Prop:=e=.returned (.int .i64 p.2)∧bZ w' (be O w w') g p.1∧cK p.1∧Sm O w w'
def tP(w:World)(A:Option Addr)(l:ah)(k:Nat)(v:Value):Prop:=
 ∃ A' c',v=.slice A' (l.length-k) c'∧ax w A' ((l.drop k).map aU)∧(∀ a,A'=some a→∃ a0,A=some a0∧a.block=a0.block)∧l.length-k≤c'
def G2(w:World)(O:Nat→Prop)(g:Nat)(s:cP)(A:Option Addr)(l:ah)(nv rv:Value)(wr:World):Prop:=
 ∃ (k:Nat) (s':cP),k≤l.length∧nv=.int .i64 k∧tP wr A l k rv∧aS s l=((aS s' (l.drop k)).1,(aS s' (l.drop k)).2+k)∧cK s'∧bZ wr (be O w wr) g s'∧Sm O w wr
def GZ(w:World)(O:Nat→Prop)(g:Nat)(s:cP)(l:ah)(nv iv:Value)(wr:World):Prop:=
 (iv=.int .i64 0∧nv=.int .i64 0∧wr=w)∨(iv=.int .i64 1∧∃ s' n,nv=.int .i64 ((n:Nat):Int)∧aS s l=(s',n)∧cK s'∧bZ wr (be O w wr) g s'∧Sm O w wr)
def lenOf:Value→Nat
 | .slice _ n _=>n
 |_=>0
theorem tP.next{w w':World}{A A':Option Addr}{l:ah}{k j c':Nat}(hR:ax w A' ((l.drop k).map aU))(hA:∀ a,A'=some a→∃ a0,A=some a0∧a.block=a0.block){S:Nat→Prop}(hs:Sm S w w')(hS:∀ a0,A=some a0→¬S a0.block)(hj:j≤l.length-k)(hc:l.length-k≤c')(hlt:j < c')(a:Addr)(ha:A'=some a):
 tP w' A l (k+j) (.slice (some (a.add j)) (l.length-k-j) (c'-j)):=by
 subst ha;obtain⟨a0,h0,hb⟩:=hA a rfl;refine⟨_,_,by rw [show l.length-(k+j)=l.length-k-j by omega],?_,fun x hx=>⟨a0,h0,?_⟩,by omega⟩
 ·intro i u hi;have hi2:((l.drop k).map aU)[j+i]?=some u:=by
   rw [List.getElem?_map,List.getElem?_drop] at hi ⊢;rw [←hi,show k+(j+i)=k+j+i by omega]
  obtain⟨bb,off,e,hbb,hcell⟩:=(hR.sm hs (fun x e=>by injection e with e;subst e;rw [hb];exact hS a0 h0)) (j+i) u hi2;injection e with e;subst e;exact⟨bb,off+j,by simp [Addr.add],hbb,by rw [←hcell];congr 2;omega⟩
 ·injection hx with hx;subst hx;rw [←hb];unfold Addr.add;split<;>rfl
theorem ti (w:World) (O:Nat→Prop) (g rb:Nat) (s:cP) (A:Option Addr) (cp:Nat) (l:ah) (hI:bZ w O g s) (ho:cK s) (hg:G0 w) (hO0:¬O 0) (hrb:rb < w.heap.size) (hcell:w.cell? ⟨rb,0,none⟩=some (.slice A l.length cp))
 (hR:ax w A (l.map aU)) (hA:∀ a,A=some a→l≠[]→¬O a.block) (hl:l.length≤1000000) (hcp:l.length≤cp):
 Calls Tryz.prog 98 #[.pointer (some ⟨g,0,none⟩),.slice (some ⟨rb,0,none⟩) 1 1] w (Aq w O g (aS s l)):=by
 have H:=aa (ab hI (ab ho (ab hR (ab hA (ab hg hO0)))));have HB:=aa (ab hcp (ab hl hcell));obtain⟨P,hP⟩:=ai (aS s l);rw [hP];have HP:=aa hP;have hgl:=(hI.lt g hI.og);clear hI ho hR hA hP hg hO0 hcp;go_in;go_wp2_with fail
 go_loopw [5,13] (fun n i wr=>GZ w O g s l n i wr) (fun _ i _=>1-(intOf i).toNat)
 case atStart=>exact Or.inl ⟨rfl,rfl,rfl⟩
 case round=>
  rcases hrel with ⟨rfl,rfl,rfl⟩|⟨rfl,s',n,rfl,hf,ho',hI,hsm⟩
  ·obtain⟨wo,rfl⟩:∃ wo:World,wo=wr:=⟨_,rfl⟩;go_wp2_with fail
   go_loopw [5,7] (fun n r wr=>G2 wo O g s A l n r wr) (fun _ r _=>lenOf r)
   case atStart=>exact⟨0,s,Nat.zero_le _,rfl,⟨A,cp,rfl,H.out.2.2.1,fun a e=>⟨a,e,rfl⟩,HB.out.1⟩,by simp,H.out.2.1,H.out.1.imp (fun x e=>Or.inl e) (be.lt H.out.1.lt (Nat.le_refl _)),Sm.refl _ _⟩
   case round=>
    obtain⟨k,s',hk,rfl,⟨A',c',rfl,hR',hA',hc'⟩,hf,ho',hI',hsm⟩:=hrel;obtain⟨ln,hd,left,vB,ch,fed,hK⟩:=hI'.cells;have hgl2:=Bk.lt hK;have hc:=Bk.all hK;have HI:=aa (ab hf (ab ho' (ab hI' (ab hsm (ab hR' (ab hA' hc'))))));clear hf ho' hI' hsm hK hR' hA' hc';obtain⟨m,hm⟩:=ai (l.length-k);have HM:=aa hm;rw [hm];clear hm;have hml:m≤1000000:=by have:=HB.out.2.1;have:=HM.out;omega
    obtain⟨ph,hph⟩:=ai s'.phase;rw [hph] at hc;have hend:∀ (_:aS s l=(s',k)),Hid (GZ wo O g s l (.int .i64 k) (.int .i64 1) wr):=fun h=>aa (Or.inr ⟨rfl,s',k,rfl,h,HI.out.2.1,HI.out.2.2.1,HI.out.2.2.2.1⟩);by_cases h0:m=0
    ·have HF:=hend (by rw [HI.out.1,List.drop_of_length_le (by have:=HM.out;omega)];simp [aS]);subst h0;clear hend hc hph;go_wp2_with fail;exact⟨HF.out,by decide⟩
    ·have m1:(0:Int) < (m:Int):=by omega
     cases hdn:s'.done with
     |true=>
      have hp:=xc.1 hdn;rw [hph] at hp;have hp2:¬ph < 3:=by omega
      have HF:=hend (by rw [HI.out.1,ez hdn];simp);clear hend hph hdn h0 hp;go_wp2_with fail;exact⟨HF.out,by decide⟩
     |false=>
      have hp:=xc.2 hdn;rw [hph] at hp;have hlen:((l.drop k).map aU).length=m:=by rw [List.length_map,List.length_drop];exact HM.out
      have HO:=zW wr (be O wo wr) g s' (l.drop k) A' c' HI.out.2.2.1 HI.out.2.1 hdn (H.out.2.2.2.2.1.out HI.out.2.2.2.1 H.out.2.2.2.2.2) (fun e=>e.elim H.out.2.2.2.2.2 (fun e=>absurd e.1 (by omega))) (fun e=>by rw [e] at hlen;simp at hlen;omega) HI.out.2.2.2.2.1 (fun a ha=>by
       obtain⟨a0,h1,h2⟩:=HI.out.2.2.2.2.2.1 a ha;rintro(e|⟨e1,e2⟩)
       ·exact H.out.2.2.2.1 a0 h1 (fun e0=>by have:=HM.out;rw [e0] at this;simp at this;omega) (h2 ▸ e)
       ·have hkl:k < l.length:=by have:=HM.out;omega
        obtain⟨bb,off,e3,hbb,_⟩:=H.out.2.2.1.at (j:=k) (u:=aU l[k]) (by rw [List.getElem?_map,List.getElem?_eq_getElem hkl];rfl);rw [e3] at h1;injection h1 with h1;subst h1;rw [h2] at e1;exact absurd hbb (Nat.not_lt.2 e1)) (by rw [List.length_drop];omega) (by rw [List.length_drop];have:=HI.out.2.2.2.2.2.2;omega)
      rw [show (l.drop k).length=m by rw [List.length_drop];exact HM.out] at HO;have HO:=aa HO;clear hend hph hdn h0 hlen;go_wp2_with fail;refine HO.out.mono ?_;rintro e w2 ⟨j,s2,rfl,hj1,hj2,hf2,ho2,hI2,hs2⟩;have hx:0 < ((l.drop k).map aU).length:=by rw [List.length_map,List.length_drop,HM.out];omega
      obtain⟨bb,off,hAe,hbb, -⟩:=HI.out.2.2.2.2.1.at (j:=0) (u:=aU ((l.drop k)[0]'(by simpa using hx))) (by rw [List.getElem?_map,List.getElem?_eq_getElem (by simpa using hx)];rfl);have HA:=aa hAe;subst hAe;have HS:=aa (ab hf2 (ab ho2 (ab hI2 hs2)));have hjm:j≤m:=by rw [List.length_drop,HM.out] at hj2;exact hj2
      have hmc:m≤c':=by have:=HI.out.2.2.2.2.2.2;rw [HM.out] at this;exact this
      have j1:(0:Int)≤(j:Int):=by omega
      have j2:(j:Int)≤(c':Int):=by omega
      have j3:(j:Int)≤(m:Int):=by omega
      have HNext:=aa (show ∀ nv rv:Value,nv=.int .i64 ((k+j:Nat):Int)→tP w2 A l (k+j) rv→G2 wo O g s A l nv rv w2 from fun nv rv h1 h2=>
       ⟨k+j,s2,by have:=HM.out;omega,h1,h2,by
        rw [HI.out.1,HS.out.1,List.drop_drop];simp only [Prod.mk.injEq,true_and];omega,HS.out.2.1,HS.out.2.2.1.imp (be.up HI.out.2.2.2.1.size HS.out.2.2.2.size) (be.lt H.out.1.lt (Nat.le_trans HI.out.2.2.2.1.size HS.out.2.2.2.size)),HI.out.2.2.2.1.up HS.out.2.2.2⟩)
      clear hf2 ho2 hI2 hs2 hj2 hc hx;by_cases hjc:j < c'
      ·go_wp2_with fail;refine⟨HNext.out _ _ (by go_num) ?_,by simp only [lenOf];omega⟩;have e:=tP.next (j:=j) HI.out.2.2.2.2.1 HI.out.2.2.2.2.2.1 HS.out.2.2.2 (fun a0 h1=> ?_) (by rw [HM.out];exact hjm) (by rw [HM.out];exact hmc) hjc ⟨bb,off,none⟩ rfl
       ·rw [HM.out] at e;have ea:(⟨bb,off,none⟩:Addr).add j=⟨bb,off+j,none⟩:=by unfold Addr.add;rw [if_neg (by omega)]
        rw [ea] at e;exact e
       ·rintro(e|⟨e1,e2⟩)
        ·exact H.out.2.2.2.1 a0 h1 (fun e0=>by have:=HM.out;rw [e0] at this;simp at this;omega) e
        ·obtain⟨a0',h3,h4⟩:=HI.out.2.2.2.2.2.1 _ rfl;rw [h1] at h3;injection h3 with h3;subst h3;have hkl:k < l.length:=by have:=HM.out;omega
         obtain⟨b2,o2,e3,hb2,_⟩:=H.out.2.2.1.at (j:=k) (u:=aU l[k]) (by rw [List.getElem?_map,List.getElem?_eq_getElem hkl];rfl);rw [h1] at e3;injection e3 with e3;subst e3;exact absurd hb2 (Nat.not_lt.2 e1)
      ·have hjc2:j=c':=by omega
       have hjm2:m=c':=by omega
       have HC:=aa (ab hjc2 hjm2);have i1:((j:Int))=(c':Int):=by omega
       subst hjc2;subst hjm2;clear hjc i1;go_wp2_with fail;refine⟨HNext.out _ _ (by go_num) ⟨_,0,?_,fun i u hi=> ?_,fun a ha=>HI.out.2.2.2.2.2.1 a ha,?_⟩,by simp only [lenOf];omega⟩
       ·rw [show l.length-(k+m)=0 by have:=HM.out;omega]
       ·rw [List.drop_of_length_le (by have:=HM.out;omega)] at hi;simp at hi
       ·have:=HM.out;omega
  ·have HI:=aa (ab hf (ab ho' (ab hI hsm)));clear hf ho' hI hsm;go_wp2_with fail;go_ret;rw [←HP.out,HI.out.1];exact⟨rfl,HI.out.2.2.1,HI.out.2.1,HI.out.2.2.2⟩
theorem dx(w:World)(O:Nat→Prop)(g:Nat)(s:cP)(hI:bZ w O g s):Calls Tryz.prog 68 #[.pointer (some ⟨g,0,none⟩)] w fun e w'=>e=.returned (.int .i64 s.phase)∧w=w':=by
 obtain⟨ln,hd,left,vB,ch,fed,hK⟩:=hI.cells;have hgl:=Bk.lt hK;obtain⟨ph,hph⟩:=ai s.phase;rw [hph] at hK ⊢;have hc:=Bk.at hK 0 (v:=.int .i64 ph) rfl;clear hK hph hI;go_in;go_wp2_with fail;go_ret;exact⟨rfl,rfl⟩
theorem sK(w:World)(O:Nat→Prop)(g:Nat)(s:cP)(hI:bZ w O g s):Calls Tryz.prog 102 #[.pointer (some ⟨g,0,none⟩)] w fun e w'=>e=.returned (.int .i64 s.status)∧w=w':=by
 obtain⟨ln,hd,left,vB,ch,fed,hK⟩:=hI.cells;have hgl:=Bk.lt hK;obtain⟨ph,hph⟩:=ai s.status;rw [hph] at hK ⊢;have hc:=Bk.at hK 1 (v:=.int .i64 ph) rfl;clear hK hph hI;go_in;go_wp2_with fail;go_ret;exact⟨rfl,rfl⟩
end Go.Proofs.YtadcjgopaadfjaaGreatDoor
