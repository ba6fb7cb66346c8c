import Derived.Test.YtadcjgopaadfjaaGreatDoorQT
import Derived.WalkLawsBesides
import Derived.Sort.Walk0
import Derived.Test.YtadcjgopaadfjaaGreatDoorQH
set_option maxHeartbeats 4000000
set_option maxRecDepth 100000
namespace Go.Proofs.YtadcjgopaadfjaaGreatDoor
open Go.RowKit Go.Proofs
variable {tt:TypeId} {tl:List Value}
variable {tt:TypeId} {tl:List Value}
theorem ax.take{w:World}{A:Option Addr}{l:List ah}(h:ax w A (l.map aP))(k:Nat):ax w A ((l.take k).map aP):=by
 intro j u hj;refine h j u ?_;rw [List.map_take,List.getElem?_take] at hj;split at hj
 ·exact hj
 ·cases hj
theorem ax.drop{w:World}{bb off:Nat}{l:List ah}(h:ax w (some ⟨bb,off,none⟩) (l.map aP))(k:Nat):ax w (some ⟨bb,off+k,none⟩) ((l.drop k).map aP):=by
 intro j u hj;rw [List.map_drop,List.getElem?_drop] at hj;obtain⟨b2,o2,hA,hb,hc⟩:=h (k+j) u hj
 cases hA
 exact⟨_,_,rfl,hb,by rw [Nat.add_assoc];exact hc⟩
variable {tt:TypeId} {tl:List Value}
variable {tt:TypeId} {tl:List Value}
def Gv(w:World)(L:List Lt)(p:ah)(ms:List ah)(i:Value)(wr:World):Prop:=
 ∃ k:Nat,k≤L.length∧i=.int .i64 k∧Sm No w wr∧∀ y∈L.take k,y.pat=p→bT ms y.ms=false
def Gr(w:World)(ms ym:List ah)(i:Value)(wr:World):Prop:=
 ∃ j:Nat,j≤ms.length∧i=.int .i64 j∧Sm No w wr∧∀ t∈ms.take j,ym.contains t=false
theorem Sm.fresh2{S:Nat→Prop}{w w1 w2:World}(h:Sm No w w1)(k:Sm S w1 w2)(hS:∀ b,S b→w.heap.size≤b):Sm No w w2:=
 ((h.any _).tt k).mono (fun b hb e=>by have:=hS b e;omega)
theorem Ew{l:List ah}{b:Bool}(h:l.any (fun m=> !bo m)=b):l.all bo= !b:=by
 rw [←h,List.any_eq_not_all_not];simp
theorem yY{ms xs:List ah}(h1:ms≠[])(h2:xs≠[])(h:∀ t∈ms,xs.contains t=false):bT ms xs=false:=by
 unfold bT;have e1:ms.isEmpty=false:=by simpa using h1
 have e2:xs.isEmpty=false:=by simpa using h2
 have e3:ms.any (fun m=>xs.contains m)=false:=by
  rw [List.any_eq_false];intro t ht;rw [h t ht];simp
 rw [e1,e2,e3];rfl
theorem xS{ms xs:List ah}{t:ah}(h:t∈ms)(h2:xs.contains t=true):bT ms xs=true:=by
 unfold bT;have e3:ms.any (fun m=>xs.contains m)=true:=List.any_eq_true.2 ⟨t,h,h2⟩;rw [e3];simp
theorem Eu{w wr w4:World}(h:Sm No w wr)(hs:Sm (fun b=>(Value.slice (some ⟨wr.heap.size,0,none⟩) 0 0).ownBlock=some b) ((wr.alloc (.cells #[] 9)).drew) w4):Sm No w w4:=
 ((h.alloc _).drew).fresh2 hs (fun b e=>by
   have:=h.size;simp [Value.ownBlock] at e;omega)
theorem C4{L:List Lt}{s:ah}{id:Int}{ms:List ah}:bW L ⟨s,id,ms⟩=if (kq s&&decide (0≤id)&&ms.all bo)=true then (if 64≤L.length then 3 else if (L.filter (fun x=>x.pat==s)).any (fun y=>bT ms y.ms)=true then 11 else 0) else 1:=by
 unfold bW;rw [Dt]
theorem Da (w:World) (O:Nat→Prop) (r:Nat) (L:List Lt) (s:ByteArray) (id:Int) (A:Option Addr) (c:Nat) (ms:List ah) (h:dk tt tl w O r L) (hL:L.length≤64)
 (hLm:∀ x∈L,x.ms.length≤4000) (hs:s.size≤140737488351232) (hA:ax w A (ms.map aP)) (hn:A=none→c=0) (hml:ms.length≤1000000) (hms:∀ t∈ms,t.length≤1000000):
 Calls Tryz.prog 63 #[.pointer (some ⟨r,0,none⟩),.string s,.int .i64 id,.slice A ms.length c] w (cr tt tl w O r L ⟨af s,id,ms⟩):=by
 obtain⟨x,hx⟩:=ai ((⟨af s,id,ms⟩:Lt));have hcode:=C4 (L:=L) (s:=af s) (id:=id) (ms:=ms);rw [hx] at hcode ⊢;obtain⟨v,l,hT⟩:=h;obtain⟨AL,cL,rfl⟩:=hT.form;obtain⟨pb,hpb⟩:∃ b,kq (af s)=b:=⟨_,rfl⟩;have hpat:=sb s hs w;rw [hpb] at hcode hpat;have HPt:=aa hpat;have HC:=aa hcode;have HT:=aa (ab hT (ab hA (ab hms (ab hLm hx))));have htw:dk tt tl w O r L:=⟨_,_,hT⟩;have HI:=aa htw;clear hT hA hms hcode hpat hpb hx htw
 cases pb with
 |false=>
  have hc:bW L x=1:=by rw [HC.out];rfl
  have HE:=aa hc;clear hc;go_in;go_wp2_with fail;refine HPt.out.mono ?_;rintro e w1 ⟨rfl,hs1⟩;have H1:=aa (cr.not HE.out (by decide) HI.out hs1);clear hs1;go_wp2_with fail;go_ret;exact H1.out
 |true=>
  by_cases hid:0≤id
  ·go_in;go_wp2_with fail;refine HPt.out.mono ?_;rintro e w1 ⟨rfl,hs1⟩;have H1:=aa hs1;clear hs1;go_wp2_with fail
   go_loopw [9] (fun i wr=>Fs w ms (fun m=> !bo m) i wr) (fun i _=>ms.length-(intOf i).toNat)
   case atStart=>exact⟨0,Nat.zero_le _,rfl,H1.out,fun x h=>by simp at h⟩
   case round=>
    obtain⟨k,hk,rfl,hsm,hno⟩:=hrel;have HS:=aa (ab hsm hno);clear hsm hno;by_cases hlt:k < ms.length
    ·obtain⟨bb,off,hAe,hbb,r0⟩:=(HT.out.2.1.no HS.out.1).at (df hlt);subst hAe;have s0:=HT.out.2.2.1 _ (List.getElem_mem hlt);obtain⟨t,ht⟩:=ai ((⟨ms[k].toArray⟩:ByteArray));have hts:af t=ms[k]:=by rw [←ht,eA]
     rw [ht] at r0;have htz:t.size≤1000000:=by rw [←ag,hts];exact s0
     obtain⟨b,hb⟩:=ai (bo (af t));have hno2:bo (af t)=true→∀ x∈ms.take (k+1),(fun m=> !bo m) x=false:=fun e=>iX HS.out.2 hlt (by rw [←hts];simp [e]);have hbad:bo (af t)=false→bW L x=1:=fun e=>by
      rw [HC.out,if_neg];simp only [Bool.and_eq_true,not_and,Bool.not_eq_true];intro _;rw [Bool.eq_false_iff];intro hall;have:=List.all_eq_true.1 hall _ (List.getElem_mem hlt);rw [←hts,e] at this
      cases this
     have k1:(0:Int)≤(k:Int):=by omega
     have k2:(k:Int) < (ms.length:Int):=by omega
     have HB:=aa hb;have HX:=aa (ab hno2 hbad);clear ht hts s0 hno2 hbad hb
     cases b with
     |true=>
      have HN:=aa (HX.out.1 HB.out);go_wp2_with fail;refine(kz HB htz wr).mono ?_;rintro e w2 ⟨rfl,rfl⟩;go_wp2_with fail;exact⟨⟨k+1,by omega,by go_num,HS.out.1,HN.out⟩,by simp [intOf];omega⟩
     |false=>
      have HE:=aa (cr.not (HX.out.2 HB.out) (by decide) HI.out HS.out.1);go_wp2_with fail;refine(kz HB htz wr).mono ?_;rintro e w2 ⟨rfl,rfl⟩;go_wp2_with fail;go_ret;exact HE.out
    ·have hall:ms.all bo=true:=by
      have:=ny HS.out.2 hlt;exact Ew this
     have hc2:=HC.out;rw [hall] at hc2;simp only [hid,decide_true,Bool.and_self,if_true] at hc2;have c0:=(HT.out.1.no HS.out.1).1.at 0 (v:=.slice AL L.length cL) rfl;have HC2:=aa hc2;clear hall hc2;by_cases hfull:64≤L.length
     ·have hc:bW L x=3:=by rw [HC2.out,if_pos hfull]
      have HE:=aa (cr.not hc (by decide) HI.out HS.out.1);clear hc;go_wp2_with fail;go_ret;exact HE.out
     ·have hc3:=HC2.out;rw [if_neg hfull] at hc3;have HC3:=aa hc3;clear hc3;go_wp2_with fail;obtain⟨wo,hwo⟩:∃ wo:World,wo=wr:=⟨_,rfl⟩;rw [←hwo] at HS;have HW:=aa hwo
      go_loopw [10] (fun i wr=>Gv w L (af s) ms i wr) (fun i _=>L.length-(intOf i).toNat)
      case atStart=>exact⟨0,Nat.zero_le _,rfl,HW.out ▸ HS.out.1,fun y h=>by simp at h⟩
      case round=>
       obtain⟨k,hk,rfl,hsm,hno⟩:=hrel;have HS2:=aa (ab hsm hno);have c0:=(HT.out.1.no hsm).1.at 0 (v:=.slice AL L.length cL) rfl;clear hsm hno;by_cases hlt:k < L.length
       ·obtain⟨g,A2,c2,hAe,r0,r1,r2,hR2,hn2⟩:=(HT.out.1.no HS2.out.1).get hlt;subst hAe;have hmem:=List.getElem_mem hlt;have hstep:(L[k].pat=af s→bT ms L[k].ms=false)→∀ y∈L.take (k+1),y.pat=af s→bT ms y.ms=false:=fun h y hy=>by
         rw [List.take_succ_eq_append_getElem hlt,List.mem_append,List.mem_singleton] at hy;rcases hy with hy|rfl
         ·exact HS2.out.2 y hy
         ·exact h
        have hbad:L[k].pat=af s→bT ms L[k].ms=true→bW L x=11:=fun hp hcl=>by
         rw [HC3.out,if_pos];exact List.any_eq_true.2 ⟨L[k],List.mem_filter.2 ⟨hmem,by simpa using hp⟩,hcl⟩
        have hget:=fun (W:World) (hW:Sm No w W)=>(HT.out.1.no hW).get hlt;have hyl:=HT.out.2.2.2.1 _ hmem;obtain⟨y,hy⟩:=ai (L[k]);rw [hy] at r0 r1 r2 hR2 hstep hbad hyl;simp only [hy] at hget;obtain⟨ym,hym⟩:=ai y.ms;rw [hym] at r2 hR2 hstep hbad hyl;simp only [hym] at hget;obtain⟨pb,e1,e2⟩:∃ pb:ByteArray,fp y.pat=.string pb∧af pb=y.pat:=⟨⟨y.pat.toArray⟩,rfl,eA _⟩;rw [e1] at r0;have HX:=aa (ab hget (ab hstep hbad));have k1:(0:Int)≤(k:Int):=by omega
        have k2:(k:Int) < (L.length:Int):=by omega
        clear hy hym hmem hget hstep hbad e1 hn2 hR2;by_cases hp:y.pat=af s
        ·obtain rfl:s=pb:=by rw [←fr pb,←fr s,e2,hp]
         have HP:=aa hp;clear e2 hp;by_cases hm0:ms=[]
         ·have hc:bW L x=11:=HX.out.2.2 HP.out (by rw [hm0];rfl);have HE:=aa (cr.not hc (by decide) HI.out HS2.out.1);have e0:((ms.length:Int)==0)=true:=by rw [hm0];rfl
          clear hc hm0;go_wp2_with fail;go_ret;exact HE.out
         ·have e0:((ms.length:Int)==0)=false:=by simpa using hm0
          have HM:=aa hm0;clear hm0;by_cases hy0:ym=[]
          ·have hc:bW L x=11:=HX.out.2.2 HP.out (by rw [hy0];unfold bT;simp);have HE:=aa (cr.not hc (by decide) HI.out HS2.out.1);have e1:((ym.length:Int)==0)=true:=by rw [hy0];rfl
           clear hc hy0;go_wp2_with fail;go_ret;exact HE.out
          ·have e1:((ym.length:Int)==0)=false:=by simpa using hy0
           have HY:=aa hy0;clear hy0;go_wp2_with fail;obtain⟨wo2,hwo2⟩:∃ wo2:World,wo2=wr:=⟨_,rfl⟩;rw [←hwo2] at HS2;have HW2:=aa hwo2;clear c0 r0 r1 r2
           go_loopw [11] (fun i wr=>Gr w ms ym i wr) (fun i _=>ms.length-(intOf i).toNat)
           case atStart=>exact⟨0,Nat.zero_le _,rfl,HW2.out ▸ HS2.out.1,fun y h=>by simp at h⟩
           case round=>
            obtain⟨j,hj,rfl,hsm,hno⟩:=hrel;have HS3:=aa (ab hsm hno);have c0:=(HT.out.1.no hsm).1.at 0 (v:=.slice (some ⟨g,0,none⟩) L.length cL) rfl;clear hsm hno;by_cases hlt2:j < ms.length
            ·obtain⟨g',A3,c3,hg,r0,r1,r2,hR3,hn3⟩:=HX.out.1 wr HS3.out.1;obtain rfl:g=g':=by simpa using hg
             obtain⟨bb,off,hAe,hbb,r3⟩:=(HT.out.2.1.no HS3.out.1).at (df hlt2);subst hAe;obtain⟨t,ht⟩:=ai ((⟨ms[j].toArray⟩:ByteArray));have hts:af t=ms[j]:=by rw [←ht,eA]
             rw [ht] at r3;obtain⟨b,hb⟩:=ai (ym.contains (af t));have HB:=aa hb;have hmem:=List.getElem_mem hlt2;rw [←hts] at hmem;have hst:ym.contains (af t)=false→∀ t∈ms.take (j+1),ym.contains t=false:=fun e=>iX HS3.out.2 hlt2 (by rw [←hts];exact e);have HZ:=aa (ab hR3 (ab hmem hst));have j1:(0:Int)≤(j:Int):=by omega
             have j2:(j:Int) < (ms.length:Int):=by omega
             clear hg hR3 hn3 ht hts hb hmem hst
             cases b with
             |true=>
              have hc:bW L x=11:=HX.out.2.2 HP.out (xS HZ.out.2.1 HB.out);have HE:=aa (fun n=>cr.not hc (by decide) HI.out (HS3.out.1.drewN n));clear hc;go_wp2_with fail;go_quiet ((go_at_call 94;exact Calls.quiet_of_same (cH (rY HB _ A3 c3 HZ.out.1 (by omega)))));go_wp2_with fail;go_ret;exact HE.out _
             |false=>
              have HN:=aa (HZ.out.2.2 HB.out);go_wp2_with fail;go_quiet ((go_at_call 94;exact Calls.quiet_of_same (cH (rY HB _ A3 c3 HZ.out.1 (by omega)))));go_wp2_with fail;exact⟨⟨j+1,by omega,by go_num,HS3.out.1.drewN _,HN.out⟩,by simp [intOf];omega⟩
            ·have hcl:=yY HM.out HY.out (fun t ht=>HS3.out.2 t (by rw [List.take_of_length_le (by omega)];exact ht));have HN:=aa (HX.out.2.1 (fun _=>hcl));clear hcl;go_wp2_with fail;exact⟨⟨k+1,by omega,by go_num,HS3.out.1,HN.out⟩,by simp [intOf];omega⟩
        ·have e3:¬pb.toList=s.toList:=fun e=>hp (e2 ▸ (aN pb (af s)).1 (e.trans ((aN s (af s)).2 rfl)));have e4:(pb.toList==s.toList)=false:=by simpa using e3
         have HN:=aa (HX.out.2.1 (fun e=>absurd e hp));clear hp e2;go_wp2_with fail;exact⟨⟨k+1,by omega,by go_num,HS2.out.1,HN.out⟩,by simp [intOf];omega⟩
       ·have hc:bW L x=0:=by
         rw [HC3.out,if_neg];intro hany;obtain⟨y,hy,hcl⟩:=List.any_eq_true.1 hany;obtain⟨hy1,hy2⟩:=List.mem_filter.1 hy;have:=HS2.out.2 y (by rw [List.take_of_length_le (by omega)];exact hy1) (by simpa using hy2);rw [this] at hcl
         cases hcl
        have hA0:A=none→ms.length=0∧c=0:=fun e=>by
         refine⟨?_,hn e⟩;rcases Nat.eq_zero_or_pos ms.length with h|h
         ·exact h
         ·obtain⟨_,_,he,_⟩:=HT.out.2.1.at (df h);rw [e] at he;cases he
        have hse:Sm No w (wr.alloc (.cells #[] 9)).drew:=(HS2.out.1.alloc _).drew;have HE:=aa (ab hc (ab hA0 (ab (World.ownsRow.drew (gg wr 9 1 (B:=w.heap.size) HS2.out.1.size)) (ab (HT.out.2.1.no hse) hse.size))));have HBk:=aa HT.out.1.1;have HRr:=aa HT.out.1.2.1;have HNr:=aa (am HT.out.1.2.1 HT.out.1.1 (fun e=>HT.out.1.2.2.2.2.2.2.2.2.1 e.symm));have hrl:=(HT.out.1.1.sm HS2.out.1 (fun h=>h)).lt;clear hc hA0 hse;go_wp2_with fail
        go_region_law
         ((first
           |(refine mE (by rfl) _ _ 119 9 (by rfl) Tryz.underlying119 _ 1 16 eK rfl (by decide) (by decide) w.heap.size _ (by rfl) HE.out.2.2.1 A ms.length c (ms.map aP) (by rfl) HE.out.2.1 (by simp) HE.out.2.2.2.1 (by simp [aP,Value.oneCell']) (by omega) HE.out.2.2.2.2 ?_;intro A4 c4' w4 hown4 hs4 hb4;have hs14:=Eu HS2.out.1 hs4;have hb4':=HBk.out.sm hs14 (fun h=>h);have c4:=hb4'.at 0 (v:=.slice AL L.length cL) rfl;have hrl4:=hb4'.lt;clear hb4';have H4:=aa (ab hown4 hs14);clear hown4 hs4 hb4 hs14)
           |(refine gk (by rfl) _ _ 113 121 (by rfl) Tryz.underlying113 _ 3 48 FH rfl (by decide) (by decide) 0 L.length _ (jw l) (by rfl) (ae HRr.out (H4.out.2.alloc (.cells #[.string s,.int .i64 id,.slice A4 ms.length c4'] 121)) (fun _ _ h=>h)) w4.heap.size #[.string s,.int .i64 id,.slice A4 ms.length c4'] (by rfl) (Bk.new w4 _ _) rfl (by simp [Value.oneCell']) (by omega) (by omega) ?_;intro rr cap w6 hown6 hs6 hr6;have hb6:=(HBk.out.sm (H4.out.2.alloc (.cells #[.string s,.int .i64 id,.slice A4 ms.length c4'] 121)) (fun h=>h)).sm hs6 HNr.out;have c6:=hb6.at 0 (v:=.slice AL L.length cL) rfl;have z6:=hb6.fz 0;have H6:=aa (ab hown6 (ab hs6 hr6));clear hown6 hs6 hr6 hb6)))
        all_goals
         have hfin:=cr.yes (w5:=w4.alloc (.cells #[.string s,.int .i64 id,.slice A4 ms.length c4'] 121)) (x:=x) (cv:=.slice A4 ms.length c4') (v':=.slice (some ⟨rr,0,none⟩) (L.length+1) cap) HE.out.1 HT.out.1 H4.out.2 (by rw [←HT.out.2.2.2.2];exact H4.out.1) ((Sm.refl No w4).alloc _)
          (by rw [←HT.out.2.2.2.2,iB];exact H6.out.1) H6.out.2.1 (by
           rcases H6.out.2.2 with e|e
           ·exact Or.inl e.symm
           ·exact Or.inr (by rw [←e];rfl))
         have HFin:=aa hfin;clear hfin;go_wp2_with fail;go_ret;exact HFin.out
  ·have hc:bW L x=1:=by rw [HC.out,if_neg (by simp [hid])]
   have HE:=aa hc;clear hc;go_in;go_wp2_with fail;refine HPt.out.mono ?_;rintro e w1 ⟨rfl,hs1⟩;have H1:=aa (cr.not HE.out (by decide) HI.out hs1);clear hs1;go_wp2_with fail;go_ret;exact H1.out
end Go.Proofs.YtadcjgopaadfjaaGreatDoor
