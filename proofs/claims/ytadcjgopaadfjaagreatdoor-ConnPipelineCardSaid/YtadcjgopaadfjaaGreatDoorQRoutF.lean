import Derived.Test.YtadcjgopaadfjaaGreatDoorQR
import Derived.Deep.RegionHeld3
set_option maxHeartbeats 2000000
set_option maxRecDepth 100000
namespace Go.Proofs.YtadcjgopaadfjaaGreatDoor
open Go.RowKit Go.Proofs
theorem Fz:(Tryz.prog.info? 163).map (fun i=>(i.zero,i.size,i.bytes))=some (some (.agg #[.int .i64 0,.slice none 0 0]),2,32):=by kernel_rfl
def bK(w:World)(O:Nat→Prop)(r:Nat)(L:List Lt)(x:Lt)(e:Ending)(w':World):Prop:=
 e=.returned (.int .i64 (bW L x))∧∃ O':Nat→Prop,aT w' O' r (fX L x)∧Sm O w w'∧∀ b,O' b→O b∨w.heap.size≤b
theorem bK.not{w w':World}{O:Nat→Prop}{r:Nat}{L:List Lt}{x:Lt}{c:Int}(hc:bW L x=c)(h0:c≠0)(h:aT w O r L)(hs:Sm No w w'):bK w O r L x (.returned (.int .i64 c)) w':=by
 refine⟨by rw [hc],O,?_,hs.any _,fun b hb=>Or.inl hb⟩;unfold fX;rw [if_neg (by rw [hc];exact h0)];exact h.no hs
theorem sF {w w4 w5 w6 w7:World} {O:Nat→Prop} {r:Nat} {L:List Lt} {ba bu mb:Nat} {f:Bool→ah→Value} {l:Bool→ah→List (Lt × Value)} {x:Lt} {wd:Bool} {q t:ah} {F:ah→Value} {lq:List (Lt × Value)} {A' A4:Option Addr} {n c' c4 rr cap B4:Nat} {id:Int} {ms:List ah}
 (hc:bW L x=0) (h:wA w O r L ba bu f l) (hk:eb x.pat=(wd,q)) (hF:f wd=F) (hlq:l wd q=lq) (hfv:F q=.slice A' n c') (hmb:(if wd=true then bu else ba)=mb) (hx:x.pat=t∧x.id=id∧x.ms=ms) (hlz:lq.length=n) (s4:Sm No w w4) (hO4:bi w4 B4 (.slice A4 ms.length c4) ms) (hB4:w.heap.size≤B4) (s5:Sm No w4 w5)
 (hv:w6.ownsRow 0 163 2 (.slice (some ⟨rr,0,none⟩) (n+1) cap) (n+1) (ga lq++[.int .i64 id,.slice A4 ms.length c4])) (s6:Sm (fun b=>(Value.slice A' n c').ownBlock=some b) w5 w6) (hr:(Value.slice A' n c').ownBlock=some rr∨rr=w5.heap.size)
 (hm:dj w7 mb (L.length+1) (fun k=>if k=q then .slice (some ⟨rr,0,none⟩) (n+1) cap else F k)) (s7:Sm (fun g=>g=mb) w6 w7):
 bK w O r L x (.returned (.int .i64 0)) (w7.setCell ⟨r,2,none⟩ (.int .i64 ((L.length:Int)+1))):=by
 subst hF hlq hlz;obtain⟨_,hxi,hxm⟩:=hx;rw [←hfv] at s6 hr;rw [←hxi] at hv;obtain⟨h1,h2⟩:=vo (v':=.slice (some ⟨rr,0,none⟩) ((l wd q).length+1) cap) h hk hmb s4 (by rw [hxm];exact bI hO4 (fun b e=>Nat.le_trans hB4 (World.ownsRow.lt hO4 _ e).1)) s5 hv s6
  (by rcases hr with e|e
      ·exact Or.inl e.symm
      ·exact Or.inr (by rw [←e];rfl)) hm s7
 refine⟨by rw [hc],(fun b=>O b∨(w.heap.size≤b∧b < w7.heap.size)),?_,h2,fun b hb=> ?_⟩
 ·unfold fX;rw [if_pos hc];exact h1
 ·rcases hb with hb|hb
  ·exact Or.inl hb
  ·exact Or.inr hb.1
def CV(s:ByteArray):ByteArray:=if bG (af s)=true then ⟨((af s).take (s.size-2)).toArray⟩ else s
def tA(s:ByteArray):ByteArray:=if bG (af s)=true then CV s++⟨#[47]⟩ else s
theorem yx(s:ByteArray):(CV s).size≤s.size:=by
 unfold CV;split
 ·rw [←ag,eA,←ag];simp
 ·exact Nat.le_refl _
theorem po(s:ByteArray):af (tA s)=(eb (af s)).2:=by
 unfold tA;by_cases h:bG (af s)=true
 ·rw [if_pos h,nh h,du,CV,if_pos h,eA];obtain⟨q,hq⟩:=(gv _).1 h;have hz:s.size=q.length+2:=by rw [←ag,hq];simp
  rw [hq,kU,hz];simp [af]
 ·rw [if_neg h,kV (by simpa using h)]
theorem vi(s:ByteArray):(tA s).size≤s.size+1:=by
 rw [←ag,po,←ag];unfold eb;split
 ·simp;omega
 ·simp
def Gl(w:World)(S:List Lt)(ms:List ah)(i:Value)(wr:World):Prop:=
 ∃ k:Nat,k≤S.length∧i=.int .i64 k∧Sm No w wr∧∀ y∈S.take k,bT ms y.ms=false
theorem vD{l:List Lt}{p:Lt→Bool}{k:Nat}(h:∀ x∈l.take k,p x=false)(hk:k < l.length)(hp:p l[k]=false):∀ x∈l.take (k+1),p x=false:=by
 intro x hx;rw [List.take_succ_eq_append_getElem hk,List.mem_append,List.mem_singleton] at hx;rcases hx with hx|rfl
 ·exact h x hx
 ·exact hp
theorem sY{l:ah}{lb:ByteArray}(h:fp l=.string lb):eI (some l)=.tuple #[.string lb,.bool true]:=by
 show Value.tuple #[fp l,.bool true]=_;rw [h]
theorem Cl{L:List Lt}{s:ah}{id:Int}{ms:List ah}{k:Bool × ah}(hk:eb s=k):
 bW L ⟨s,id,ms⟩=if (bt k.2==some k.2&&decide (k.2.length≤200)&&decide (0≤id)&&ms.all bo)=true then (if 64≤L.length then 3 else if (gF L k).any (fun y=>bT ms y.ms)=true then 11 else 0) else 1:=by
 unfold bW;rw [Dr,GM,hk]
theorem DZ{l:List ah}{b:Bool}(h:l.any (fun m=> !bo m)=b):l.all bo= !b:=by
 rw [←h,List.any_eq_not_all_not];simp
theorem vI{ms xs:List ah}(h1:ms≠[])(h2:xs≠[]):bT ms xs=ms.any (fun m=>xs.contains m):=by
 unfold bT
 cases ms with
 |nil=>exact absurd rfl h1
 |cons a r=>cases xs with
  |nil=>exact absurd rfl h2
  |cons b t=>rfl
theorem xN (w:World) (O:Nat→Prop) (r:Nat) (L:List Lt) (s:ByteArray) (id:Int) (A:Option Addr) (c:Nat) (ms:List ah) (h:aT w O r L) (hg:G0 w) (hL:L.length≤64)
 (hLm:∀ x∈L,x.ms.length≤1000000) (hs:s.size≤800000) (hA:ax w A (ms.map aP)) (hn:A=none→c=0) (hml:ms.length≤1000000) (hms:∀ t∈ms,t.length≤1000000):
 Calls Tryz.prog 59 #[.pointer (some ⟨r,0,none⟩),.string s,.int .i64 id,.slice A ms.length c] w (bK w O r L ⟨af s,id,ms⟩):=by
 obtain⟨x,hx⟩:=ai ((⟨af s,id,ms⟩:Lt));rw [hx];have hxp:x.pat=af s∧x.id=id∧x.ms=ms:=by rw [←hx];exact⟨rfl,rfl,rfl⟩
 obtain⟨ba,bu,f,l,hparts⟩:∃ ba bu f l,wA w O r L ba bu f l:=by exact h
 have h:aT w O r L:=⟨ba,bu,f,l,hparts⟩;have hb:Bk w r 158 #[.map (some ba),.map (some bu),.int .i64 L.length]:=hparts.1;have c0:=hb.at 0 (v:=.map (some ba)) rfl;have c1:=hb.at 1 (v:=.map (some bu)) rfl;obtain⟨q,hq⟩:=ai (tA s);have hqz:=vi s;have hqk:=po s;rw [hq] at hqz hqk;obtain⟨wd,hwd⟩:=ai (bG (af s));obtain⟨mb,hmb⟩:=ai ((if wd=true then bu else ba));have hkey:eb (af s)=(wd,af q):=by
  rw [hqk];refine Prod.ext ?_ rfl;unfold eb;split
  ·rename_i e;rw [←hwd,e]
  ·rename_i e;rw [←hwd];exact(by simpa using e:bG (af s)=false).symm
 have hcode:=Cl (L:=L) (id:=id) (ms:=ms) hkey;rw [hx] at hcode;obtain⟨F,hF⟩:=ai (f wd);have hM:dj w mb L.length F:=by
  rw [←hmb,←hF]
  cases wd
  ·exact hparts.2.1
  ·exact hparts.2.2.1
 obtain⟨S,hS⟩:=ai (gF L (wd,af q));have hR:ie w (F (af q)) S:=by
  rw [←hS,←hF];exact⟨l wd (af q),hparts.2.2.2.2.1 wd (af q),hparts.2.2.2.1.own wd (af q),hparts.2.2.2.1.ms wd (af q),fun x hx=>hLm x (List.mem_filter.1 hx).1⟩
 have hSl:S.length≤64:=by rw [←hS];exact Nat.le_trans (List.length_filter_le _ _) hL
 rw [show (wd,af q).2=af q from rfl,hS] at hcode;have hC:=BY s (by omega) w;have hpz:=yx s;obtain⟨p,hp⟩:=ai (CV s);rw [show (if bG (af s)=true then (⟨((af s).take (s.size-2)).toArray⟩:ByteArray) else s)=p from hp,hwd] at hC;have HC:=aa hC;rw [hp] at hpz;rw [←hxp.1] at hkey;have HP:=aa (ab hcode (ab hM (ab hR (ab h (ab hg (ab hA (ab hms (ab hb hkey))))))));obtain⟨lq,hlq⟩:=ai (l wd (af q));have hown:w.ownsRow 0 163 2 (F (af q)) S.length (ga lq):=by
  have:=hparts.2.2.2.1.own wd (af q);rw [hF,hlq] at this;rw [←hS,←hparts.2.2.2.2.1 wd (af q),List.length_map,hlq];exact this
 have hlz:lq.length=S.length:=by rw [←hS,←hparts.2.2.2.2.1 wd (af q),List.length_map,hlq]
 have HW:=aa (ab hparts (ab hF (ab hlq (ab hmb (ab hxp (ab hown hlz))))));clear hlq hown hlz;unfold tA at hq;rw [hwd,hp] at hq;clear hb h hg hA hms hkey hM hwd hqk hx hC hp hcode hparts hF hS hR hxp;have HQ:=aa hq;clear hq
 cases wd
 all_goals
  simp only [Bool.false_eq_true,if_false,if_true] at HQ hmb;subst hmb
  first|(obtain rfl:q=s:=HQ.out.symm)|skip
  have hpz2:p.size≤800000:=by omega
  have hqz2:q.size≤800001:=by omega
  clear hqz hpz;go_in;go_wp2_with fail;refine HC.out.mono ?_;rintro e w1 ⟨rfl,rfl⟩;go_wp2_with fail
  first|(have hq:=HQ.out.symm;generalize p++(⟨#[47]⟩:ByteArray)=q' at *;subst hq)|skip
  clear HQ HC;refine(kZ q (by omega) _ HP.out.2.2.2.2.1).mono ?_;rintro e w2 ⟨rfl,hs2⟩;have HS:=aa hs2;obtain⟨C,hC⟩:=ai (bt (af q));have H2:=HP.out.1;rw [hC] at H2 ⊢;have HC:=aa H2;have c0':=hs2.cell (World.block_lt_of_cell? _ _ c0) c0;clear hs2 hC H2
  cases C with
  |none=>
   have hc:bW L x=1:=by rw [HC.out];rfl
   have HE:=aa (bK.not hc (by decide) HP.out.2.2.2.1 HS.out);unfold eI;clear hc;go_wp2_with fail;go_ret;exact HE.out
  |some l=>
   obtain⟨lb,hlb⟩:∃ lb:ByteArray,fp l=.string lb∧af lb=l:=⟨⟨l.toArray⟩,rfl,eA l⟩;obtain⟨e1,e2⟩:=hlb;rw [sY e1];clear e1;by_cases hl:l=af q
   ·obtain rfl:q=lb:=by rw [←fr lb,←fr q,e2,hl]
    have hc2:=HC.out;rw [show (some l==some (af q))=true by simp [hl],Bool.true_and,ag] at hc2;have H3:=aa hc2;clear hc2 hl;by_cases hq2:q.size≤200
    ·by_cases hid:0≤id
     ·obtain⟨b,hb⟩:=ai (ms.any (fun m=> !bo m));have hall:=DZ hb;have hcf:=CL w2 A c ms (HP.out.2.2.2.2.2.1.no HS.out) hml HP.out.2.2.2.2.2.2.1;rw [hb] at hcf;have HF:=aa hcf;have H4:=aa hall;clear hb hall hcf;go_wp2_with fail;refine HF.out.mono ?_;rintro e w3 ⟨rfl,hs3⟩;have HS3:=aa (HS.out.tt hs3)
      cases b
      ·have hc3:=H3.out;rw [H4.out] at hc3;simp only [hq2,hid,decide_true,Bool.not_false,Bool.and_self,if_true] at hc3;have c2:=((HP.out.2.2.2.2.2.2.2.1).sm HS3.out (fun h=>h)).at 2 (v:=.int .i64 L.length) rfl;by_cases hfull:64≤L.length
       ·rw [if_pos hfull] at hc3;have HE:=aa (bK.not hc3 (by decide) HP.out.2.2.2.1 HS3.out);clear hc3;go_wp2_with fail;go_ret;exact HE.out
       ·rw [if_neg hfull] at hc3;have H5:=aa hc3;clear hc3;have hR:=HP.out.2.2.1.no HS3.out;obtain⟨A',c',hfv,_⟩:=hR.form;have hlk:=fun (W:World) (hs:Sm No w1 W)=>(HP.out.2.1.sm hs (fun h=>h)).look q (by omega);simp only [hfv] at hlk;have HLK:=aa hlk;have hlk:=hlk _ HS3.out;rw [hfv] at hR;have HR:=aa (ab hR hfv);clear hR hfv;go_wp2_with fail
        go_loopw [70] (fun i wr=>Gl w1 S ms i wr) (fun i _=>S.length-(intOf i).toNat)
        case atStart=>exact⟨0,Nat.zero_le _,rfl,HS3.out,fun y h=>by simp at h⟩
        case round=>
         obtain⟨k,hk,rfl,hsm,hno⟩:=hrel;have HZ:=aa (ab hsm hno);have hRk:=HP.out.2.2.1.no hsm;rw [HR.out.2] at hRk;clear hsm hno;by_cases hlt:k < S.length
         ·obtain⟨g,A2,c2,hAe,hg,r0,r1,hR2,hl2,_⟩:=hRk.get hlt;subst hAe;have hall:(∃ y∈S,bT ms y.ms=true)→bW L x=11:=fun ⟨y,hy,e⟩=>by
           rw [H5.out,if_pos (List.any_eq_true.2 ⟨y,hy,e⟩)]
          have hmem:S[k]∈S:=List.getElem_mem hlt;have hstep:bT ms S[k].ms=false→∀ y∈S.take (k+1),bT ms y.ms=false:=fun e=>vD HZ.out.2 hlt e;obtain⟨y,hy⟩:=ai (S[k]);rw [hy] at r0 r1 hR2 hl2 hmem hstep;obtain⟨yi,hyi⟩:=ai y.id;obtain⟨ym,hym⟩:=ai y.ms;rw [hyi] at r0;rw [hym] at r1 hR2 hl2 hstep;have hs2:=(Sm.refl No wr).alloc (.cells #[.int .i64 yi,.slice A2 ym.length c2] 163);have hbk:uu (wr.alloc (.cells #[.int .i64 yi,.slice A2 ym.length c2] 163)) wr.heap.size y:=⟨A2,c2,by rw [hyi,hym];exact Bk.new _ _ _,by rw [hym];exact hR2.no hs2,by rw [hym];exact hl2⟩;have hsm2:=HZ.out.1.tt hs2;have HB:=aa (ab hbk (ab hsm2 (ab hstep (ab hmem (ab hall hym)))));have k1:(0:Int)≤(k:Int):=by omega
          have k2:(k:Int) < (S.length:Int):=by omega
          clear hy hyi hym hR2 hs2 hbk hsm2 hstep hmem hall hRk;by_cases hm0:ms=[]
          ·have hc:bW L x=11:=HB.out.2.2.2.2.1 ⟨y,HB.out.2.2.2.1,by rw [hm0];rfl⟩;have e0:((ms.length:Int)==0)=true:=by rw [hm0];rfl
           have HE:=aa (bK.not hc (by decide) HP.out.2.2.2.1 HB.out.2.1);clear hc hm0;go_wp2_with fail;go_ret;exact HE.out
          ·have e0:((ms.length:Int)==0)=false:=by simpa using hm0
           by_cases hy0:ym=[]
           ·have e1:((ym.length:Int)==0)=true:=by rw [hy0];rfl
            have hc:bW L x=11:=HB.out.2.2.2.2.1 ⟨y,HB.out.2.2.2.1,by rw [HB.out.2.2.2.2.2,hy0];unfold bT;simp⟩;have HE:=aa (bK.not hc (by decide) HP.out.2.2.2.1 HB.out.2.1);clear hc hm0 hy0;go_wp2_with fail;go_ret;exact HE.out
           ·have e1:((ym.length:Int)==0)=false:=by simpa using hy0
            have hcl:=vI hm0 hy0;have hcf:=B2 _ A c ms _ y HB.out.1 (HP.out.2.2.2.2.2.1.no HB.out.2.1) hml HP.out.2.2.2.2.2.2.1;rw [HB.out.2.2.2.2.2,←hcl] at hcf;obtain⟨b,hb⟩:=ai (bT ms ym);rw [hb] at hcf;have HC2:=aa (ab hcf hb);clear hcf hb hcl hm0 hy0;go_wp2_with fail;refine HC2.out.1.mono ?_;rintro e w5 ⟨rfl,hs5⟩;have HS5:=aa (HB.out.2.1.tt hs5);clear hs5
            cases b
            ·have hno:=HB.out.2.2.1 HC2.out.2;have HN:=aa hno;clear hno;go_wp2_with fail;exact⟨⟨k+1,by omega,by go_num,HS5.out,HN.out⟩,by simp [intOf];omega⟩
            ·have hc:bW L x=11:=HB.out.2.2.2.2.1 ⟨y,HB.out.2.2.2.1,by rw [HB.out.2.2.2.2.2];exact HC2.out.2⟩;have HE:=aa (bK.not hc (by decide) HP.out.2.2.2.1 HS5.out);clear hc;go_wp2_with fail;go_ret;exact HE.out
         ·have hany:S.any (fun y=>bT ms y.ms)=false:=by
           rw [List.any_eq_false];intro y hy;have:=HZ.out.2 y (by rw [List.take_of_length_le (by omega)];exact hy);simpa using this
          have hc0:bW L x=0:=by rw [H5.out,hany];rfl
          have HN:=aa hc0;clear hany hc0;have hal:∀ o,Sm No w1 ((wr.drew).alloc o):=fun o=>(HZ.out.1.drew).alloc o;have HL:=aa (ab HLK.out hal);have hl1:=HL.out.1 _ (HZ.out.1.drew);have HA3:=aa (HP.out.2.2.2.2.2.1.no (HZ.out.1.drew));have HRM:=aa (gM HP.out.2.2.2.2.2.2.2.1 HP.out.2.1);have HOw:=aa (show w1.ownsRow 0 163 2 (.slice A' S.length c') S.length (ga lq) from HR.out.2 ▸ HW.out.2.2.2.2.2.1);have HNm:=aa (eS HOw.out HP.out.2.1);have HNr:=aa (am HOw.out HP.out.2.2.2.2.2.2.2.1 (by decide));clear hal;go_wp2_with fail
          go_region_held3 (fun w'=>True) (exact trivial)
           ((first
             |(go_at_call 88;refine(uh _ A c ms HA3.out hml hn).mono ?_;rintro e w4 ⟨cv,rfl,hO4,hs4⟩;obtain⟨A4,c4,rfl,hR4,_,_⟩:=au hO4;have hs14:=(HZ.out.1.drew).tt hs4;have hl4:=HL.out.1 _ hs14;have hl5:=HL.out.1 _ (hs14.alloc (.cells #[.int .i64 id,.slice A4 ms.length c4] 163));have H4c:=aa (ab hs14 (ab hO4 hs4));clear hs14 hO4 hs4 hR4)
             |(refine gk (by rfl) _ _ 161 163 (by rfl) Tryz.underlying161 _ 2 32 Fz rfl (by decide) (by decide) 0 S.length _ (ga lq) (by rfl) (ae HOw.out (H4c.out.1.alloc (.cells #[.int .i64 id,.slice A4 ms.length c4] 163)) (fun _ _ h=>h)) w4.heap.size #[.int .i64 id,.slice A4 ms.length c4] (by rfl) (Bk.new w4 _ _) rfl (by simp [Value.oneCell']) (by omega) (by omega) ?_;intro rr cap w6 hown6 hs6 hr6;have hs16:=(((H4c.out.1.alloc (.cells #[.int .i64 id,.slice A4 ms.length c4] 163)).any _).tt hs6);obtain⟨w7,hrun,hM7,hs7⟩:=(HP.out.2.1.sm hs16 HNm.out).put (by omega) q (by omega) (.slice (some ⟨rr,0,none⟩) (S.length+1) cap);have hb7:=(HP.out.2.2.2.2.2.2.2.1.sm hs16 HNr.out).sm hs7 HRM.out;have c27:=hb7.at 2 (v:=.int .i64 L.length) rfl;have z27:=hb7.fz 2;have H6:=aa (ab hown6 (ab hs6 (ab hr6 (ab hM7 hs7))));clear hs16 hown6 hs6 hr6 hb7 hM7 hs7)))
          all_goals
           have hyes:=sF (w5:=w4.alloc (.cells #[.int .i64 id,.slice A4 ms.length c4] 163)) HN.out HW.out.1 HP.out.2.2.2.2.2.2.2.2 HW.out.2.1 HW.out.2.2.1 HR.out.2 HW.out.2.2.2.1 HW.out.2.2.2.2.1 HW.out.2.2.2.2.2.2 H4c.out.1 H4c.out.2.1 (HZ.out.1.drew).size ((Sm.refl No w4).alloc _) H6.out.1 H6.out.2.1 H6.out.2.2.1 H6.out.2.2.2.1 H6.out.2.2.2.2;have HE:=aa hyes;clear hyes;go_wp2_with fail;go_ret;exact HE.out
      ·have hc:bW L x=1:=by rw [H3.out,H4.out];simp
       have HE:=aa (bK.not hc (by decide) HP.out.2.2.2.1 HS3.out);clear hc;go_wp2_with fail;go_ret;exact HE.out
     ·have hc:bW L x=1:=by rw [H3.out,if_neg (by simp [hid])]
      have HE:=aa (bK.not hc (by decide) HP.out.2.2.2.1 HS.out);clear hc;go_wp2_with fail;go_ret;exact HE.out
    ·have hc:bW L x=1:=by rw [H3.out,if_neg (by simp [hq2])]
     have HE:=aa (bK.not hc (by decide) HP.out.2.2.2.1 HS.out);clear hc;go_wp2_with fail;go_ret;exact HE.out
   ·have e3:¬lb.toList=q.toList:=fun e=>hl (e2 ▸ (aN lb (af q)).1 (e.trans ((aN q (af q)).2 rfl)));have hc:bW L x=1:=by rw [HC.out];simp [hl]
    have HE:=aa (bK.not hc (by decide) HP.out.2.2.2.1 HS.out);clear hc hl e2;go_wp2_with fail;go_ret;exact HE.out
end Go.Proofs.YtadcjgopaadfjaaGreatDoor
