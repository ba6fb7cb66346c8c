import Derived.Test.YtadcjgopaadfjaaGreatDoorQPB
import Derived.Test.YtadcjgopaadfjaaGreatDoorQQ
import Derived.Test.YtadcjgopaadfjaaGreatDoorQX
set_option maxHeartbeats 40000000
set_option maxRecDepth 100000
namespace Go.Proofs.YtadcjgopaadfjaaGreatDoor
open Go.RowKit Go.Proofs
theorem rA(b1 b2:Nat)(w:World):(invoke (.fn (.func 224) #[.pointer (some ⟨b1,0,none⟩),.pointer (some ⟨b2,0,none⟩)]) #[]).run Tryz.prog w=.ok (.enter 224 #[.pointer (some ⟨b1,0,none⟩),.pointer (some ⟨b2,0,none⟩)]) w:=by kernel_rfl
theorem fj{w:World}{b1:Nat}{v0 v1 v2 v3:Value}(h:Bk w b1 185 #[v0,v1,v2,v3]):(w.cell? ⟨b1,0,none⟩=some v0∧w.cell? ⟨b1,1,none⟩=some v1)∧w.cell? ⟨b1,2,none⟩=some v2∧w.cell? ⟨b1,3,none⟩=some v3:=⟨⟨h.at 0 rfl,h.at 1 rfl⟩,h.at 2 rfl,h.at 3 rfl⟩
theorem fE {tmps:Array Value} {w wx:World} {b1 b2:Nat} {v0 v1 v2 v3 s0:Value} {st:Int} {P:qN × Int} (h4:tmps[4]?=some (.pointer (some ⟨b1,0,none⟩))) (h5:tmps[5]?=some (.pointer (some ⟨b2,0,none⟩))) (hP:P=(nw,st))
 (hs:Sm No w wx) (k1:Bk wx b1 185 #[v0,v1,v2,v3]) (k2:Bk wx b2 3 #[s0]) (hw1:w.heap.size≤b1) (hw2:w.heap.size≤b2) (hne:b1≠b2):
 Leaves Tryz.prog Tryz.f198 tmps (mg P w) [{target:=.fn (.func 224) #[.pointer (some ⟨b1,0,none⟩),.pointer (some ⟨b2,0,none⟩)],args:=#[]}] (.panicking (AO st)) wx:=by
 refine leaves_cons (by simp) (rA b1 b2 wx) ?_;refine(Az b1 b2 v0 v1 v2 v3 s0 st [] wx k1 k2 hne).mono ?_;rintro e u' w' ⟨rfl,rfl,hs',k1',k2'⟩;have hc:=fj k1';have hd:=k2'.at 0 (v:=.int .i64 st) rfl;refine⟨.tuple #[qC nw,.int .i64 st],?_,hs.fresh hs' (fun b e=>by rcases e with e|e<;>omega),by rw [hP]⟩;simp [results,Tryz.results198,go_sem,hc,hd,h4,h5];rfl
theorem CN {tmps:Array Value} {w wx:World} {b1 b2:Nat} {k1 k2:Int} {c x:Bool} {P:qN × Int} (h4:tmps[4]?=some (.pointer (some ⟨b1,0,none⟩))) (h5:tmps[5]?=some (.pointer (some ⟨b2,0,none⟩))) (hP:P=(⟨k1,k2,c,x⟩,0))
 (hs:Sm No w wx) (h1:Bk wx b1 185 #[.int .i64 k1,.int .i64 k2,.bool c,.bool x]) (h2:Bk wx b2 3 #[.int .i64 0]):
 Leaves Tryz.prog Tryz.f198 tmps (mg P w) [{target:=.fn (.func 224) #[.pointer (some ⟨b1,0,none⟩),.pointer (some ⟨b2,0,none⟩)],args:=#[]}] .returning wx:=by
 refine leaves_cons (by simp) (rA b1 b2 wx) ?_;refine(uI _ _ wx).mono ?_;rintro e u' w' ⟨rfl,rfl,rfl⟩;have hc:=fj h1;have hd:=h2.at 0 (v:=.int .i64 0) rfl;refine⟨.tuple #[qC ⟨k1,k2,c,x⟩,.int .i64 0],?_,hs,by rw [hP]⟩;simp [results,Tryz.results198,go_sem,hc,hd,h4,h5];rfl
def De(w:World)(b1 b2:Nat)(k1 k2:Int)(c x:Bool)(wx:World):Prop:=Sm No w wx∧Bk wx b1 185 #[.int .i64 k1,.int .i64 k2,.bool c,.bool x]∧Bk wx b2 3 #[.int .i64 0]
theorem De.no{w w1 w2:World}{b1 b2:Nat}{k1 k2:Int}{c x:Bool}(h:De w b1 b2 k1 k2 c x w1)(hs:Sm No w1 w2):De w b1 b2 k1 k2 c x w2:=⟨h.1.tt hs,h.2.1.sm hs (fun h=>h),h.2.2.sm hs (fun h=>h)⟩
def GT(T:Option (List ah)):Int × Int:=match T with
 |none=>(0,400)
 |some l=>lM l
theorem kv(w:World)(A:Option Addr)(c:Nat)(r:List ah)(x:ByteArray)(hR:ax w A (r.map aP))(hl:r.length≤100000)(q:Bool)(hq:r.any (·==af x)=q):
 Calls Tryz.prog 87 #[.slice A r.length c,.string x] w fun e w'=>e=.returned (.bool q)∧w'=w:=by
 subst hq
 cases hr:r with
 |nil=>exact Tryz.slices_Contains_string_empty A c x w
 |cons y0 r0=>
  rw [←hr];obtain⟨bb,off,rfl,_,_⟩:=hR.at (j:=0) (u:=aP y0) (by rw [hr];rfl);have hC:=Tryz.slices_Contains_string bb off r.length c (r.map fun l=>(⟨l.toArray⟩:ByteArray)) x w (by simp) (by omega) (fun j hj=>by
   obtain⟨b3,o3,e3,_,h3⟩:=hR.at (j:=j) (u:=aP (r[j]'(by simpa using hj))) (by simp at hj;simp [hj]);injection e3 with e3;injection e3 with e4 e5;subst e4 e5;rw [h3];simp at hj;simp [List.getD,hj,aP])
  rw [List.take_of_length_le (by simp)] at hC;have e:=pO r (af x);rw [show (⟨(af x).toArray⟩:ByteArray)=x from iO x] at e;rw [e] at hC;exact hC
theorem Dl(w:World)(B g:Nat)(v:Value)(l:List aM)(minor:Int)(hm:minor=0∨minor=1)(hg:G0 w)(hF:aA w B g 214 v l)(hL:fT l):
 Calls Tryz.prog 198 #[.int .i64 minor,.pointer (some ⟨g,0,none⟩)] w (mg (gW minor l) w):=by
 have HF:=aa hF;have HL:=aa hL;have HG:=aa hg;obtain⟨fb,hfb⟩:=ai (decide ((1:Int)≤minor));have HB:=aa (show (minor==1)=fb from by rcases hm with rfl|rfl<;>(rw [←hfb];rfl));have HM:=aa hm;obtain⟨P,hP⟩:=ai (gW minor l);rw [hP];have HP:=aa hP;clear hF hL hm hP hg;have hmf:∀ (fn:Fn) (first cap:Array Value) (w:World),(Instr.makeFunc fn first cap).run Tryz.prog w=.ok (.func fn first cap) w:=fun _ _ _ _=>rfl
 go_enter_defers Tryz.func198,Tryz.ntmps198
 go_upto_region 2 with fail;clear hmf;obtain⟨b1,hb1⟩:=ai w.heap.size;obtain⟨b2,hb2⟩:=ai (b1+1);obtain⟨w1,hw1⟩:∃ w1,(w.alloc (.cells #[.int .i64 0,.int .i64 0,.bool false,.bool false] 185)).alloc (.cells #[.int .i64 0] 3)=w1:=⟨_,rfl⟩;have H1:=aa (show De w b1 b2 0 0 false false w1 from by
  rw [←hw1];refine⟨((Sm.refl No w).alloc _).alloc _,Bk.alloc (Bk.newAt _ _ _ hb1.symm) _,?_⟩;exact Bk.newAt _ _ _ (by rw [←hb2,←hb1];exact(Array.size_push ..).symm))
 have HN:=aa (show b1≠b2∧w.heap.size≤b1∧w.heap.size≤b2 from by omega);rw [hw1,hb1,hb2];clear hw1 hb1 hb2;obtain⟨hs,hhs⟩:=ai (ak l ji);have HV:=gJ w1 B g v l ji (HF.out.no H1.out.1) HL.out.len HL.out.short (by decide);unfold jy at HV;rw [hhs] at HV;have HHs:=aa hhs;clear hhs;go_wp2_with fail;refine HV.mono ?_;clear HV hfb;rintro e w2 ⟨vs,rfl,hO,hs2⟩;obtain⟨A5,c5,rfl,hRw⟩:=hO.row;have H2:=aa (ab (H1.out.no hs2) hRw);clear hO hs2 hRw;go_upto_region 4 with fail
 go_cut [] from 14 to 26 (fun wx=>wx=w2∧(hs=[]∧fb=false∨∃ x,hs=[x]))
 case first=>
  rcases hs with _|⟨x,_|⟨y,r⟩⟩
  ·cases fb with
   |true=>
    go_wp2_with fail;refine(cQ 400 _).mono ?_;rintro e w3 ⟨rfl,rfl⟩;exact fE rfl rfl (by rw [←HP.out];exact iQ (by rw [HHs.out];show (!(minor==1))=false;rw [HB.out];rfl)) H2.out.1.1 H2.out.1.2.1 H2.out.1.2.2 HN.out.2.1 HN.out.2.2 HN.out.1
   |false=>
    go_wp2_with fail;refine(bP 400 _).mono ?_;rintro e w3 ⟨rfl,rfl⟩;go_wp2_with fail;go_meet;exact⟨by trivial,Or.inl ⟨by trivial,by trivial⟩⟩
  ·go_wp2_with fail;refine(bP 400 _).mono ?_;rintro e w3 ⟨rfl,rfl⟩;go_wp2_with fail;go_meet;exact⟨by trivial,Or.inr ⟨x,rfl⟩⟩
  ·have e2:¬(((x::y::r).length:Int)≤1):=by rw [List.length_cons,List.length_cons];omega
   have e1:=decide_eq_false e2;go_wp2_with fail;refine(cQ 400 _).mono ?_;rintro e w3 ⟨rfl,rfl⟩;exact fE rfl rfl (by rw [←HP.out];exact iQ (by rw [HHs.out];rfl)) H2.out.1.1 H2.out.1.2.1 H2.out.1.2.2 HN.out.2.1 HN.out.2.2 HN.out.1
 case rest=>
  obtain⟨rfl,hh⟩:=hcut;have HH:=aa hh;clear hh;go_upto_region 5 with fail
  go_cut [] from 27 to 42 (fun wy=>jp minor hs=true∧De w b1 b2 0 0 false false wy)
  case first=>
   rcases HH.out with ⟨rfl,hf⟩|⟨x,rfl⟩
   ·have HFb:=aa hf;clear hf;go_wp2_with fail;refine(bP 400 _).mono ?_;rintro e w3 ⟨rfl,rfl⟩;go_wp2_with fail;go_meet;exact⟨by show (!(minor==1))=true;rw [HB.out,HFb.out];rfl,H2.out.1⟩
   ·obtain⟨bb,off,rfl,hbb,r0⟩:=H2.out.2 0 (by simp);rw [Nat.add_zero] at r0;rw [List.getElem_cons_zero] at r0;have hx:x.size≤100000:=by
     have:=(HL.out.light ji).size x (by rw [HHs.out];exact List.mem_singleton.2 rfl);omega
    obtain⟨f,hf⟩:=ai (eh (af x));have HFf:=aa hf;clear hf;have HE:=aa (show jp minor [x]=(x.size==0||f) from by rw [←HFf.out];rfl);by_cases hz:x.size=0
    ·have z1:x.toList=[]:=by rw [ByteArray.toList_eq];exact List.eq_nil_of_length_eq_zero (by simpa using hz)
     have HZ:=aa hz;clear hz;go_wp2_with fail;refine(bP 400 _).mono ?_;rintro e w3 ⟨rfl,rfl⟩;go_wp2_with fail;go_meet;exact⟨by rw [HE.out,HZ.out];rfl,H2.out.1⟩
    ·have z1:¬x.toList=[]:=by rw [ByteArray.toList_eq];exact fun e=>hz (by have:=congrArg List.length e;simpa using this)
     have z2:x.toList.isEmpty=false:=by
      cases h:x.toList with
      |nil=>exact absurd h z1
      |cons=>rfl
     have HE2:=aa (show jp minor [x]=f from by rw [HE.out];simp [hz]);clear hz;go_wp2_with fail;refine(iY HFf hx _).mono ?_;rintro e w3 ⟨rfl,hs3⟩;have H3:=aa (H2.out.1.no hs3);clear hs3
     cases f with
     |false=>
      go_wp2_with fail;refine(cQ 400 _).mono ?_;rintro e w4 ⟨rfl,rfl⟩;exact fE rfl rfl (by rw [←HP.out];exact iQ (by rw [HHs.out];exact HE2.out)) H3.out.1 H3.out.2.1 H3.out.2.2 HN.out.2.1 HN.out.2.2 HN.out.1
     |true=>
      go_wp2_with fail;refine(bP 400 _).mono ?_;rintro e w4 ⟨rfl,rfl⟩;go_wp2_with fail;go_meet;exact⟨HE2.out,H3.out⟩
  case rest=>
   obtain⟨hhw,hM⟩:=hcut;have HHw:=aa (show jp minor (ak l ji)=true from by rw [HHs.out];exact hhw);have H3:=aa hM;clear hhw hM;obtain⟨K,hK⟩:=ai (bC minor l);have HK:=aa hK;clear hK;go_upto_block 0 with fail
   go_cut [] from 43 to 64 (fun wy=>K.2.2=0∧De w b1 b2 K.1 K.2.1 false false wy)
   case first=>
    go_wp2_with fail;obtain⟨n1,hn1⟩:=ai ((ak l gS).length);obtain⟨n2,hn2⟩:=ai ((ak l eH).length);have HN1:=aa hn1;have HN2:=aa hn2;have HasC:=fun (wx:World) (h:aA wx B g 214 v l)=>qg wx B g v l gS h HL.out.len HL.out.short (by decide);have HasL:=fun (wx:World) (h:aA wx B g 214 v l)=>qg wx B g v l eH h HL.out.len HL.out.short (by decide);rw [hn1] at HasC;rw [hn2] at HasL;have HasC:=aa HasC;have HasL:=aa HasL;clear hn1 hn2;refine(HasC.out _ (HF.out.no H3.out.1)).mono ?_;rintro e w4 ⟨rfl,hs4⟩;have H4:=aa (H3.out.no hs4);clear hs4;by_cases h1:0 < n1
    ·have e1:=decide_eq_true h1;have HKC:=aa (show K=(2,0,qQ minor (ak l eH) (ak l gS)) from by rw [←HK.out];exact pr (by rw [HN1.out];exact h1));clear h1
     cases fb with
     |false=>
      have HC4:=aa (show qQ minor (ak l eH) (ak l gS)=400 from by
       unfold qQ;rw [if_pos (Or.inl (by rcases HM.out with h|h;exact h;have:=HB.out;rw [h] at this;cases this))])
      go_wp2_with fail;refine(cQ 400 _).mono ?_;rintro e w9 ⟨rfl,rfl⟩;exact fE rfl rfl (by rw [←HP.out];exact(by rw [ek HHw.out (by rw [HK.out,HKC.out,HC4.out];decide),HK.out,HKC.out,HC4.out])) H4.out.1 H4.out.2.1 H4.out.2.2 HN.out.2.1 HN.out.2.2 HN.out.1
     |true=>
      go_wp2_with fail;refine(HasL.out _ (HF.out.no H4.out.1)).mono ?_;rintro e w5 ⟨rfl,hs5⟩;have H5:=aa (H4.out.no hs5);clear hs5;by_cases h2:0 < n2
      ·have e2:=decide_eq_true h2;have HC4:=aa (show qQ minor (ak l eH) (ak l gS)=400 from by
        unfold qQ;rw [if_pos (Or.inr (by rw [HN2.out];exact h2))])
       clear h2;go_wp2_with fail;refine(cQ 400 _).mono ?_;rintro e w9 ⟨rfl,rfl⟩;exact fE rfl rfl (by rw [←HP.out];exact(by rw [ek HHw.out (by rw [HK.out,HKC.out,HC4.out];decide),HK.out,HKC.out,HC4.out])) H5.out.1 H5.out.2.1 H5.out.2.2 HN.out.2.1 HN.out.2.2 HN.out.1
      ·have e2:=decide_eq_false h2;have HC4:=aa (show qQ minor (ak l eH) (ak l gS)=match aO (ar (ak l gS)) with|none=>400|some l=>jf l from by
        unfold qQ;rw [if_neg (by rw [HN2.out];rintro(h|h);have:=HB.out;rw [h] at this;cases this;exact h2 h)];rfl)
       clear h2;go_wp2_with fail;refine(bP 400 _).mono ?_;rintro e w9 ⟨rfl,rfl⟩;go_wp2_with fail;have HTk:=nk _ B g v l gS (HG.out.no H5.out.1) (HF.out.no H5.out.1) HL.out (by decide);obtain⟨T,hT⟩:=ai (aO (ar (ak l gS)));rw [hT] at HTk HC4;have HT:=aa hT;clear hT;refine HTk.mono ?_;clear HTk
       cases T with
       |none=>
        rintro e w6 ⟨hs6,rfl⟩;have H6:=aa (H5.out.no hs6);clear hs6;exact fE rfl rfl (by rw [←HP.out];exact(by rw [ek HHw.out (by rw [HK.out,HKC.out,HC4.out];decide),HK.out,HKC.out,HC4.out])) H6.out.1 H6.out.2.1 H6.out.2.2 HN.out.2.1 HN.out.2.2 HN.out.1
       |some r=>
        rintro e w6 ⟨hs6,vT,rfl,hO⟩;obtain⟨A6,c6,rfl,hR6⟩:=hO.row2;have H6:=aa (ab (H5.out.no hs6) hR6);clear hO hs6 hR6;obtain⟨st,hst⟩:=ai (jf r);have hrl:r.length≤100000:=by have:=(HL.out.light gS).many HT.out;omega
        have HCd:=zx w6 A6 c6 r H6.out.2 hrl;rw [hst] at HCd;have HKK:=aa (show K=(2,0,st) from by rw [HKC.out,HC4.out];show (2,0,jf r)=_;rw [hst]);clear hst hrl;go_wp2_with fail;refine HCd.mono ?_;clear HCd;rintro e w7 ⟨rfl,⟨rfl,rfl⟩|⟨h7,rfl⟩⟩
        ·have hl:=(H6.out.1.2.1).lt;have hc:=fj H6.out.1.2.1;have hz:=(H6.out.1.2.1).fz;go_wp2_with fail;go_meet;rw [HKK.out];exact⟨rfl,H6.out.1.1.setN HN.out.2.1 _ _,H6.out.1.2.1.set 0 _,H6.out.1.2.2.far (Ne.symm HN.out.1) _⟩
        ·exact fE rfl rfl (by rw [←HP.out];exact(by rw [ek HHw.out (by rw [HK.out,HKK.out];exact h7),HK.out,HKK.out])) H6.out.1.1 H6.out.1.2.1 H6.out.1.2.2 HN.out.2.1 HN.out.2.2 HN.out.1
    ·have e1:=decide_eq_false h1;have HK1:=aa (fun h=>oS (m:=minor) (fs:=l) (by rw [HN1.out];exact h1) h);have HK0:=aa (fun h=>sr (m:=minor) (fs:=l) (by rw [HN1.out];exact h1) h);clear h1;go_wp2_with fail;refine(HasL.out _ (HF.out.no H4.out.1)).mono ?_;rintro e w5 ⟨rfl,hs5⟩;have H5:=aa (H4.out.no hs5);clear hs5;by_cases h2:0 < n2
     ·have e2:=decide_eq_true h2;have HKC:=aa (show K=(1,(sW (ak l eH)).1,(sW (ak l eH)).2) from by rw [←HK.out];exact HK1.out (by rw [HN2.out];exact h2));clear h2;have HTk:=nk w5 B g v l eH (HG.out.no H5.out.1) (HF.out.no H5.out.1) HL.out (by decide);obtain⟨T,hT⟩:=ai (aO (ar (ak l eH)));have HLw:=aa (show sW (ak l eH)=GT T from by rw [←hT];rfl);rw [hT] at HTk;have HT:=aa hT;clear hT;go_wp2_with fail;refine HTk.mono ?_;clear HTk
      cases T with
      |none=>
       rintro e w6 ⟨hs6,rfl⟩;have H6:=aa (H5.out.no hs6);clear hs6;exact fE rfl rfl (by rw [←HP.out];exact(by rw [ek HHw.out (by rw [HK.out,HKC.out,HLw.out];decide),HK.out,HKC.out,HLw.out];rfl)) H6.out.1 H6.out.2.1 H6.out.2.2 HN.out.2.1 HN.out.2.2 HN.out.1
      |some r=>
       rintro e w6 ⟨hs6,vT,rfl,hO⟩;obtain⟨A6,c6,rfl,hR6⟩:=hO.row2;have H6:=aa (ab (H5.out.no hs6) hR6);clear hO hs6 hR6;obtain⟨R1,R2,hR⟩:∃ R1 R2,lM r=(R1,R2):=⟨_,_,rfl⟩;have hrl:r.length≤100000:=by have:=(HL.out.light eH).many HT.out;omega
       have HCd:=tC w6 A6 c6 r H6.out.2 hrl (fun t ht=>by have:=(HL.out.light eH).toks HT.out t ht;omega);rw [hR] at HCd;have HKK:=aa (show K=(1,R1,R2) from by rw [HKC.out,HLw.out];show (1,(lM r).1,(lM r).2)=_;rw [hR]);clear hR hrl;go_wp2_with fail;refine HCd.mono ?_;clear HCd;rintro e w7 ⟨hs7,⟨h7,rfl⟩|⟨h7,rfl⟩⟩
       ·have H7:=aa (H6.out.1.no hs7);have HR2:=aa h7;clear hs7 h7;have hl:=(H7.out.2.1).lt;have hc:=fj H7.out.2.1;have hz:=(H7.out.2.1).fz;go_wp2_with fail;go_meet;rw [HKK.out];exact⟨HR2.out,(H7.out.1.setN HN.out.2.1 _ _).setN HN.out.2.1 _ _,(H7.out.2.1.set 0 _).set 1 _,(H7.out.2.2.far (Ne.symm HN.out.1) _).far (Ne.symm HN.out.1) _⟩
       ·have H7:=aa (H6.out.1.no hs7);clear hs7;exact fE rfl rfl (by rw [←HP.out];exact(by rw [ek HHw.out (by rw [HK.out,HKK.out];exact h7),HK.out,HKK.out])) H7.out.1 H7.out.2.1 H7.out.2.2 HN.out.2.1 HN.out.2.2 HN.out.1
     ·have e2:=decide_eq_false h2;have HKK:=aa (show K=(0,0,0) from by rw [←HK.out];exact HK0.out (by rw [HN2.out];exact h2));clear h2;go_wp2_with fail;go_meet;rw [HKK.out];exact⟨rfl,H5.out⟩
   case rest=>
    obtain⟨h3,hM⟩:=hcut;obtain⟨k1,k2,k3⟩:=K;dsimp only at h3 hM ⊢;subst h3;have H5:=aa hM;have HK3:=aa (show (bC minor l).2.2=0 from by rw [HK.out]);clear hM;have HTk:=nk _ B g v l lJ (HG.out.no H5.out.1) (HF.out.no H5.out.1) HL.out (by decide);obtain⟨T,hT⟩:=ai (aO (ar (ak l lJ)));rw [hT] at HTk;have HT:=aa hT;clear hT;go_wp2_with fail;refine HTk.mono ?_;clear HTk
    cases T with
    |none=>
     rintro e w6 ⟨hs6,rfl⟩;have H6:=aa (H5.out.no hs6);clear hs6;exact fE rfl rfl (by rw [←HP.out];exact tZ HHw.out HK3.out HT.out) H6.out.1 H6.out.2.1 H6.out.2.2 HN.out.2.1 HN.out.2.2 HN.out.1
    |some r=>
     rintro e w6 ⟨hs6,vT,rfl,hO⟩;obtain⟨A6,c6,rfl,hR6⟩:=hO.row2;have H6:=aa (ab (H5.out.no hs6) hR6);clear hO hs6 hR6;have hrl:r.length≤100000:=by have:=(HL.out.light lJ).many HT.out;omega
     obtain⟨C,hC⟩:=ai (nR minor (some r));have HC:=aa hC;have HRl:=aa hrl;clear hC hrl;go_upto_region 13 with fail
     go_cut [] from 67 to 78 (fun wy=>De w b1 b2 k1 k2 C false wy)
     case first=>
      obtain⟨q1,hq1⟩:=ai (DM (some r) CW);obtain⟨q2,hq2⟩:=ai (DM (some r) ER);have HQ:=aa (show C=(q1||(!fb&& !q2)) from by
       rw [←HC.out];unfold nR;rw [hq1,hq2,show (minor==0)= !fb from by rcases HM.out with h|h<;>(rw [←HB.out,h];rfl)])
      have HQ1:=kv w6 A6 c6 r ⟨#[99,108,111,115,101]⟩ H6.out.2 HRl.out q1 hq1;have HQ2:=kv w6 A6 c6 r ⟨#[107,101,101,112,45,97,108,105,118,101]⟩ H6.out.2 HRl.out q2 hq2;have HQ1:=aa HQ1;have HQ2:=aa HQ2;clear hq1 hq2;go_wp2_with fail;refine HQ1.out.mono ?_;rintro e w7 ⟨rfl,rfl⟩;have hl:=(H6.out.1.2.1).lt;have hc:=fj H6.out.1.2.1;have hz:=(H6.out.1.2.1).fz;have HFin:=aa (show De w b1 b2 k1 k2 C false (w7.setCell ⟨b1,2,none⟩ (.bool C)) from⟨H6.out.1.1.setN HN.out.2.1 _ _,H6.out.1.2.1.set 2 _,H6.out.1.2.2.far (Ne.symm HN.out.1) _⟩)
      cases q1 with
      |true=>
       obtain rfl:C=true:=HQ.out;go_wp2_with fail;go_meet;exact HFin.out
      |false=>
       cases fb with
       |true=>
        obtain rfl:C=false:=HQ.out;go_wp2_with fail;go_meet;exact HFin.out
       |false=>
        obtain rfl:C= !q2:=HQ.out;go_wp2_with fail;refine HQ2.out.mono ?_;rintro e w8 ⟨rfl,rfl⟩;go_wp2_with fail;go_meet;exact HFin.out
     case rest=>
      have H7:=aa hcut;clear hcut;have HE:=aa (rx HHw.out HK3.out (by rw [HT.out];exact fun h=>by cases h));have HEF:=aa (fun x:Bool=>show Dv minor l x=⟨k1,k2,C,x⟩ from by unfold Dv;rw [HK.out,HT.out,HC.out]);obtain⟨n3,hn3⟩:=ai ((ak l lH).length);have HN3:=aa hn3;have HasE:=fun (wx:World) (h:aA wx B g 214 v l)=>qg wx B g v l lH h HL.out.len HL.out.short (by decide);rw [hn3] at HasE;have HasE:=aa HasE;clear hn3
      cases fb with
      |false=>
       have HX:=aa (show P=(⟨k1,k2,C,false⟩,0) from by
        rw [←HP.out,HE.out,if_neg (fun h=>by have:=HB.out;rw [h.1] at this;cases this),HEF.out])
       have hl:=(H7.out.2.1).lt;have hc:=fj H7.out.2.1;have hz:=(H7.out.2.1).fz;have hl2:=(H7.out.2.2).lt;have hc2:=(H7.out.2.2).at 0 (v:=.int .i64 0) rfl;have hz2:=(H7.out.2.2).fz 0;have hne:=HN.out.1;go_wp2_with fail;exact CN rfl rfl HX.out (((((H7.out.1.setN HN.out.2.1 _ _).setN HN.out.2.1 _ _).setN HN.out.2.1 _ _).setN HN.out.2.1 _ _).setN HN.out.2.2 _ _) (((((H7.out.2.1.set 0 _).set 1 _).set 2 _).set 3 _).far HN.out.1 _) (((((H7.out.2.2.far (Ne.symm HN.out.1) _).far (Ne.symm HN.out.1) _).far (Ne.symm HN.out.1) _).far (Ne.symm HN.out.1) _).set 0 _)
      |true=>
       go_wp2_with fail;refine(HasE.out _ (HF.out.no H7.out.1)).mono ?_;rintro e w8 ⟨rfl,hs8⟩;have H8:=aa (H7.out.no hs8);clear hs8;by_cases h3:0 < n3
       ·have e3:=decide_eq_true h3;have HE2:=aa (HE.out.trans (if_pos ⟨by rcases HM.out with h|h;(have:=HB.out;rw [h] at this;cases this);exact h,by rw [HN3.out];exact h3⟩));clear h3;go_wp2_with fail;have HGt:=xE w8 B g v l lH (HF.out.no H8.out.1) HL.out.len HL.out.short (by decide);obtain⟨t,ht⟩:∃ t:ByteArray,⟨(ee l lH).toArray⟩=t:=⟨_,rfl⟩;rw [ht] at HGt;have htl:t.data.toList=ee l lH:=by rw [←ht]
        have htz:t.size≤1000000:=by
         have h1:=vg HL.out lH;rw [←htl] at h1;have:t.data.toList.length=t.size:=by simp
         omega
        have HTl:=aa htl;clear ht htl;refine HGt.mono ?_;clear HGt;rintro e w9 ⟨rfl,hs9⟩;have H9:=aa (H8.out.no hs9);clear hs9;obtain⟨q,hq⟩:=ai (dp (ee l lH) ni);have HSm:=sJ t ⟨#[49,48,48,45,99,111,110,116,105,110,117,101]⟩ htz (by decide) w9;rw [HTl.out,show dp (ee l lH) (⟨#[49,48,48,45,99,111,110,116,105,110,117,101]⟩:ByteArray).data.toList=q from hq] at HSm;have HQ:=aa hq;clear hq htz;go_wp2_with fail;refine HSm.mono ?_;clear HSm;rintro e w10 ⟨rfl,hs10⟩;have H10:=aa (H9.out.no hs10);clear hs10
        cases q with
        |false=>
         go_wp2_with fail;refine(cQ 417 _).mono ?_;rintro e w9 ⟨rfl,rfl⟩;exact fE rfl rfl (by rw [←HP.out];exact(HE2.out.trans (if_pos HQ.out))) H10.out.1 H10.out.2.1 H10.out.2.2 HN.out.2.1 HN.out.2.2 HN.out.1
        |true=>
         have HE3:=aa (HE2.out.trans (if_neg (by rw [HQ.out];decide)));go_wp2_with fail;refine(bP 417 _).mono ?_;rintro e w11 ⟨rfl,rfl⟩;obtain⟨x,hx⟩:=ai ((decide (k1=2)||decide (0 < k2)));have HX:=aa (show P=(⟨k1,k2,C,x⟩,0) from by rw [←HP.out,HE3.out,HEF.out,HK.out];dsimp only;rw [hx]);have H11:=aa (show De w b1 b2 k1 k2 C x (w11.setCell ⟨b1,3,none⟩ (.bool x)) from⟨H10.out.1.setN HN.out.2.1 _ _,H10.out.2.1.set 3 _,H10.out.2.2.far (Ne.symm HN.out.1) _⟩);go_upto_region 16 with fail
         go_cut [] from 88 to 96 (fun wy=>De w b1 b2 k1 k2 C x wy)
         case first=>
          have hl:=(H10.out.2.1).lt;have hc:=fj H10.out.2.1;have hz:=(H10.out.2.1).fz;by_cases hk1:k1=2
          ·have hxt:x=true:=by rw [←hx];simp [hk1]
           subst hxt hk1;clear hx;go_wp2_with fail;go_meet;exact H11.out
          ·have hxt:x=decide (0 < k2):=by rw [←hx];simp [hk1]
           have e1:(k1==2)=false:=by simp [hk1]
           subst hxt;clear hx hk1;go_wp2_with fail;go_meet;exact H11.out
         case rest=>
          have H12:=aa hcut;clear hcut hx;have hl:=(H12.out.2.1).lt;have hc:=fj H12.out.2.1;have hz:=(H12.out.2.1).fz;have hl2:=(H12.out.2.2).lt;have hc2:=(H12.out.2.2).at 0 (v:=.int .i64 0) rfl;have hz2:=(H12.out.2.2).fz 0;have hne:=HN.out.1;go_wp2_with fail;exact CN rfl rfl HX.out (((((H12.out.1.setN HN.out.2.1 _ _).setN HN.out.2.1 _ _).setN HN.out.2.1 _ _).setN HN.out.2.1 _ _).setN HN.out.2.2 _ _) (((((H12.out.2.1.set 0 _).set 1 _).set 2 _).set 3 _).far HN.out.1 _) (((((H12.out.2.2.far (Ne.symm HN.out.1) _).far (Ne.symm HN.out.1) _).far (Ne.symm HN.out.1) _).far (Ne.symm HN.out.1) _).set 0 _)
       ·have e3:=decide_eq_false h3;have HX:=aa (show P=(⟨k1,k2,C,false⟩,0) from by
         rw [←HP.out,HE.out,if_neg (fun h=>h3 (by rw [←HN3.out];exact h.2)),HEF.out])
        clear h3;have hl:=(H8.out.2.1).lt;have hc:=fj H8.out.2.1;have hz:=(H8.out.2.1).fz;have hl2:=(H8.out.2.2).lt;have hc2:=(H8.out.2.2).at 0 (v:=.int .i64 0) rfl;have hz2:=(H8.out.2.2).fz 0;have hne:=HN.out.1;go_wp2_with fail;exact CN rfl rfl HX.out (((((H8.out.1.setN HN.out.2.1 _ _).setN HN.out.2.1 _ _).setN HN.out.2.1 _ _).setN HN.out.2.1 _ _).setN HN.out.2.2 _ _) (((((H8.out.2.1.set 0 _).set 1 _).set 2 _).set 3 _).far HN.out.1 _) (((((H8.out.2.2.far (Ne.symm HN.out.1) _).far (Ne.symm HN.out.1) _).far (Ne.symm HN.out.1) _).far (Ne.symm HN.out.1) _).set 0 _)
theorem Cz(s:ah):bL 32 s=mR s:=by
 have h:∀ (l cur:ah),bF 32 cur l=wD cur l:=by
  intro l
  induction l with
  |nil=>intro cur;rfl
  |cons c l ih=>
   intro cur;rw [bF,wD,ih,ih]
 exact h _ _
theorem Ai(s:ByteArray)(hs:s.size≤1000000)(w:World)(hg:G0 w):
 Calls Tryz.prog 113 #[.string s,.string ⟨#[32]⟩] w fun e w'=>∃ ps:List ByteArray,ar ps=mR (af s)∧e=.returned (.slice (some ⟨w.heap.size,0,none⟩) ps.length ps.length)∧
  gE w' (some ⟨w.heap.size,0,none⟩) ps∧Sm No w w':=by
 obtain⟨m,hm⟩:=hg;refine(Tryz.strings_Split s ⟨#[32]⟩ m w (by omega) hm (by decide)).mono fun e w' ⟨he,hw⟩=> ?_;have hlen:=Lib.splitB_all ⟨#[32]⟩ (by decide) 0 _ s rfl;refine⟨_,(nF 32 s).trans (Cz _),?_,?_,?_⟩
 ·rw [hlen];exact he
 ·intro k hk;subst hw;have hb:=Bk.new w 9 ((Lib.splitB ⟨#[32]⟩ 0 (Lib.countB s ⟨#[32]⟩) s).map Value.string).toArray;exact⟨w.heap.size,0,rfl,hb.lt,by rw [Nat.zero_add];exact hb.at k (by simp [hk])⟩
 ·rw [hw];exact(Sm.refl No w).alloc _
theorem AX(a m b:UInt8):fg (iZ++[a,m,b])=if m=46 then (if lV a=true∧lV b=true then (if a=49 then ((0:Int),b) else (505,0)) else (400,0)) else (400,0):=by
 by_cases h:m=46
 ·subst h;rw [if_pos rfl];rfl
 ·rw [if_neg h,AK (l:=iZ++[a,m,b]) rfl];exact if_neg (fun e=>h e.2)
theorem pU{r:ah}(h:¬r.length=3):fg (iZ++r)=(400,0):=rX (by rw [List.length_append];show ¬5+r.length=8;omega)
theorem uY{l:ah}(h:Lib.hasPrefix l iZ=false):fg l=(400,0):=by
 by_cases h8:l.length=8
 ·rw [AK h8,if_neg];rintro⟨e,_⟩;have:iZ <+:l:=⟨l.drop 5,by rw [←e];exact List.take_append_drop 5 l⟩;rw [show Lib.hasPrefix l iZ=true from List.isPrefixOf_iff_prefix.2 this] at h
  cases h
 ·exact rX h8
theorem Bl{l:ah}(h:Lib.hasPrefix l iZ=true):l=iZ++Lib.trimPrefix l iZ:=by
 obtain⟨t,ht⟩:=List.isPrefixOf_iff_prefix.1 h;unfold Lib.trimPrefix;rw [if_pos h,←ht];rfl
theorem nQ(c:UInt8)(w:World):Calls Tryz.prog 222 #[.int .u8 c.toNat] w fun e w'=>e=.returned (.bool (lV c))∧w=w':=by
 have hc:=c.toNat_lt;obtain⟨n,hn⟩:=ai c.toNat;unfold lV;rw [hn] at hc ⊢;clear hn;by_cases h1:48≤n
 ·have i1:(48:Int)≤(n:Int):=by omega
  by_cases h2:n≤57
  ·have i2:(n:Int)≤57:=by omega
   go_in;go_wp2_with fail;go_ret;exact⟨by simp [h1,h2],rfl⟩
  ·have i2:¬(n:Int)≤57:=by omega
   go_in;go_wp2_with fail;go_ret;exact⟨by simp,rfl⟩
 ·have i1:¬(48:Int)≤(n:Int):=by omega
  go_in;go_wp2_with fail;go_ret;exact⟨by simp,rfl⟩
theorem EC(mB tB:ByteArray)(hz:tB.size≤100000):∃ f hB pB qB k,GE (dJ (af mB) (af tB)) f hB pB qB k∧∀ w,G0 w→Calls Tryz.prog 223 #[.string mB,.string tB] w fun e w'=>e=.returned (.tuple #[.agg #[.int .i64 f,.string hB,.string pB,.string qB],.int .i64 k])∧Sm No w w':=by
 have H:=uE mB tB hz
 cases hT:dJ (af mB) (af tB) with
 |mk O c=>
  rw [hT] at H
  cases O with
  |none=>exact⟨0,⟨#[]⟩,⟨#[]⟩,⟨#[]⟩,c,rfl,fun w hg=>(H w hg).mono fun e w' h=>⟨h.2,h.1⟩⟩
  |some t=>exact⟨t.form,_,_,_,0,⟨rfl,rfl,rfl,rfl,rfl⟩,fun w hg=>(H w hg).mono fun e w' h=>⟨h.2,h.1⟩⟩
def jS(f:Nat)(h:Hd):Array Value:=#[.pointer (some ⟨f,0,none⟩),.string ⟨h.method.toArray⟩,.int .i64 h.target.form,.string ⟨h.target.host.toArray⟩,.string ⟨h.target.path.toArray⟩,.string ⟨h.target.query.toArray⟩,.int .i64 h.minor,.bool h.started,.int .i64 (h.empty:Nat),.int .i64 (h.bytes:Nat),.int .i64 h.how.kind,.int .i64 h.how.len,.bool h.how.close,.bool h.how.expect,.bool h.whole,.int .i64 h.status]
structure bl (w:World) (B g f:Nat) (v:Value) (h:Hd):Prop where
 bk:Bk w g 187 (jS f h)
 fs:aA w B f 214 v h.fields
 ne:f≠g
 own:v.ownBlock≠some g
theorem bl.no{w w':World}{B g f:Nat}{v:Value}{h:Hd}(hI:bl w B g f v h)(hs:Sm No w w'):bl w' B g f v h:=⟨hI.bk.sm hs (fun h=>h),hI.fs.no hs,hI.ne,hI.own⟩
theorem bl.of{w w':World}{B g f:Nat}{v:Value}{h h':Hd}(hI:bl w B g f v h)(hf:h'.fields=h.fields)(hs:Sm (fun x=>x=g) w w')(hb:Bk w' g 187 (jS f h')):bl w' B g f v h':=
 ⟨hb,by rw [hf];exact hI.fs.sm hs hI.ne (fun b hb e=>hI.own (by rw [hb,e])),hI.ne,hI.own⟩
def dR(w:World)(B g f:Nat)(v:Value)(p:Hd × Int)(e:Ending)(w':World):Prop:=
 e=.returned (.int .i64 p.2)∧bl w' B g f v p.1∧Sm (fun x=>x=g) w w'
theorem dR.no{w w':World}{B g f:Nat}{v:Value}{h:Hd}{c:Int}(hI:bl w B g f v h)(hs:Sm No w w'):dR w B g f v (h,c) (.returned (.int .i64 c)) w':=⟨rfl,hI.no hs,hs.any _⟩
theorem un(w:World)(B g f:Nat)(v:Value)(h:Hd)(s:ByteArray)(hg:G0 w)(hI:bl w B g f v h)(hs:s.size≤256)(hm0:h.minor=0):
 Calls Tryz.prog 197 #[.pointer (some ⟨g,0,none⟩),.string s] w (dR w B g f v (bH h (mR (af s)))):=by
 have HI:=aa hI;have HG0:=aa hg;have HM0:=aa hm0;have HW:=aa (Ai s (by omega) w hg);obtain⟨L,hL⟩:=ai (mR (af s));have HLen:=aa (show ∀ x∈L,x.length≤257 from fun x hx=>by rw [←hL] at hx;have:=ru hx;rw [ag] at this;omega);rw [hL] at HW ⊢;obtain⟨P,hP⟩:=ai (bH h L);rw [hP];have HP:=aa hP;have hgl:=hI.bk.lt;clear hI hL hP hg hm0;go_in;go_wp2_with fail;refine HW.out.mono ?_;rintro e w1 ⟨ps,hps,rfl,hR,hs1⟩;have hpl:ps.length=L.length:=by rw [←hps];simp [ar]
 by_cases h3:ps.length=3
 ·obtain⟨mB,tB,xB,rfl⟩:∃ a b c,ps=[a,b,c]:=by
   match ps,h3 with
   |[a,b,c],_=>exact⟨a,b,c,rfl⟩
  obtain⟨bb,off,hA0,hbb,r0⟩:=hR 0 (by simp);injection hA0 with hA0;injection hA0 with hA1 hA2;subst hA1 hA2;obtain⟨b2,o2,hA,_,r1⟩:=hR 1 (by simp);injection hA with hA;injection hA with hA1 hA2;subst hA1 hA2;obtain⟨b2,o2,hA,_,r2⟩:=hR 2 (by simp);injection hA with hA;injection hA with hA1 hA2;subst hA1 hA2;simp only [List.getElem_cons_zero,List.getElem_cons_succ,Nat.zero_add] at r0 r1 r2;have hLL:L=[af mB,af tB,af xB]:=by rw [←hps];rfl
  have hmz:mB.size≤257:=by have:=HLen.out (af mB) (by rw [hLL];simp);rw [ag] at this;exact this
  have htz:tB.size≤257:=by have:=HLen.out (af tB) (by rw [hLL];simp);rw [ag] at this;exact this
  have hxz:xB.size≤257:=by have:=HLen.out (af xB) (by rw [hLL];simp);rw [ag] at this;exact this
  have H1:=aa (ab hs1 hLL);rw [show ([mB,tB,xB]:List ByteArray).length=3 from rfl];clear hs1 hR hps hpl h3 hLL;obtain⟨tf,hf⟩:=ai (bo mB.data.toList);have HF:=aa hf;clear hf;go_wp2_with fail;refine(cU HF (by omega) _).mono ?_;rintro e w2 ⟨rfl,rfl⟩;have HTk:=aa (show bo (af mB)=tf from HF.out)
  cases tf with
  |false=>
   go_wp2_with fail;go_ret;rw [←HP.out,H1.out.2,jO HTk.out];exact dR.no HI.out H1.out.1
  |true=>
   have HNo:=aa (fun hv:(fg (af xB)).1=400=>show dR w B g f v P (.returned (.int .i64 400)) w1 from by
    rw [←HP.out,H1.out.2,gY HTk.out (by rw [hv];decide),hv];exact dR.no HI.out H1.out.1)
   have HCp:=Tryz.strings_CutPrefix xB ⟨#[72,84,84,80,47]⟩;obtain⟨pf,hpf⟩:=ai (Lib.hasPrefix (af xB) iZ);obtain⟨rB,hrB⟩:∃ rB:ByteArray,⟨(Lib.trimPrefix (af xB) iZ).toArray⟩=rB:=⟨_,rfl⟩;have HC:=aa (show ∀ w,Calls Tryz.prog 221 #[.string xB,.string ⟨#[72,84,84,80,47]⟩] w fun e w'=>e=.returned (.tuple #[.string rB,.bool pf])∧w=w' from fun w=>by rw [←hpf,←hrB];exact(HCp w).mono fun e w' h=>⟨h.1,h.2.symm⟩);have hrt:af rB=Lib.trimPrefix (af xB) iZ:=by rw [←hrB];rfl
   clear HCp hrB
   cases pf with
   |false=>
    have HV:=aa (HNo.out (by rw [uY hpf]));clear hpf hrt;go_wp2_with fail;refine(HC.out _).mono ?_;rintro e w2 ⟨rfl,rfl⟩;go_wp2_with fail;go_ret;exact HV.out
   |true=>
    have HX:=aa (show af xB=iZ++af rB from by rw [hrt];exact Bl hpf);have hrz:rB.size≤257:=by have:=congrArg List.length HX.out;rw [List.length_append,ag,ag] at this;omega
    clear hpf hrt;by_cases h3:rB.size=3
    ·have i3:(rB.size:Int)=3:=by omega
     obtain⟨d0,hd0⟩:∃ d,lV rB[0]=d:=⟨_,rfl⟩;obtain⟨d2,hd2⟩:∃ d,lV rB[2]=d:=⟨_,rfl⟩;have HD0:=aa (fun w:World=>hd0 ▸ nQ rB[0] w);have HD2:=aa (fun w:World=>hd2 ▸ nQ rB[2] w);have HVv:=aa (show fg (af xB)=if rB[1]=46 then (if d0=true∧d2=true then (if rB[0]=49 then ((0:Int),rB[2]) else (505,0)) else (400,0)) else (400,0) from by
      have e:af rB=[rB[0],rB[1],rB[2]]:=by
       refine List.ext_getElem ((ag rB).trans h3) (fun i h1 h2=> ?_)
       match i,h2 with
       |0,_=>rfl
       |1,_=>rfl
       |2,_=>rfl
      rw [HX.out,e,AX,hd0,hd2])
     clear hd0 hd2
     cases d0 with
     |false=>
      have HV:=aa (HNo.out (by
       rw [HVv.out];split
       ·rw [if_neg (by simp)]
       ·rfl))
      go_wp2_with fail;refine(HC.out _).mono ?_;rintro e w2 ⟨rfl,rfl⟩;go_wp2_with fail;refine(HD0.out _).mono ?_;rintro e w2 ⟨rfl,rfl⟩;go_wp2_with fail;go_ret;exact HV.out
     |true=>
      by_cases h6:rB[1]=46
      ·have e6:((rB[1].toNat:Int)==46)=true:=by rw [h6];rfl
       have e7:((rB[1].toNat:Int) != 46)=false:=by rw [h6];rfl
       have HV2:=aa (HVv.out.trans (if_pos h6));clear h6
       cases d2 with
       |false=>
        have HV:=aa (HNo.out (by rw [HV2.out,if_neg (by simp)]));go_wp2_with fail;refine(HC.out _).mono ?_;rintro e w2 ⟨rfl,rfl⟩;go_wp2_with fail;refine(HD0.out _).mono ?_;rintro e w2 ⟨rfl,rfl⟩;go_wp2_with fail;refine(HD2.out _).mono ?_;rintro e w2 ⟨rfl,rfl⟩;go_wp2_with fail;go_ret;exact HV.out
       |true=>
        by_cases h5:rB[0]=49
        ·have f5:((rB[0].toNat:Int)==49)=true:=by rw [h5];rfl
         have f6:((rB[0].toNat:Int) != 49)=false:=by rw [h5];rfl
         have HV3:=aa (show fg (af xB)=((0:Int),rB[2]) from by rw [HV2.out,if_pos ⟨rfl,rfl⟩,if_pos h5]);clear h5;obtain⟨tf,hB,pB,qB,k,hST,hcall⟩:=EC mB tB (by omega);have HCl:=aa hcall;have HST:=aa hST;clear hcall hST;go_wp2_with fail;refine(HC.out _).mono ?_;rintro e w2 ⟨rfl,rfl⟩;go_wp2_with fail;refine(HD0.out _).mono ?_;rintro e w2 ⟨rfl,rfl⟩;go_wp2_with fail;refine(HD2.out _).mono ?_;rintro e w2 ⟨rfl,rfl⟩;go_upto_region 9 with fail
         go_cut [8,9] from 58 to 67 (fun p e wx=>G7 w1 tf hB pB qB k p e wx)
         case first=>
          have hg1:=HG0.out.no H1.out.1;have r0d:w1.drew.cell? ⟨w.heap.size,0,none⟩=some (.string mB):=r0;have r1d:w1.drew.cell? ⟨w.heap.size,1,none⟩=some (.string tB):=r1
          go_region_held3 (fun w'=>w'.cell? ⟨w.heap.size,0,none⟩=some (.string mB)∧w'.cell? ⟨w.heap.size,1,none⟩=some (.string tB)) (first|with_reducible exact⟨r0,r1⟩|with_reducible exact⟨r0d,r1d⟩|with_reducible exact⟨r3,r4⟩|with_reducible exact⟨((Sm.refl No w1).alloc _).drew.cell hbb r0,((Sm.refl No w1).alloc _).drew.cell hbb r1⟩|with_reducible exact⟨(hs5.alloc _).cell hbb r0,(hs5.alloc _).cell hbb r1⟩|with_reducible exact⟨(((((hs5.alloc _).setN hs5.size 0 _).setN hs5.size 1 _).setN hs5.size 2 _).setN hs5.size 3 _).cell hbb r0,(((((hs5.alloc _).setN hs5.size 0 _).setN hs5.size 1 _).setN hs5.size 2 _).setN hs5.size 3 _).cell hbb r1⟩|with_reducible exact⟨((((hs6.setN (Nat.le_refl _) 0 _).setN (Nat.le_refl _) 1 _).setN (Nat.le_refl _) 2 _).setN (Nat.le_refl _) 3 _).cell hbb r0,((((hs6.setN (Nat.le_refl _) 0 _).setN (Nat.le_refl _) 1 _).setN (Nat.le_refl _) 2 _).setN (Nat.le_refl _) 3 _).cell hbb r1⟩)
           (first
            |(go_at_call 223;(with_reducible refine(HCl.out _ (hg1.no (Sm.refl No w1).drew)).mono ?_);rintro e w4 ⟨rfl,hs4⟩;have hs5:=(Sm.refl No w1).drew.tt hs4;have r3:=hs5.cell hbb r0;have r4:=hs5.cell hbb r1)
            |(go_at_call 223;(with_reducible refine(HCl.out _ (hg1.no ((Sm.refl No w1).alloc _).drew)).mono ?_);rintro e w4 ⟨rfl,hs4⟩;have hs6:=((Sm.refl No w1).alloc _).drew.tt hs4;have hb6:Bk w4 w1.heap.size 170 #[.int .i64 0,.string ⟨#[]⟩,.string ⟨#[]⟩,.string ⟨#[]⟩]:=(Bk.new w1 _ _).drew.sm hs4 (fun h=>h);have hl6:=hb6.lt;have hc6:=hb6.all;have hz6:=hb6.fz;have r3:=hs6.cell hbb r0;have r4:=hs6.cell hbb r1))
          ·go_wp2_with fail;go_meet;exact⟨_,rfl,hs5.size,hs5.alloc _,rfl,Bk.new w4 _ _⟩
          ·go_wp2_with fail;go_meet;exact⟨_,rfl,Nat.le_refl _,(((hs6.setN (Nat.le_refl _) 0 _).setN (Nat.le_refl _) 1 _).setN (Nat.le_refl _) 2 _).setN (Nat.le_refl _) 3 _,rfl,(((hb6.set 0 _).set 1 _).set 2 _).set 3 _⟩
         case rest=>
          obtain⟨wk,rfl⟩:∃ wk:World,wk=wc:=⟨_,rfl⟩;obtain⟨b,rfl,hb1,hs2,rfl,hbt⟩:=hcut;have hS:=HST.out;by_cases k0:k=0
          ·subst k0;obtain⟨tg,hg1,hg2⟩:=tV (h:=h) HTk.out (by rw [HV3.out]) hS;have hs12:=H1.out.1.tt hs2;have hbg:=HI.out.bk.sm hs12 (fun h=>h);unfold jS at hbg;have hbl:=Nat.le_trans H1.out.1.size hb1;have HG:=aa (ab hg1 (ab hg2 (ab hbg (ab hbt (ab hs12 hbl)))));have hne:b≠g:=by omega
           have hnb:w.heap.size≠g:=by omega
           have hgw:g < wk.heap.size:=hbg.lt;have hcg:=hbg.all;have hzg:=hbg.fz;have x0:wk.cell? ⟨w.heap.size,0,none⟩=some (.string mB):=hs2.cell hbb r0;have hbl2:=hbt.lt;have y0:=hbt.at 0 rfl;have y1:=hbt.at 1 rfl;have y2:=hbt.at 2 rfl;have y3:=hbt.at 3 rfl;have hbb2:=Nat.lt_of_lt_of_le hbb hs2.size;clear hS hg1 hg2 hbg hbt hs2 hs12 hb1;go_upto_region 15 with fail
           go_cut [] from 73 to 88 (fun wx=>Bk wx g 187 #[.pointer (some ⟨f,0,none⟩),.string mB,.int .i64 tf,.string hB,.string pB,.string qB,.int .i64 1,.bool true,.int .i64 (h.empty:Nat),.int .i64 (h.bytes:Nat),.int .i64 h.how.kind,.int .i64 h.how.len,.bool h.how.close,.bool h.how.expect,.bool h.whole,.int .i64 h.status]∧Sm (fun x=>x=g) wk wx)
           case first=>
            go_region
            all_goals
             go_wp2_with fail;go_meet;exact⟨(((((((HG.out.2.2.1.set 7 _).set 1 _).set 2 _).set 3 _).set 4 _).set 5 _).set 6 _).drew.eq rfl,(((((((Sm.refl _ wk).set1 7 _).set1 1 _).set1 2 _).set1 3 _).set1 4 _).set1 5 _).set1 6 _ |>.drew⟩
           case rest=>
            obtain⟨hbe,hse⟩:=hcut;have hgw:=hbe.lt;have hcg:=hbe.all;have hzg:=hbe.fz;have HE:=aa (ab hbe hse);have HFin:=aa (show ∀ (wf:World) (b7:UInt8) (mi:Int),rB[2]=b7→(if b7=48 then 0 else 1)=mi→Bk wf g 187 #[.pointer (some ⟨f,0,none⟩),.string mB,.int .i64 tf,.string hB,.string pB,.string qB,.int .i64 mi,.bool true,.int .i64 (h.empty:Nat),.int .i64 (h.bytes:Nat),.int .i64 h.how.kind,.int .i64 h.how.len,.bool h.how.close,.bool h.how.expect,.bool h.whole,.int .i64 h.status]→Sm (fun x=>x=g) wk wf→dR w B g f v P (.returned (.int .i64 0)) wf from fun wf b7 mi hb7 hmi hb hsf=>by
             obtain⟨e1,e2,e3,e4⟩:=HG.out.2.1;have hsw:Sm (fun x=>x=g) w wf:=(HG.out.2.2.2.2.1.any (fun x=>x=g)).tt hsf;rw [←HP.out,H1.out.2,HG.out.1];refine⟨rfl,HI.out.of rfl hsw (hb.eq ?_),hsw⟩;rw [e1,e2,e3,e4,←hmi,←hb7,←HM0.out,HV3.out,show mB=⟨(af mB).toArray⟩ from(iO mB).symm];rfl)
            clear hbe hse;obtain⟨b7,hb7⟩:=ai (rB[2]);have HB7:=aa hb7;by_cases h7:b7=48
            ·have f1:((b7.toNat:Int)==48)=true:=by rw [h7];rfl
             have f2:((b7.toNat:Int) != 48)=false:=by rw [h7];rfl
             have H7:=aa h7;clear h7;go_wp2_with fail;go_ret;exact HFin.out _ b7 _ HB7.out (if_pos H7.out) ((HE.out.1.set 6 _).eq rfl) (HE.out.2.tt ((Sm.refl _ _).set1 6 _))
            ·have f1:((b7.toNat:Int)==48)=false:=dq (n:=48) (by decide) h7;have f2:((b7.toNat:Int) != 48)=true:=by simpa using f1
             have H7:=aa h7;clear h7;go_wp2_with fail;go_ret;exact HFin.out _ b7 1 HB7.out (if_neg H7.out) HE.out.1 HE.out.2
          ·have e0:(k==0)=false:=by simp [k0]
           have e1:(k != 0)=true:=by simp [k0]
           have HB:=aa (uo (h:=h) HTk.out (by rw [HV3.out]) hS k0);have HS2:=aa (H1.out.1.tt hs2);clear hS hs2 hbt k0;by_cases k9:k=9
           ·subst k9;go_wp2_with fail;go_ret;rw [←HP.out,H1.out.2,HB.out,if_pos (by trivial)];exact dR.no HI.out HS2.out
           ·have e2:(k==9)=false:=by simp [k9]
            have HK9:=aa k9;clear k9;go_wp2_with fail;go_ret;rw [←HP.out,H1.out.2,HB.out,if_neg HK9.out];exact dR.no HI.out HS2.out
        ·have f5:((rB[0].toNat:Int)==49)=false:=dq (n:=49) (by decide) h5;have f6:((rB[0].toNat:Int) != 49)=true:=by simpa using f5
         have HV3:=aa (show fg (af xB)=(505,0) from by rw [HV2.out,if_pos ⟨rfl,rfl⟩,if_neg h5]);clear h5;go_wp2_with fail;refine(HC.out _).mono ?_;rintro e w2 ⟨rfl,rfl⟩;go_wp2_with fail;refine(HD0.out _).mono ?_;rintro e w2 ⟨rfl,rfl⟩;go_wp2_with fail;refine(HD2.out _).mono ?_;rintro e w2 ⟨rfl,rfl⟩;go_wp2_with fail;go_ret;rw [←HP.out,H1.out.2,gY HTk.out (by rw [HV3.out];decide),HV3.out];exact dR.no HI.out H1.out.1
      ·have e6:((rB[1].toNat:Int)==46)=false:=dq (n:=46) (by decide) h6;have e7:((rB[1].toNat:Int) != 46)=true:=by simpa using e6
       have HV:=aa (HNo.out (by rw [HVv.out,if_neg h6]));clear h6;go_wp2_with fail;refine(HC.out _).mono ?_;rintro e w2 ⟨rfl,rfl⟩;go_wp2_with fail;refine(HD0.out _).mono ?_;rintro e w2 ⟨rfl,rfl⟩;go_wp2_with fail;go_ret;exact HV.out
    ·have i3:((rB.size:Int) != 3)=true:=by simp;omega
     have i4:((rB.size:Int)==3)=false:=by simp;omega
     have HV:=aa (HNo.out (by rw [HX.out,pU (by rw [ag];exact h3)]));clear h3;go_wp2_with fail;refine(HC.out _).mono ?_;rintro e w2 ⟨rfl,rfl⟩;go_wp2_with fail;go_ret;exact HV.out
 ·obtain⟨n,hn⟩:=ai ps.length;rw [hn] at h3 hpl ⊢;have i3:((n:Int) != 3)=true:=by simp;omega
  have i4:((n:Int)==3)=false:=by simp;omega
  have HS:=aa (ab hs1 (show bH h L=(h,400) from jL (by rw [←hpl];exact h3)));clear hs1 hR hps hpl h3 hn;go_wp2_with fail;go_ret;rw [←HP.out,HS.out.2];exact dR.no HI.out HS.out.1
end Go.Proofs.YtadcjgopaadfjaaGreatDoor
