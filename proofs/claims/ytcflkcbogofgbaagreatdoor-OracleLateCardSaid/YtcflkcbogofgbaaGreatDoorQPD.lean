import Derived.Test.YtcflkcbogofgbaaGreatDoorQPB
import Derived.Test.YtcflkcbogofgbaaGreatDoorQPrsM
import Derived.Test.YtcflkcbogofgbaaGreatDoorQX
set_option maxHeartbeats 40000000
set_option maxRecDepth 100000
namespace Go.Proofs.YtcflkcbogofgbaaGreatDoor
open Go.RowKit Go.Proofs
theorem sI(b1 b2:Nat)(w:World):(invoke (.fn (.func 253) #[.pointer (some ⟨b1,0,none⟩),.pointer (some ⟨b2,0,none⟩)]) #[]).run Tryz.prog w=.ok (.enter 253 #[.pointer (some ⟨b1,0,none⟩),.pointer (some ⟨b2,0,none⟩)]) w:=by kernel_rfl
theorem fH{w:World}{b1:Nat}{v0 v1 v2 v3:Value}(h:Bk w b1 177 #[v0,v1,v2,v3]):(w.cell? ⟨b1,0,none⟩=some v0∧w.cell? ⟨b1,1,none⟩=some v1)∧w.cell? ⟨b1,2,none⟩=some v2∧w.cell? ⟨b1,3,none⟩=some v3:=⟨⟨h.at 0 rfl,h.at 1 rfl⟩,h.at 2 rfl,h.at 3 rfl⟩
theorem fY {tmps:Array Value} {w wx:World} {b1 b2:Nat} {v0 v1 v2 v3 s0:Value} {st:Int} {P:rn × Int} (h4:tmps[4]?=some (.pointer (some ⟨b1,0,none⟩))) (h5:tmps[5]?=some (.pointer (some ⟨b2,0,none⟩))) (hP:P=(nZ,st))
 (hs:Sm No w wx) (k1:Bk wx b1 177 #[v0,v1,v2,v3]) (k2:Bk wx b2 3 #[s0]) (hw1:w.heap.size≤b1) (hw2:w.heap.size≤b2) (hne:b1≠b2):
 Leaves Tryz.prog Tryz.f221 tmps (lx P w) [{target:=.fn (.func 253) #[.pointer (some ⟨b1,0,none⟩),.pointer (some ⟨b2,0,none⟩)],args:=#[]}] (.panicking (C6 st)) wx:=by
 refine leaves_cons (by simp) (sI b1 b2 wx) ?_;refine(zq b1 b2 v0 v1 v2 v3 s0 st [] wx k1 k2 hne).mono ?_;rintro e u' w' ⟨rfl,rfl,hs',k1',k2'⟩;have hc:=fH k1';have hd:=k2'.at 0 (v:=.int .i64 st) rfl;refine⟨.tuple #[mc nZ,.int .i64 st],?_,hs.fresh hs' (fun b e=>by rcases e with e|e<;>omega),by rw [hP]⟩;simp [results,Tryz.results221,go_sem,hc,hd,h4,h5];rfl
theorem D9 {tmps:Array Value} {w wx:World} {b1 b2:Nat} {k1 k2:Int} {c x:Bool} {P:rn × Int} (h4:tmps[4]?=some (.pointer (some ⟨b1,0,none⟩))) (h5:tmps[5]?=some (.pointer (some ⟨b2,0,none⟩))) (hP:P=(⟨k1,k2,c,x⟩,0))
 (hs:Sm No w wx) (h1:Bk wx b1 177 #[.int .i64 k1,.int .i64 k2,.bool c,.bool x]) (h2:Bk wx b2 3 #[.int .i64 0]):
 Leaves Tryz.prog Tryz.f221 tmps (lx P w) [{target:=.fn (.func 253) #[.pointer (some ⟨b1,0,none⟩),.pointer (some ⟨b2,0,none⟩)],args:=#[]}] .returning wx:=by
 refine leaves_cons (by simp) (sI b1 b2 wx) ?_;refine(xo _ _ wx).mono ?_;rintro e u' w' ⟨rfl,rfl,rfl⟩;have hc:=fH h1;have hd:=h2.at 0 (v:=.int .i64 0) rfl;refine⟨.tuple #[mc ⟨k1,k2,c,x⟩,.int .i64 0],?_,hs,by rw [hP]⟩;simp [results,Tryz.results221,go_sem,hc,hd,h4,h5];rfl
def EF(w:World)(b1 b2:Nat)(k1 k2:Int)(c x:Bool)(wx:World):Prop:=Sm No w wx∧Bk wx b1 177 #[.int .i64 k1,.int .i64 k2,.bool c,.bool x]∧Bk wx b2 3 #[.int .i64 0]
theorem EF.no{w w1 w2:World}{b1 b2:Nat}{k1 k2:Int}{c x:Bool}(h:EF w b1 b2 k1 k2 c x w1)(hs:Sm No w1 w2):EF w b1 b2 k1 k2 c x w2:=⟨h.1.tt hs,h.2.1.sm hs (fun h=>h),h.2.2.sm hs (fun h=>h)⟩
def Ir(T:Option (List af)):Int × Int:=match T with
 |none=>(0,400)
 |some l=>jb l
theorem lg(w:World)(A:Option Addr)(c:Nat)(r:List af)(x:ByteArray)(hR:ar w A (r.map aX))(hl:r.length≤100000)(q:Bool)(hq:r.any (·==ab x)=q):
 Calls Tryz.prog 69 #[.slice A r.length c,.string x] w fun e w'=>e=.returned (.bool q)∧w'=w:=by
 subst hq
 cases hr:r with
 |nil=>exact Tryz.slices_Contains_string_empty A c x w
 |cons y0 r0=>
  rw [←hr];obtain⟨bb,off,rfl,_,_⟩:=hR.at (j:=0) (u:=aX y0) (by rw [hr];rfl);have hC:=Tryz.slices_Contains_string bb off r.length c (r.map fun l=>(⟨l.toArray⟩:ByteArray)) x w (by simp) (by omega) (fun j hj=>by
   obtain⟨b3,o3,e3,_,h3⟩:=hR.at (j:=j) (u:=aX (r[j]'(by simpa using hj))) (by simp at hj;simp [hj]);injection e3 with e3;injection e3 with e4 e5;subst e4 e5;rw [h3];simp at hj;simp [List.getD,hj,aX])
  rw [List.take_of_length_le (by simp)] at hC;have e:=qY r (ab x);rw [show (⟨(ab x).toArray⟩:ByteArray)=x from ec x] at e;rw [e] at hC;exact hC
theorem EO(w:World)(B g:Nat)(v:Value)(l:List aJ)(minor:Int)(hm:minor=0∨minor=1)(hg:G0 w)(hF:aD w B g 195 v l)(hL:eo l):
 Calls Tryz.prog 221 #[.int .i64 minor,.pointer (some ⟨g,0,none⟩)] w (lx (eP minor l) w):=by
 have HF:=ns hF;have HL:=ns hL;have HG:=ns hg;obtain⟨fb,hfb⟩:=Iu (decide ((1:Int)≤minor));have HB:=ns (show (minor==1)=fb from by rcases hm with rfl|rfl<;>(rw [←hfb];rfl));have HM:=ns hm;obtain⟨P,hP⟩:=Iu (eP minor l);rw [hP];have HP:=ns hP;clear hF hL hm hP hg;have hmf:∀ (fn:Fn) (first cap:Array Value) (w:World),(Instr.makeFunc fn first cap).run Tryz.prog w=.ok (.func fn first cap) w:=fun _ _ _ _=>rfl
 go_enter_defers Tryz.func221,Tryz.ntmps221
 go_upto_region 2 with fail;clear hmf;obtain⟨b1,hb1⟩:=Iu w.heap.size;obtain⟨b2,hb2⟩:=Iu (b1+1);obtain⟨w1,hw1⟩:∃ w1,(w.alloc (.cells #[.int .i64 0,.int .i64 0,.bool false,.bool false] 177)).alloc (.cells #[.int .i64 0] 3)=w1:=⟨_,rfl⟩;have H1:=ns (show EF w b1 b2 0 0 false false w1 from by
  rw [←hw1];refine⟨((Sm.refl No w).alloc _).alloc _,Bk.alloc (Bk.newAt _ _ _ hb1.symm) _,?_⟩;exact Bk.newAt _ _ _ (by rw [←hb2,←hb1];exact(Array.size_push ..).symm))
 have HN:=ns (show b1≠b2∧w.heap.size≤b1∧w.heap.size≤b2 from by omega);rw [hw1,hb1,hb2];clear hw1 hb1 hb2;obtain⟨hs,hhs⟩:=Iu (ag l fV);have HV:=ig w1 B g v l fV (HF.out.no H1.out.1) HL.out.len HL.out.short (by decide);unfold bU at HV;rw [hhs] at HV;have HHs:=ns hhs;clear hhs;go_wp2_with fail;refine HV.mono ?_;clear HV hfb;rintro e w2 ⟨vs,rfl,hO,hs2⟩;obtain⟨A5,c5,rfl,hRw⟩:=hO.row;have H2:=ns (BT (H1.out.no hs2) hRw);clear hO hs2 hRw;go_upto_region 4 with fail
 go_cut [] from 14 to 26 (fun wx=>wx=w2∧(hs=[]∧fb=false∨∃ x,hs=[x]))
 case first=>
  rcases hs with _|⟨x,_|⟨y,r⟩⟩
  ·cases fb with
   |true=>
    go_wp2_with fail;refine(dd 400 _).mono ?_;rintro e w3 ⟨rfl,rfl⟩;exact fY rfl rfl (by rw [←HP.out];exact gW (by rw [HHs.out];show (!(minor==1))=false;rw [HB.out];rfl)) H2.out.1.1 H2.out.1.2.1 H2.out.1.2.2 HN.out.2.1 HN.out.2.2 HN.out.1
   |false=>
    go_wp2_with fail;refine(ci 400 _).mono ?_;rintro e w3 ⟨rfl,rfl⟩;go_wp2_with fail;go_meet;exact⟨by trivial,Or.inl ⟨by trivial,by trivial⟩⟩
  ·go_wp2_with fail;refine(ci 400 _).mono ?_;rintro e w3 ⟨rfl,rfl⟩;go_wp2_with fail;go_meet;exact⟨by trivial,Or.inr ⟨x,rfl⟩⟩
  ·have e2:¬(((x::y::r).length:Int)≤1):=by rw [List.length_cons,List.length_cons];omega
   have e1:=decide_eq_false e2;go_wp2_with fail;refine(dd 400 _).mono ?_;rintro e w3 ⟨rfl,rfl⟩;exact fY rfl rfl (by rw [←HP.out];exact gW (by rw [HHs.out];rfl)) H2.out.1.1 H2.out.1.2.1 H2.out.1.2.2 HN.out.2.1 HN.out.2.2 HN.out.1
 case rest=>
  obtain⟨rfl,hh⟩:=hcut;have HH:=ns hh;clear hh;go_upto_region 5 with fail
  go_cut [] from 27 to 42 (fun wy=>gv minor hs=true∧EF w b1 b2 0 0 false false wy)
  case first=>
   rcases HH.out with ⟨rfl,hf⟩|⟨x,rfl⟩
   ·have HFb:=ns hf;clear hf;go_wp2_with fail;refine(ci 400 _).mono ?_;rintro e w3 ⟨rfl,rfl⟩;go_wp2_with fail;go_meet;exact⟨by show (!(minor==1))=true;rw [HB.out,HFb.out];rfl,H2.out.1⟩
   ·obtain⟨bb,off,rfl,hbb,r0⟩:=H2.out.2 0 (by simp);rw [Nat.add_zero] at r0;rw [List.getElem_cons_zero] at r0;have hx:x.size≤100000:=by
     have:=(HL.out.light fV).size x (by rw [HHs.out];exact List.mem_singleton.2 rfl);omega
    obtain⟨f,hf⟩:=Iu (bR (ab x));have HFf:=ns hf;clear hf;have HE:=ns (show gv minor [x]=(x.size==0||f) from by rw [←HFf.out];rfl);by_cases hz:x.size=0
    ·have z1:x.toList=[]:=by rw [ByteArray.toList_eq];exact List.eq_nil_of_length_eq_zero (by simpa using hz)
     have HZ:=ns hz;clear hz;go_wp2_with fail;refine(ci 400 _).mono ?_;rintro e w3 ⟨rfl,rfl⟩;go_wp2_with fail;go_meet;exact⟨by rw [HE.out,HZ.out];rfl,H2.out.1⟩
    ·have z1:¬x.toList=[]:=by rw [ByteArray.toList_eq];exact fun e=>hz (by have:=congrArg List.length e;simpa using this)
     have z2:x.toList.isEmpty=false:=by
      cases h:x.toList with
      |nil=>exact absurd h z1
      |cons=>rfl
     have HE2:=ns (show gv minor [x]=f from by rw [HE.out];simp [hz]);clear hz;go_wp2_with fail;refine(jy HFf hx _).mono ?_;rintro e w3 ⟨rfl,hs3⟩;have H3:=ns (H2.out.1.no hs3);clear hs3
     cases f with
     |false=>
      go_wp2_with fail;refine(dd 400 _).mono ?_;rintro e w4 ⟨rfl,rfl⟩;exact fY rfl rfl (by rw [←HP.out];exact gW (by rw [HHs.out];exact HE2.out)) H3.out.1 H3.out.2.1 H3.out.2.2 HN.out.2.1 HN.out.2.2 HN.out.1
     |true=>
      go_wp2_with fail;refine(ci 400 _).mono ?_;rintro e w4 ⟨rfl,rfl⟩;go_wp2_with fail;go_meet;exact⟨HE2.out,H3.out⟩
  case rest=>
   obtain⟨hhw,hM⟩:=hcut;have HHw:=ns (show gv minor (ag l fV)=true from by rw [HHs.out];exact hhw);have H3:=ns hM;clear hhw hM;obtain⟨K,hK⟩:=Iu (bw minor l);have HK:=ns hK;clear hK;go_upto_block 0 with fail
   go_cut [] from 43 to 64 (fun wy=>K.2.2=0∧EF w b1 b2 K.1 K.2.1 false false wy)
   case first=>
    go_wp2_with fail;obtain⟨n1,hn1⟩:=Iu ((ag l fq).length);obtain⟨n2,hn2⟩:=Iu ((ag l cQ).length);have HN1:=ns hn1;have HN2:=ns hn2;have HasC:=fun (wx:World) (h:aD wx B g 195 v l)=>rA wx B g v l fq h HL.out.len HL.out.short (by decide);have HasL:=fun (wx:World) (h:aD wx B g 195 v l)=>rA wx B g v l cQ h HL.out.len HL.out.short (by decide);rw [hn1] at HasC;rw [hn2] at HasL;have HasC:=ns HasC;have HasL:=ns HasL;clear hn1 hn2;refine(HasC.out _ (HF.out.no H3.out.1)).mono ?_;rintro e w4 ⟨rfl,hs4⟩;have H4:=ns (H3.out.no hs4);clear hs4;by_cases h1:0 < n1
    ·have e1:=decide_eq_true h1;have HKC:=ns (show K=(2,0,iU minor (ag l cQ) (ag l fq)) from by rw [←HK.out];exact lV (by rw [HN1.out];exact h1));clear h1
     cases fb with
     |false=>
      have HC4:=ns (show iU minor (ag l cQ) (ag l fq)=400 from by
       unfold iU;rw [if_pos (Or.inl (by rcases HM.out with h|h;exact h;have:=HB.out;rw [h] at this;cases this))])
      go_wp2_with fail;refine(dd 400 _).mono ?_;rintro e w9 ⟨rfl,rfl⟩;exact fY rfl rfl (by rw [←HP.out];exact(by rw [dZ HHw.out (by rw [HK.out,HKC.out,HC4.out];decide),HK.out,HKC.out,HC4.out])) H4.out.1 H4.out.2.1 H4.out.2.2 HN.out.2.1 HN.out.2.2 HN.out.1
     |true=>
      go_wp2_with fail;refine(HasL.out _ (HF.out.no H4.out.1)).mono ?_;rintro e w5 ⟨rfl,hs5⟩;have H5:=ns (H4.out.no hs5);clear hs5;by_cases h2:0 < n2
      ·have e2:=decide_eq_true h2;have HC4:=ns (show iU minor (ag l cQ) (ag l fq)=400 from by
        unfold iU;rw [if_pos (Or.inr (by rw [HN2.out];exact h2))])
       clear h2;go_wp2_with fail;refine(dd 400 _).mono ?_;rintro e w9 ⟨rfl,rfl⟩;exact fY rfl rfl (by rw [←HP.out];exact(by rw [dZ HHw.out (by rw [HK.out,HKC.out,HC4.out];decide),HK.out,HKC.out,HC4.out])) H5.out.1 H5.out.2.1 H5.out.2.2 HN.out.2.1 HN.out.2.2 HN.out.1
      ·have e2:=decide_eq_false h2;have HC4:=ns (show iU minor (ag l cQ) (ag l fq)=match az (aj (ag l fq)) with|none=>400|some l=>gD l from by
        unfold iU;rw [if_neg (by rw [HN2.out];rintro(h|h);have:=HB.out;rw [h] at this;cases this;exact h2 h)];rfl)
       clear h2;go_wp2_with fail;refine(ci 400 _).mono ?_;rintro e w9 ⟨rfl,rfl⟩;go_wp2_with fail;have HTk:=oZ _ B g v l fq (HG.out.no H5.out.1) (HF.out.no H5.out.1) HL.out (by decide);obtain⟨T,hT⟩:=Iu (az (aj (ag l fq)));rw [hT] at HTk HC4;have HT:=ns hT;clear hT;refine HTk.mono ?_;clear HTk
       cases T with
       |none=>
        rintro e w6 ⟨hs6,rfl⟩;have H6:=ns (H5.out.no hs6);clear hs6;exact fY rfl rfl (by rw [←HP.out];exact(by rw [dZ HHw.out (by rw [HK.out,HKC.out,HC4.out];decide),HK.out,HKC.out,HC4.out])) H6.out.1 H6.out.2.1 H6.out.2.2 HN.out.2.1 HN.out.2.2 HN.out.1
       |some r=>
        rintro e w6 ⟨hs6,vT,rfl,hO⟩;obtain⟨A6,c6,rfl,hR6⟩:=hO.row2;have H6:=ns (BT (H5.out.no hs6) hR6);clear hO hs6 hR6;obtain⟨st,hst⟩:=Iu (gD r);have hrl:r.length≤100000:=by have:=(HL.out.light fq).many HT.out;omega
        have HCd:=za w6 A6 c6 r H6.out.2 hrl;rw [hst] at HCd;have HKK:=ns (show K=(2,0,st) from by rw [HKC.out,HC4.out];show (2,0,gD r)=_;rw [hst]);clear hst hrl;go_wp2_with fail;refine HCd.mono ?_;clear HCd;rintro e w7 ⟨rfl,⟨rfl,rfl⟩|⟨h7,rfl⟩⟩
        ·have hl:=(H6.out.1.2.1).lt;have hc:=fH H6.out.1.2.1;have hz:=(H6.out.1.2.1).fz;go_wp2_with fail;go_meet;rw [HKK.out];exact⟨rfl,H6.out.1.1.setN HN.out.2.1 _ _,H6.out.1.2.1.set 0 _,H6.out.1.2.2.far (Ne.symm HN.out.1) _⟩
        ·exact fY rfl rfl (by rw [←HP.out];exact(by rw [dZ HHw.out (by rw [HK.out,HKK.out];exact h7),HK.out,HKK.out])) H6.out.1.1 H6.out.1.2.1 H6.out.1.2.2 HN.out.2.1 HN.out.2.2 HN.out.1
    ·have e1:=decide_eq_false h1;have HK1:=ns (fun h=>lY (m:=minor) (fs:=l) (by rw [HN1.out];exact h1) h);have HK0:=ns (fun h=>nM (m:=minor) (fs:=l) (by rw [HN1.out];exact h1) h);clear h1;go_wp2_with fail;refine(HasL.out _ (HF.out.no H4.out.1)).mono ?_;rintro e w5 ⟨rfl,hs5⟩;have H5:=ns (H4.out.no hs5);clear hs5;by_cases h2:0 < n2
     ·have e2:=decide_eq_true h2;have HKC:=ns (show K=(1,(ke (ag l cQ)).1,(ke (ag l cQ)).2) from by rw [←HK.out];exact HK1.out (by rw [HN2.out];exact h2));clear h2;have HTk:=oZ w5 B g v l cQ (HG.out.no H5.out.1) (HF.out.no H5.out.1) HL.out (by decide);obtain⟨T,hT⟩:=Iu (az (aj (ag l cQ)));have HLw:=ns (show ke (ag l cQ)=Ir T from by rw [←hT];rfl);rw [hT] at HTk;have HT:=ns hT;clear hT;go_wp2_with fail;refine HTk.mono ?_;clear HTk
      cases T with
      |none=>
       rintro e w6 ⟨hs6,rfl⟩;have H6:=ns (H5.out.no hs6);clear hs6;exact fY rfl rfl (by rw [←HP.out];exact(by rw [dZ HHw.out (by rw [HK.out,HKC.out,HLw.out];decide),HK.out,HKC.out,HLw.out];rfl)) H6.out.1 H6.out.2.1 H6.out.2.2 HN.out.2.1 HN.out.2.2 HN.out.1
      |some r=>
       rintro e w6 ⟨hs6,vT,rfl,hO⟩;obtain⟨A6,c6,rfl,hR6⟩:=hO.row2;have H6:=ns (BT (H5.out.no hs6) hR6);clear hO hs6 hR6;obtain⟨R1,R2,hR⟩:∃ R1 R2,jb r=(R1,R2):=⟨_,_,rfl⟩;have hrl:r.length≤100000:=by have:=(HL.out.light cQ).many HT.out;omega
       have HCd:=uw w6 A6 c6 r H6.out.2 hrl (fun t ht=>by have:=(HL.out.light cQ).toks HT.out t ht;omega);rw [hR] at HCd;have HKK:=ns (show K=(1,R1,R2) from by rw [HKC.out,HLw.out];show (1,(jb r).1,(jb r).2)=_;rw [hR]);clear hR hrl;go_wp2_with fail;refine HCd.mono ?_;clear HCd;rintro e w7 ⟨hs7,⟨h7,rfl⟩|⟨h7,rfl⟩⟩
       ·have H7:=ns (H6.out.1.no hs7);have HR2:=ns h7;clear hs7 h7;have hl:=(H7.out.2.1).lt;have hc:=fH H7.out.2.1;have hz:=(H7.out.2.1).fz;go_wp2_with fail;go_meet;rw [HKK.out];exact⟨HR2.out,(H7.out.1.setN HN.out.2.1 _ _).setN HN.out.2.1 _ _,(H7.out.2.1.set 0 _).set 1 _,(H7.out.2.2.far (Ne.symm HN.out.1) _).far (Ne.symm HN.out.1) _⟩
       ·have H7:=ns (H6.out.1.no hs7);clear hs7;exact fY rfl rfl (by rw [←HP.out];exact(by rw [dZ HHw.out (by rw [HK.out,HKK.out];exact h7),HK.out,HKK.out])) H7.out.1 H7.out.2.1 H7.out.2.2 HN.out.2.1 HN.out.2.2 HN.out.1
     ·have e2:=decide_eq_false h2;have HKK:=ns (show K=(0,0,0) from by rw [←HK.out];exact HK0.out (by rw [HN2.out];exact h2));clear h2;go_wp2_with fail;go_meet;rw [HKK.out];exact⟨rfl,H5.out⟩
   case rest=>
    obtain⟨h3,hM⟩:=hcut;obtain⟨k1,k2,k3⟩:=K;dsimp only at h3 hM ⊢;subst h3;have H5:=ns hM;have HK3:=ns (show (bw minor l).2.2=0 from by rw [HK.out]);clear hM;have HTk:=oZ _ B g v l ji (HG.out.no H5.out.1) (HF.out.no H5.out.1) HL.out (by decide);obtain⟨T,hT⟩:=Iu (az (aj (ag l ji)));rw [hT] at HTk;have HT:=ns hT;clear hT;go_wp2_with fail;refine HTk.mono ?_;clear HTk
    cases T with
    |none=>
     rintro e w6 ⟨hs6,rfl⟩;have H6:=ns (H5.out.no hs6);clear hs6;exact fY rfl rfl (by rw [←HP.out];exact oX HHw.out HK3.out HT.out) H6.out.1 H6.out.2.1 H6.out.2.2 HN.out.2.1 HN.out.2.2 HN.out.1
    |some r=>
     rintro e w6 ⟨hs6,vT,rfl,hO⟩;obtain⟨A6,c6,rfl,hR6⟩:=hO.row2;have H6:=ns (BT (H5.out.no hs6) hR6);clear hO hs6 hR6;have hrl:r.length≤100000:=by have:=(HL.out.light ji).many HT.out;omega
     obtain⟨C,hC⟩:=Iu (ir minor (some r));have HC:=ns hC;have HRl:=ns hrl;clear hC hrl;go_upto_region 13 with fail
     go_cut [] from 67 to 78 (fun wy=>EF w b1 b2 k1 k2 C false wy)
     case first=>
      obtain⟨q1,hq1⟩:=Iu (ru (some r) xG);obtain⟨q2,hq2⟩:=Iu (ru (some r) Cs);have HQ:=ns (show C=(q1||(!fb&& !q2)) from by
       rw [←HC.out];unfold ir;rw [hq1,hq2,show (minor==0)= !fb from by rcases HM.out with h|h<;>(rw [←HB.out,h];rfl)])
      have HQ1:=lg w6 A6 c6 r ⟨#[99,108,111,115,101]⟩ H6.out.2 HRl.out q1 hq1;have HQ2:=lg w6 A6 c6 r ⟨#[107,101,101,112,45,97,108,105,118,101]⟩ H6.out.2 HRl.out q2 hq2;have HQ1:=ns HQ1;have HQ2:=ns HQ2;clear hq1 hq2;go_wp2_with fail;refine HQ1.out.mono ?_;rintro e w7 ⟨rfl,rfl⟩;have hl:=(H6.out.1.2.1).lt;have hc:=fH H6.out.1.2.1;have hz:=(H6.out.1.2.1).fz;have HFin:=ns (show EF w b1 b2 k1 k2 C false (w7.setCell ⟨b1,2,none⟩ (.bool C)) from⟨H6.out.1.1.setN HN.out.2.1 _ _,H6.out.1.2.1.set 2 _,H6.out.1.2.2.far (Ne.symm HN.out.1) _⟩)
      cases q1 with
      |true=>
       obtain rfl:C=true:=HQ.out;go_wp2_with fail;go_meet;exact HFin.out
      |false=>
       cases fb with
       |true=>
        obtain rfl:C=false:=HQ.out;go_wp2_with fail;go_meet;exact HFin.out
       |false=>
        obtain rfl:C= !q2:=HQ.out;go_wp2_with fail;refine HQ2.out.mono ?_;rintro e w8 ⟨rfl,rfl⟩;go_wp2_with fail;go_meet;exact HFin.out
     case rest=>
      have H7:=ns hcut;clear hcut;have HE:=ns (oL HHw.out HK3.out (by rw [HT.out];exact fun h=>by cases h));have HEF:=ns (fun x:Bool=>show ry minor l x=⟨k1,k2,C,x⟩ from by unfold ry;rw [HK.out,HT.out,HC.out]);obtain⟨n3,hn3⟩:=Iu ((ag l jo).length);have HN3:=ns hn3;have HasE:=fun (wx:World) (h:aD wx B g 195 v l)=>rA wx B g v l jo h HL.out.len HL.out.short (by decide);rw [hn3] at HasE;have HasE:=ns HasE;clear hn3
      cases fb with
      |false=>
       have HX:=ns (show P=(⟨k1,k2,C,false⟩,0) from by
        rw [←HP.out,HE.out,if_neg (fun h=>by have:=HB.out;rw [h.1] at this;cases this),HEF.out])
       have hl:=(H7.out.2.1).lt;have hc:=fH H7.out.2.1;have hz:=(H7.out.2.1).fz;have hl2:=(H7.out.2.2).lt;have hc2:=(H7.out.2.2).at 0 (v:=.int .i64 0) rfl;have hz2:=(H7.out.2.2).fz 0;have hne:=HN.out.1;go_wp2_with fail;exact D9 rfl rfl HX.out (((((H7.out.1.setN HN.out.2.1 _ _).setN HN.out.2.1 _ _).setN HN.out.2.1 _ _).setN HN.out.2.1 _ _).setN HN.out.2.2 _ _) (((((H7.out.2.1.set 0 _).set 1 _).set 2 _).set 3 _).far HN.out.1 _) (((((H7.out.2.2.far (Ne.symm HN.out.1) _).far (Ne.symm HN.out.1) _).far (Ne.symm HN.out.1) _).far (Ne.symm HN.out.1) _).set 0 _)
      |true=>
       go_wp2_with fail;refine(HasE.out _ (HF.out.no H7.out.1)).mono ?_;rintro e w8 ⟨rfl,hs8⟩;have H8:=ns (H7.out.no hs8);clear hs8;by_cases h3:0 < n3
       ·have e3:=decide_eq_true h3;have HE2:=ns (HE.out.trans (if_pos ⟨by rcases HM.out with h|h;(have:=HB.out;rw [h] at this;cases this);exact h,by rw [HN3.out];exact h3⟩));clear h3;go_wp2_with fail;have HGt:=yp w8 B g v l jo (HF.out.no H8.out.1) HL.out.len HL.out.short (by decide);obtain⟨t,ht⟩:∃ t:ByteArray,⟨(dN l jo).toArray⟩=t:=⟨_,rfl⟩;rw [ht] at HGt;have htl:t.data.toList=dN l jo:=by rw [←ht]
        have htz:t.size≤1000000:=by
         have h1:=nI HL.out jo;rw [←htl] at h1;have:t.data.toList.length=t.size:=by simp
         omega
        have HTl:=ns htl;clear ht htl;refine HGt.mono ?_;clear HGt;rintro e w9 ⟨rfl,hs9⟩;have H9:=ns (H8.out.no hs9);clear hs9;obtain⟨q,hq⟩:=Iu (bA (dN l jo) lf);have HSm:=uQ t ⟨#[49,48,48,45,99,111,110,116,105,110,117,101]⟩ htz (by decide) w9;rw [HTl.out,show bA (dN l jo) (⟨#[49,48,48,45,99,111,110,116,105,110,117,101]⟩:ByteArray).data.toList=q from hq] at HSm;have HQ:=ns hq;clear hq htz;go_wp2_with fail;refine HSm.mono ?_;clear HSm;rintro e w10 ⟨rfl,hs10⟩;have H10:=ns (H9.out.no hs10);clear hs10
        cases q with
        |false=>
         go_wp2_with fail;refine(dd 417 _).mono ?_;rintro e w9 ⟨rfl,rfl⟩;exact fY rfl rfl (by rw [←HP.out];exact(HE2.out.trans (if_pos HQ.out))) H10.out.1 H10.out.2.1 H10.out.2.2 HN.out.2.1 HN.out.2.2 HN.out.1
        |true=>
         have HE3:=ns (HE2.out.trans (if_neg (by rw [HQ.out];decide)));go_wp2_with fail;refine(ci 417 _).mono ?_;rintro e w11 ⟨rfl,rfl⟩;obtain⟨x,hx⟩:=Iu ((decide (k1=2)||decide (0 < k2)));have HX:=ns (show P=(⟨k1,k2,C,x⟩,0) from by rw [←HP.out,HE3.out,HEF.out,HK.out];dsimp only;rw [hx]);have H11:=ns (show EF w b1 b2 k1 k2 C x (w11.setCell ⟨b1,3,none⟩ (.bool x)) from⟨H10.out.1.setN HN.out.2.1 _ _,H10.out.2.1.set 3 _,H10.out.2.2.far (Ne.symm HN.out.1) _⟩);go_upto_region 16 with fail
         go_cut [] from 88 to 96 (fun wy=>EF w b1 b2 k1 k2 C x wy)
         case first=>
          have hl:=(H10.out.2.1).lt;have hc:=fH H10.out.2.1;have hz:=(H10.out.2.1).fz;by_cases hk1:k1=2
          ·have hxt:x=true:=by rw [←hx];simp [hk1]
           subst hxt hk1;clear hx;go_wp2_with fail;go_meet;exact H11.out
          ·have hxt:x=decide (0 < k2):=by rw [←hx];simp [hk1]
           have e1:(k1==2)=false:=by simp [hk1]
           subst hxt;clear hx hk1;go_wp2_with fail;go_meet;exact H11.out
         case rest=>
          have H12:=ns hcut;clear hcut hx;have hl:=(H12.out.2.1).lt;have hc:=fH H12.out.2.1;have hz:=(H12.out.2.1).fz;have hl2:=(H12.out.2.2).lt;have hc2:=(H12.out.2.2).at 0 (v:=.int .i64 0) rfl;have hz2:=(H12.out.2.2).fz 0;have hne:=HN.out.1;go_wp2_with fail;exact D9 rfl rfl HX.out (((((H12.out.1.setN HN.out.2.1 _ _).setN HN.out.2.1 _ _).setN HN.out.2.1 _ _).setN HN.out.2.1 _ _).setN HN.out.2.2 _ _) (((((H12.out.2.1.set 0 _).set 1 _).set 2 _).set 3 _).far HN.out.1 _) (((((H12.out.2.2.far (Ne.symm HN.out.1) _).far (Ne.symm HN.out.1) _).far (Ne.symm HN.out.1) _).far (Ne.symm HN.out.1) _).set 0 _)
       ·have e3:=decide_eq_false h3;have HX:=ns (show P=(⟨k1,k2,C,false⟩,0) from by
         rw [←HP.out,HE.out,if_neg (fun h=>h3 (by rw [←HN3.out];exact h.2)),HEF.out])
        clear h3;have hl:=(H8.out.2.1).lt;have hc:=fH H8.out.2.1;have hz:=(H8.out.2.1).fz;have hl2:=(H8.out.2.2).lt;have hc2:=(H8.out.2.2).at 0 (v:=.int .i64 0) rfl;have hz2:=(H8.out.2.2).fz 0;have hne:=HN.out.1;go_wp2_with fail;exact D9 rfl rfl HX.out (((((H8.out.1.setN HN.out.2.1 _ _).setN HN.out.2.1 _ _).setN HN.out.2.1 _ _).setN HN.out.2.1 _ _).setN HN.out.2.2 _ _) (((((H8.out.2.1.set 0 _).set 1 _).set 2 _).set 3 _).far HN.out.1 _) (((((H8.out.2.2.far (Ne.symm HN.out.1) _).far (Ne.symm HN.out.1) _).far (Ne.symm HN.out.1) _).far (Ne.symm HN.out.1) _).set 0 _)
theorem B1(s:af):cc 32 s=iR s:=by
 have h:∀ (l cur:af),bV 32 cur l=iQ cur l:=by
  intro l
  induction l with
  |nil=>intro cur;rfl
  |cons c l ih=>
   intro cur;rw [bV,iQ,ih,ih]
 exact h _ _
theorem AC(s:ByteArray)(hs:s.size≤1000000)(w:World)(hg:G0 w):
 Calls Tryz.prog 141 #[.string s,.string ⟨#[32]⟩] w fun e w'=>∃ ps:List ByteArray,aj ps=iR (ab s)∧e=.returned (.slice (some ⟨w.heap.size,0,none⟩) ps.length ps.length)∧
  fD w' (some ⟨w.heap.size,0,none⟩) ps∧Sm No w w':=by
 obtain⟨m,hm⟩:=hg;refine(Tryz.strings_Split s ⟨#[32]⟩ m w (by omega) hm (by decide)).mono fun e w' ⟨he,hw⟩=> ?_;have hlen:=Lib.splitB_all ⟨#[32]⟩ (by decide) 0 _ s rfl;refine⟨_,(pd 32 s).trans (B1 _),?_,?_,?_⟩
 ·rw [hlen];exact he
 ·intro k hk;subst hw;have hb:=Bk.new w 9 ((Lib.splitB ⟨#[32]⟩ 0 (Lib.countB s ⟨#[32]⟩) s).map Value.string).toArray;exact⟨w.heap.size,0,rfl,hb.lt,by rw [Nat.zero_add];exact hb.at k (by simp [hk])⟩
 ·rw [hw];exact(Sm.refl No w).alloc _
theorem DR(a m b:UInt8):dI (jc++[a,m,b])=if m=46 then (if jJ a=true∧jJ b=true then (if a=49 then ((0:Int),b) else (505,0)) else (400,0)) else (400,0):=by
 by_cases h:m=46
 ·subst h;rw [if_pos rfl];rfl
 ·rw [if_neg h,wn (l:=jc++[a,m,b]) rfl];exact if_neg (fun e=>h e.2)
theorem qZ{r:af}(h:¬r.length=3):dI (jc++r)=(400,0):=oH (by rw [List.length_append];show ¬5+r.length=8;omega)
theorem vO{l:af}(h:Lib.hasPrefix l jc=false):dI l=(400,0):=by
 by_cases h8:l.length=8
 ·rw [wn h8,if_neg];rintro⟨e,_⟩;have:jc <+:l:=⟨l.drop 5,by rw [←e];exact List.take_append_drop 5 l⟩;rw [show Lib.hasPrefix l jc=true from List.isPrefixOf_iff_prefix.2 this] at h
  cases h
 ·exact oH h8
theorem Ct{l:af}(h:Lib.hasPrefix l jc=true):l=jc++Lib.trimPrefix l jc:=by
 obtain⟨t,ht⟩:=List.isPrefixOf_iff_prefix.1 h;unfold Lib.trimPrefix;rw [if_pos h,←ht];rfl
theorem oV(c:UInt8)(w:World):Calls Tryz.prog 251 #[.int .u8 c.toNat] w fun e w'=>e=.returned (.bool (jJ c))∧w=w':=by
 have hc:=c.toNat_lt;obtain⟨n,hn⟩:=Iu c.toNat;unfold jJ;rw [hn] at hc ⊢;clear hn;by_cases h1:48≤n
 ·have i1:(48:Int)≤(n:Int):=by omega
  by_cases h2:n≤57
  ·have i2:(n:Int)≤57:=by omega
   go_in;go_wp2_with fail;go_ret;exact⟨by simp [h1,h2],rfl⟩
  ·have i2:¬(n:Int)≤57:=by omega
   go_in;go_wp2_with fail;go_ret;exact⟨by simp,rfl⟩
 ·have i1:¬(48:Int)≤(n:Int):=by omega
  go_in;go_wp2_with fail;go_ret;exact⟨by simp,rfl⟩
theorem FM(mB tB:ByteArray)(hz:tB.size≤100000):∃ f hB pB qB k,Io (cG (ab mB) (ab tB)) f hB pB qB k∧∀ w,G0 w→Calls Tryz.prog 252 #[.string mB,.string tB] w fun e w'=>e=.returned (.tuple #[.agg #[.int .i64 f,.string hB,.string pB,.string qB],.int .i64 k])∧Sm No w w':=by
 have H:=wu mB tB hz
 cases hT:cG (ab mB) (ab tB) with
 |mk O c=>
  rw [hT] at H
  cases O with
  |none=>exact⟨0,⟨#[]⟩,⟨#[]⟩,⟨#[]⟩,c,rfl,fun w hg=>(H w hg).mono fun e w' h=>⟨h.2,h.1⟩⟩
  |some t=>exact⟨t.form,_,_,_,0,⟨rfl,rfl,rfl,rfl,rfl⟩,fun w hg=>(H w hg).mono fun e w' h=>⟨h.2,h.1⟩⟩
def ly(f:Nat)(h:Hd):Array Value:=#[.pointer (some ⟨f,0,none⟩),.string ⟨h.method.toArray⟩,.int .i64 h.target.form,.string ⟨h.target.host.toArray⟩,.string ⟨h.target.path.toArray⟩,.string ⟨h.target.query.toArray⟩,.int .i64 h.minor,.bool h.started,.int .i64 (h.empty:Nat),.int .i64 (h.bytes:Nat),.int .i64 h.how.kind,.int .i64 h.how.len,.bool h.how.close,.bool h.how.expect,.bool h.whole,.int .i64 h.status]
structure bH (w:World) (B g f:Nat) (v:Value) (h:Hd):Prop where
 bk:Bk w g 181 (ly f h)
 fs:aD w B f 195 v h.fields
 ne:f≠g
 own:v.ownBlock≠some g
theorem bH.no{w w':World}{B g f:Nat}{v:Value}{h:Hd}(hI:bH w B g f v h)(hs:Sm No w w'):bH w' B g f v h:=⟨hI.bk.sm hs (fun h=>h),hI.fs.no hs,hI.ne,hI.own⟩
theorem bH.of{w w':World}{B g f:Nat}{v:Value}{h h':Hd}(hI:bH w B g f v h)(hf:h'.fields=h.fields)(hs:Sm (fun x=>x=g) w w')(hb:Bk w' g 181 (ly f h')):bH w' B g f v h':=
 ⟨hb,by rw [hf];exact hI.fs.sm hs hI.ne (fun b hb e=>hI.own (by rw [hb,e])),hI.ne,hI.own⟩
def eA(w:World)(B g f:Nat)(v:Value)(p:Hd × Int)(e:Ending)(w':World):Prop:=
 e=.returned (.int .i64 p.2)∧bH w' B g f v p.1∧Sm (fun x=>x=g) w w'
theorem eA.no{w w':World}{B g f:Nat}{v:Value}{h:Hd}{c:Int}(hI:bH w B g f v h)(hs:Sm No w w'):eA w B g f v (h,c) (.returned (.int .i64 c)) w':=⟨rfl,hI.no hs,hs.any _⟩
theorem vH(w:World)(B g f:Nat)(v:Value)(h:Hd)(s:ByteArray)(hg:G0 w)(hI:bH w B g f v h)(hs:s.size≤256)(hm0:h.minor=0):
 Calls Tryz.prog 220 #[.pointer (some ⟨g,0,none⟩),.string s] w (eA w B g f v (bz h (iR (ab s)))):=by
 have HI:=ns hI;have HG0:=ns hg;have HM0:=ns hm0;have HW:=ns (AC s (by omega) w hg);obtain⟨L,hL⟩:=Iu (iR (ab s));have HLen:=ns (show ∀ x∈L,x.length≤257 from fun x hx=>by rw [←hL] at hx;have:=ox hx;rw [ae] at this;omega);rw [hL] at HW ⊢;obtain⟨P,hP⟩:=Iu (bz h L);rw [hP];have HP:=ns hP;have hgl:=hI.bk.lt;clear hI hL hP hg hm0;go_in;go_wp2_with fail;refine HW.out.mono ?_;rintro e w1 ⟨ps,hps,rfl,hR,hs1⟩;have hpl:ps.length=L.length:=by rw [←hps];simp [aj]
 by_cases h3:ps.length=3
 ·obtain⟨mB,tB,xB,rfl⟩:∃ a b c,ps=[a,b,c]:=by
   match ps,h3 with
   |[a,b,c],_=>exact⟨a,b,c,rfl⟩
  obtain⟨bb,off,hA0,hbb,r0⟩:=hR 0 (by simp);injection hA0 with hA0;injection hA0 with hA1 hA2;subst hA1 hA2;obtain⟨b2,o2,hA,_,r1⟩:=hR 1 (by simp);injection hA with hA;injection hA with hA1 hA2;subst hA1 hA2;obtain⟨b2,o2,hA,_,r2⟩:=hR 2 (by simp);injection hA with hA;injection hA with hA1 hA2;subst hA1 hA2;simp only [List.getElem_cons_zero,List.getElem_cons_succ,Nat.zero_add] at r0 r1 r2;have hLL:L=[ab mB,ab tB,ab xB]:=by rw [←hps];rfl
  have hmz:mB.size≤257:=by have:=HLen.out (ab mB) (by rw [hLL];simp);rw [ae] at this;exact this
  have htz:tB.size≤257:=by have:=HLen.out (ab tB) (by rw [hLL];simp);rw [ae] at this;exact this
  have hxz:xB.size≤257:=by have:=HLen.out (ab xB) (by rw [hLL];simp);rw [ae] at this;exact this
  have H1:=ns (BT hs1 hLL);rw [show ([mB,tB,xB]:List ByteArray).length=3 from rfl];clear hs1 hR hps hpl h3 hLL;obtain⟨tf,hf⟩:=Iu (bP mB.data.toList);have HF:=ns hf;clear hf;go_wp2_with fail;refine(dq HF (by omega) _).mono ?_;rintro e w2 ⟨rfl,rfl⟩;have HTk:=ns (show bP (ab mB)=tf from HF.out)
  cases tf with
  |false=>
   go_wp2_with fail;go_ret;rw [←HP.out,H1.out.2,iD HTk.out];exact eA.no HI.out H1.out.1
  |true=>
   have HNo:=ns (fun hv:(dI (ab xB)).1=400=>show eA w B g f v P (.returned (.int .i64 400)) w1 from by
    rw [←HP.out,H1.out.2,eV HTk.out (by rw [hv];decide),hv];exact eA.no HI.out H1.out.1)
   have HCp:=Tryz.strings_CutPrefix xB ⟨#[72,84,84,80,47]⟩;obtain⟨pf,hpf⟩:=Iu (Lib.hasPrefix (ab xB) jc);obtain⟨rB,hrB⟩:∃ rB:ByteArray,⟨(Lib.trimPrefix (ab xB) jc).toArray⟩=rB:=⟨_,rfl⟩;have HC:=ns (show ∀ w,Calls Tryz.prog 250 #[.string xB,.string ⟨#[72,84,84,80,47]⟩] w fun e w'=>e=.returned (.tuple #[.string rB,.bool pf])∧w=w' from fun w=>by rw [←hpf,←hrB];exact(HCp w).mono fun e w' h=>⟨h.1,h.2.symm⟩);have hrt:ab rB=Lib.trimPrefix (ab xB) jc:=by rw [←hrB];rfl
   clear HCp hrB
   cases pf with
   |false=>
    have HV:=ns (HNo.out (by rw [vO hpf]));clear hpf hrt;go_wp2_with fail;refine(HC.out _).mono ?_;rintro e w2 ⟨rfl,rfl⟩;go_wp2_with fail;go_ret;exact HV.out
   |true=>
    have HX:=ns (show ab xB=jc++ab rB from by rw [hrt];exact Ct hpf);have hrz:rB.size≤257:=by have:=congrArg List.length HX.out;rw [List.length_append,ae,ae] at this;omega
    clear hpf hrt;by_cases h3:rB.size=3
    ·have i3:(rB.size:Int)=3:=by omega
     obtain⟨d0,hd0⟩:∃ d,jJ rB[0]=d:=⟨_,rfl⟩;obtain⟨d2,hd2⟩:∃ d,jJ rB[2]=d:=⟨_,rfl⟩;have HD0:=ns (fun w:World=>hd0 ▸ oV rB[0] w);have HD2:=ns (fun w:World=>hd2 ▸ oV rB[2] w);have HVv:=ns (show dI (ab xB)=if rB[1]=46 then (if d0=true∧d2=true then (if rB[0]=49 then ((0:Int),rB[2]) else (505,0)) else (400,0)) else (400,0) from by
      have e:ab rB=[rB[0],rB[1],rB[2]]:=by
       refine List.ext_getElem ((ae rB).trans h3) (fun i h1 h2=> ?_)
       match i,h2 with
       |0,_=>rfl
       |1,_=>rfl
       |2,_=>rfl
      rw [HX.out,e,DR,hd0,hd2])
     clear hd0 hd2
     cases d0 with
     |false=>
      have HV:=ns (HNo.out (by
       rw [HVv.out];split
       ·rw [if_neg (by simp)]
       ·rfl))
      go_wp2_with fail;refine(HC.out _).mono ?_;rintro e w2 ⟨rfl,rfl⟩;go_wp2_with fail;refine(HD0.out _).mono ?_;rintro e w2 ⟨rfl,rfl⟩;go_wp2_with fail;go_ret;exact HV.out
     |true=>
      by_cases h6:rB[1]=46
      ·have e6:((rB[1].toNat:Int)==46)=true:=by rw [h6];rfl
       have e7:((rB[1].toNat:Int) != 46)=false:=by rw [h6];rfl
       have HV2:=ns (HVv.out.trans (if_pos h6));clear h6
       cases d2 with
       |false=>
        have HV:=ns (HNo.out (by rw [HV2.out,if_neg (by simp)]));go_wp2_with fail;refine(HC.out _).mono ?_;rintro e w2 ⟨rfl,rfl⟩;go_wp2_with fail;refine(HD0.out _).mono ?_;rintro e w2 ⟨rfl,rfl⟩;go_wp2_with fail;refine(HD2.out _).mono ?_;rintro e w2 ⟨rfl,rfl⟩;go_wp2_with fail;go_ret;exact HV.out
       |true=>
        by_cases h5:rB[0]=49
        ·have f5:((rB[0].toNat:Int)==49)=true:=by rw [h5];rfl
         have f6:((rB[0].toNat:Int) != 49)=false:=by rw [h5];rfl
         have HV3:=ns (show dI (ab xB)=((0:Int),rB[2]) from by rw [HV2.out,if_pos ⟨rfl,rfl⟩,if_pos h5]);clear h5;obtain⟨tf,hB,pB,qB,k,hST,hcall⟩:=FM mB tB (by omega);have HCl:=ns hcall;have HST:=ns hST;clear hcall hST;go_wp2_with fail;refine(HC.out _).mono ?_;rintro e w2 ⟨rfl,rfl⟩;go_wp2_with fail;refine(HD0.out _).mono ?_;rintro e w2 ⟨rfl,rfl⟩;go_wp2_with fail;refine(HD2.out _).mono ?_;rintro e w2 ⟨rfl,rfl⟩;go_upto_region 9 with fail
         go_cut [8,9] from 58 to 67 (fun p e wx=>IS w1 tf hB pB qB k p e wx)
         case first=>
          have hg1:=HG0.out.no H1.out.1;have r0d:w1.drew.cell? ⟨w.heap.size,0,none⟩=some (.string mB):=r0;have r1d:w1.drew.cell? ⟨w.heap.size,1,none⟩=some (.string tB):=r1
          go_region_held3 (fun w'=>w'.cell? ⟨w.heap.size,0,none⟩=some (.string mB)∧w'.cell? ⟨w.heap.size,1,none⟩=some (.string tB)) (first|with_reducible exact⟨r0,r1⟩|with_reducible exact⟨r0d,r1d⟩|with_reducible exact⟨r3,r4⟩|with_reducible exact⟨((Sm.refl No w1).alloc _).drew.cell hbb r0,((Sm.refl No w1).alloc _).drew.cell hbb r1⟩|with_reducible exact⟨(hs5.alloc _).cell hbb r0,(hs5.alloc _).cell hbb r1⟩|with_reducible exact⟨(((((hs5.alloc _).setN hs5.size 0 _).setN hs5.size 1 _).setN hs5.size 2 _).setN hs5.size 3 _).cell hbb r0,(((((hs5.alloc _).setN hs5.size 0 _).setN hs5.size 1 _).setN hs5.size 2 _).setN hs5.size 3 _).cell hbb r1⟩|with_reducible exact⟨((((hs6.setN (Nat.le_refl _) 0 _).setN (Nat.le_refl _) 1 _).setN (Nat.le_refl _) 2 _).setN (Nat.le_refl _) 3 _).cell hbb r0,((((hs6.setN (Nat.le_refl _) 0 _).setN (Nat.le_refl _) 1 _).setN (Nat.le_refl _) 2 _).setN (Nat.le_refl _) 3 _).cell hbb r1⟩)
           (first
            |(go_at_call 252;(with_reducible refine(HCl.out _ (hg1.no (Sm.refl No w1).drew)).mono ?_);rintro e w4 ⟨rfl,hs4⟩;have hs5:=(Sm.refl No w1).drew.tt hs4;have r3:=hs5.cell hbb r0;have r4:=hs5.cell hbb r1)
            |(go_at_call 252;(with_reducible refine(HCl.out _ (hg1.no ((Sm.refl No w1).alloc _).drew)).mono ?_);rintro e w4 ⟨rfl,hs4⟩;have hs6:=((Sm.refl No w1).alloc _).drew.tt hs4;have hb6:Bk w4 w1.heap.size 59 #[.int .i64 0,.string ⟨#[]⟩,.string ⟨#[]⟩,.string ⟨#[]⟩]:=(Bk.new w1 _ _).drew.sm hs4 (fun h=>h);have hl6:=hb6.lt;have hc6:=hb6.all;have hz6:=hb6.fz;have r3:=hs6.cell hbb r0;have r4:=hs6.cell hbb r1))
          ·go_wp2_with fail;go_meet;exact⟨_,rfl,hs5.size,hs5.alloc _,rfl,Bk.new w4 _ _⟩
          ·go_wp2_with fail;go_meet;exact⟨_,rfl,Nat.le_refl _,(((hs6.setN (Nat.le_refl _) 0 _).setN (Nat.le_refl _) 1 _).setN (Nat.le_refl _) 2 _).setN (Nat.le_refl _) 3 _,rfl,(((hb6.set 0 _).set 1 _).set 2 _).set 3 _⟩
         case rest=>
          obtain⟨wk,rfl⟩:∃ wk:World,wk=wc:=⟨_,rfl⟩;obtain⟨b,rfl,hb1,hs2,rfl,hbt⟩:=hcut;have hS:=HST.out;by_cases k0:k=0
          ·subst k0;obtain⟨tg,hg1,hg2⟩:=mh (h:=h) HTk.out (by rw [HV3.out]) hS;have hs12:=H1.out.1.tt hs2;have hbg:=HI.out.bk.sm hs12 (fun h=>h);unfold ly at hbg;have hbl:=Nat.le_trans H1.out.1.size hb1;have HG:=ns (BT hg1 (BT hg2 (BT hbg (BT hbt (BT hs12 hbl)))));have hne:b≠g:=by omega
           have hnb:w.heap.size≠g:=by omega
           have hgw:g < wk.heap.size:=hbg.lt;have hcg:=hbg.all;have hzg:=hbg.fz;have x0:wk.cell? ⟨w.heap.size,0,none⟩=some (.string mB):=hs2.cell hbb r0;have hbl2:=hbt.lt;have y0:=hbt.at 0 rfl;have y1:=hbt.at 1 rfl;have y2:=hbt.at 2 rfl;have y3:=hbt.at 3 rfl;have hbb2:=Nat.lt_of_lt_of_le hbb hs2.size;clear hS hg1 hg2 hbg hbt hs2 hs12 hb1;go_upto_region 15 with fail
           go_cut [] from 73 to 88 (fun wx=>Bk wx g 181 #[.pointer (some ⟨f,0,none⟩),.string mB,.int .i64 tf,.string hB,.string pB,.string qB,.int .i64 1,.bool true,.int .i64 (h.empty:Nat),.int .i64 (h.bytes:Nat),.int .i64 h.how.kind,.int .i64 h.how.len,.bool h.how.close,.bool h.how.expect,.bool h.whole,.int .i64 h.status]∧Sm (fun x=>x=g) wk wx)
           case first=>
            go_region
            all_goals
             go_wp2_with fail;go_meet;exact⟨(((((((HG.out.2.2.1.set 7 _).set 1 _).set 2 _).set 3 _).set 4 _).set 5 _).set 6 _).drew.eq rfl,(((((((Sm.refl _ wk).set1 7 _).set1 1 _).set1 2 _).set1 3 _).set1 4 _).set1 5 _).set1 6 _ |>.drew⟩
           case rest=>
            obtain⟨hbe,hse⟩:=hcut;have hgw:=hbe.lt;have hcg:=hbe.all;have hzg:=hbe.fz;have HE:=ns (BT hbe hse);have HFin:=ns (show ∀ (wf:World) (b7:UInt8) (mi:Int),rB[2]=b7→(if b7=48 then 0 else 1)=mi→Bk wf g 181 #[.pointer (some ⟨f,0,none⟩),.string mB,.int .i64 tf,.string hB,.string pB,.string qB,.int .i64 mi,.bool true,.int .i64 (h.empty:Nat),.int .i64 (h.bytes:Nat),.int .i64 h.how.kind,.int .i64 h.how.len,.bool h.how.close,.bool h.how.expect,.bool h.whole,.int .i64 h.status]→Sm (fun x=>x=g) wk wf→eA w B g f v P (.returned (.int .i64 0)) wf from fun wf b7 mi hb7 hmi hb hsf=>by
             obtain⟨e1,e2,e3,e4⟩:=HG.out.2.1;have hsw:Sm (fun x=>x=g) w wf:=(HG.out.2.2.2.2.1.any (fun x=>x=g)).tt hsf;rw [←HP.out,H1.out.2,HG.out.1];refine⟨rfl,HI.out.of rfl hsw (hb.eq ?_),hsw⟩;rw [e1,e2,e3,e4,←hmi,←hb7,←HM0.out,HV3.out,show mB=⟨(ab mB).toArray⟩ from(ec mB).symm];rfl)
            clear hbe hse;obtain⟨b7,hb7⟩:=Iu (rB[2]);have HB7:=ns hb7;by_cases h7:b7=48
            ·have f1:((b7.toNat:Int)==48)=true:=by rw [h7];rfl
             have f2:((b7.toNat:Int) != 48)=false:=by rw [h7];rfl
             have H7:=ns h7;clear h7;go_wp2_with fail;go_ret;exact HFin.out _ b7 _ HB7.out (if_pos H7.out) ((HE.out.1.set 6 _).eq rfl) (HE.out.2.tt ((Sm.refl _ _).set1 6 _))
            ·have f1:((b7.toNat:Int)==48)=false:=aK (n:=48) (by decide) h7;have f2:((b7.toNat:Int) != 48)=true:=by simpa using f1
             have H7:=ns h7;clear h7;go_wp2_with fail;go_ret;exact HFin.out _ b7 1 HB7.out (if_neg H7.out) HE.out.1 HE.out.2
          ·have e0:(k==0)=false:=by simp [k0]
           have e1:(k != 0)=true:=by simp [k0]
           have HB:=ns (oo (h:=h) HTk.out (by rw [HV3.out]) hS k0);have HS2:=ns (H1.out.1.tt hs2);clear hS hs2 hbt k0;by_cases k9:k=9
           ·subst k9;go_wp2_with fail;go_ret;rw [←HP.out,H1.out.2,HB.out,if_pos (by trivial)];exact eA.no HI.out HS2.out
           ·have e2:(k==9)=false:=by simp [k9]
            have HK9:=ns k9;clear k9;go_wp2_with fail;go_ret;rw [←HP.out,H1.out.2,HB.out,if_neg HK9.out];exact eA.no HI.out HS2.out
        ·have f5:((rB[0].toNat:Int)==49)=false:=aK (n:=49) (by decide) h5;have f6:((rB[0].toNat:Int) != 49)=true:=by simpa using f5
         have HV3:=ns (show dI (ab xB)=(505,0) from by rw [HV2.out,if_pos ⟨rfl,rfl⟩,if_neg h5]);clear h5;go_wp2_with fail;refine(HC.out _).mono ?_;rintro e w2 ⟨rfl,rfl⟩;go_wp2_with fail;refine(HD0.out _).mono ?_;rintro e w2 ⟨rfl,rfl⟩;go_wp2_with fail;refine(HD2.out _).mono ?_;rintro e w2 ⟨rfl,rfl⟩;go_wp2_with fail;go_ret;rw [←HP.out,H1.out.2,eV HTk.out (by rw [HV3.out];decide),HV3.out];exact eA.no HI.out H1.out.1
      ·have e6:((rB[1].toNat:Int)==46)=false:=aK (n:=46) (by decide) h6;have e7:((rB[1].toNat:Int) != 46)=true:=by simpa using e6
       have HV:=ns (HNo.out (by rw [HVv.out,if_neg h6]));clear h6;go_wp2_with fail;refine(HC.out _).mono ?_;rintro e w2 ⟨rfl,rfl⟩;go_wp2_with fail;refine(HD0.out _).mono ?_;rintro e w2 ⟨rfl,rfl⟩;go_wp2_with fail;go_ret;exact HV.out
    ·have i3:((rB.size:Int) != 3)=true:=by simp;omega
     have i4:((rB.size:Int)==3)=false:=by simp;omega
     have HV:=ns (HNo.out (by rw [HX.out,qZ (by rw [ae];exact h3)]));clear h3;go_wp2_with fail;refine(HC.out _).mono ?_;rintro e w2 ⟨rfl,rfl⟩;go_wp2_with fail;go_ret;exact HV.out
 ·obtain⟨n,hn⟩:=Iu ps.length;rw [hn] at h3 hpl ⊢;have i3:((n:Int) != 3)=true:=by simp;omega
  have i4:((n:Int)==3)=false:=by simp;omega
  have HS:=ns (BT hs1 (show bz h L=(h,400) from iE (by rw [←hpl];exact h3)));clear hs1 hR hps hpl h3 hn;go_wp2_with fail;go_ret;rw [←HP.out,HS.out.2];exact eA.no HI.out HS.out.1
end Go.Proofs.YtcflkcbogofgbaaGreatDoor
