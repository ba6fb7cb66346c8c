import Derived.Test.YtcflkcbogofgbaaGreatDoorQQ
import Derived.Test.YtcflkcbogofgbaaGreatDoorQPrsG
set_option maxHeartbeats 40000000
set_option maxRecDepth 100000
namespace Go.Proofs.YtcflkcbogofgbaaGreatDoor
open Go.RowKit Go.Proofs
def mc(h:rn):Value:=.agg #[.int .i64 h.kind,.int .i64 h.len,.bool h.close,.bool h.expect]
def lx(p:rn × Int)(w:World)(e:Ending)(w':World):Prop:=Sm No w w'∧e=.returned (.tuple #[mc p.1,.int .i64 p.2])
theorem iF{w w1:World}{b0:Nat}{a b c d p q r x:Value}(hs:Sm No w w1)(hb:Bk w1 b0 66 #[a,b,c,d])(h0:w.heap.size≤b0):
 Sm No w ((((w1.setCell ⟨b0,0,none⟩ p).setCell ⟨b0,1,none⟩ q).setCell ⟨b0,2,none⟩ r).setCell ⟨b0,3,none⟩ x)∧Bk ((((w1.setCell ⟨b0,0,none⟩ p).setCell ⟨b0,1,none⟩ q).setCell ⟨b0,2,none⟩ r).setCell ⟨b0,3,none⟩ x) b0 66 #[p,q,r,x]:=
 ⟨hs.fresh (((((Sm.refl (fun b=>b=b0) w1).set1 0 p).set1 1 q).set1 2 r).set1 3 x) (fun b e=>by omega),(((hb.set 0 p).set 1 q).set 2 r).set 3 x⟩
theorem gW{m:Int}{fs:List aJ}(h:gv m (ag fs fV)=false):eP m fs=(nZ,400):=by unfold eP;rw [if_pos h]
theorem dZ{m:Int}{fs:List aJ}(h:gv m (ag fs fV)=true)(h1:(bw m fs).2.2≠0):eP m fs=(nZ,(bw m fs).2.2):=by unfold eP;rw [if_neg (by rw [h];decide),if_pos h1]
theorem oX{m:Int}{fs:List aJ}(h:gv m (ag fs fV)=true)(h1:(bw m fs).2.2=0)(h2:az (aj (ag fs ji))=none):eP m fs=(nZ,400):=by
 unfold eP;rw [if_neg (by rw [h];decide),if_neg (by rw [h1];decide),if_pos h2]
def ry(m:Int)(fs:List aJ)(x:Bool):rn:=⟨(bw m fs).1,(bw m fs).2.1,ir m (az (aj (ag fs ji))),x⟩
theorem oL{m:Int}{fs:List aJ}(h:gv m (ag fs fV)=true)(h1:(bw m fs).2.2=0)(h2:az (aj (ag fs ji))≠none):eP m fs=
 if m=1∧0 < (ag fs jo).length then (if bA (dN fs jo) lf=false then (nZ,417) else (ry m fs (decide ((bw m fs).1=2)||decide (0 < (bw m fs).2.1)),0)) else (ry m fs false,0):=by
 unfold eP;rw [if_neg (by rw [h];decide),if_neg (by rw [h1];decide),if_neg h2];rfl
theorem lV{m:Int}{fs:List aJ}(h:0 < (ag fs fq).length):bw m fs=(2,0,iU m (ag fs cQ) (ag fs fq)):=by unfold bw;rw [if_pos h]
theorem lY{m:Int}{fs:List aJ}(h:¬0 < (ag fs fq).length)(h1:0 < (ag fs cQ).length):bw m fs=(1,(ke (ag fs cQ)).1,(ke (ag fs cQ)).2):=by unfold bw;rw [if_neg h,if_pos h1]
theorem nM{m:Int}{fs:List aJ}(h:¬0 < (ag fs fq).length)(h1:¬0 < (ag fs cQ).length):bw m fs=(0,0,0):=by unfold bw;rw [if_neg h,if_neg h1]
section
variable {tt:TypeId} {tl:List Value}
def I2(w:World)(b0 b6:Nat)(K:Int × Int × Int)(s:Value)(wx:World):Prop:=
 s=.int .i64 K.2.2∧Sm No w wx∧Bk wx b0 66 #[.int .i64 0,.int .i64 0,.bool false,.bool false]∧Bk wx b6 66 #[.int .i64 K.1,.int .i64 K.2.1,.bool false,.bool false]
def I0(w:World)(b0 b6:Nat)(k1 k2:Int)(C:Bool)(wx:World):Prop:=
 Sm No w wx∧Bk wx b0 66 #[.int .i64 0,.int .i64 0,.bool false,.bool false]∧Bk wx b6 66 #[.int .i64 k1,.int .i64 k2,.bool C,.bool false]
theorem xJ{l:List aJ}{name:ByteArray}(h:∀ x∈l,x.2.size≤30000)(hl:l.length≤24):(dN l name).length≤900000:=by
 have hv:∀ x∈ag l name,x.size≤30000:=by
  intro x hx;unfold ag at hx;obtain⟨y,hy,rfl⟩:=List.mem_map.mp hx;exact h y (List.mem_filter.1 hy).1
 have hn:=gu l name;have hk:∀ xs:List ByteArray,(∀ x∈xs,x.size≤30000)→Lib.lens (xs.map (·.data.toList))≤30000 * xs.length:=by
  intro xs
  induction xs with
  |nil=>intro _;simp [Lib.lens]
  |cons x xs ih=>
   intro h;have h1:=ih (fun y hy=>h y (List.mem_cons_of_mem _ hy));have h2:=h x (List.mem_cons_self ..);have h3:x.data.toList.length=x.size:=by simp
   simp only [Lib.lens,List.map_cons,List.sum_cons,List.length_cons] at h1 ⊢;omega
 unfold dN
 cases hc:ag l name with
 |nil=>simp [Lib.join_nil]
 |cons x xs=>
  rw [hc] at hv hn;rw [List.map_cons,Lib.join_length];have:=hk (x::xs) hv;simp only [List.map_cons,List.length_cons,List.length_map] at this hn ⊢;have h2:iV.length=2:=rfl;rw [h2];omega
theorem nI{l:List aJ}(h:eo l)(nm:ByteArray):(dN l nm).length≤900000:=
 xJ (fun x hx=>by have:=rc hx;have:=h.size;omega) h.len
theorem EW(w:World)(B g:Nat)(v:Value)(l:List aJ)(minor:Int)(hm:minor=0∨minor=1)(hF:bi tt tl w B g v l)(hL:eo l):
 Calls Tryz.prog 173 #[.int .i64 minor,.pointer (some ⟨g,0,none⟩)] w (lx (eP minor l) w):=by
 have HF:=ns hF;have HL:=ns hL;have hmm:max 0 (min 1 minor)=minor:=by omega
 have HM:=ns hm;obtain⟨P,hP⟩:=Iu (eP minor l);rw [hP];have HP:=ns hP;clear hF hL hm hP;go_in;go_wp2_with fail;obtain⟨b0,hb0⟩:=Iu w.heap.size;obtain⟨w1,hw1⟩:∃ w1,w.alloc (.cells #[.int .i64 0,.int .i64 0,.bool false,.bool false] 66)=w1:=⟨_,rfl⟩;have hs1:Sm No w w1:=by rw [←hw1];exact(Sm.refl No w).alloc _
 have hb1:Bk w1 b0 66 #[.int .i64 0,.int .i64 0,.bool false,.bool false]:=by rw [←hw1,←hb0];exact Bk.new w _ _
 rw [hw1,hb0];have H1:=ns (BT hs1 (BT hb1 hb0));clear hs1 hb1 hw1 hb0 hmm;obtain⟨f,hf⟩:=Iu (gv minor (ag l fV));have HH:=wI w1 B g v l minor HM.out (HF.out.no H1.out.1) HL.out;rw [hf] at HH;have Hf:=ns hf;clear hf;refine HH.mono ?_;clear HH;rintro e w2 ⟨rfl,hs2⟩;have H2:=ns (BT (H1.out.1.tt hs2) (H1.out.2.1.sm hs2 (fun h=>h)));clear hs2
 cases f with
 |false=>
  have hl:=H2.out.2.lt;have hc:=H2.out.2.all;have hz:=H2.out.2.fz;go_wp2_with fail;have HT:=ns (iF (p:=.int .i64 0) (q:=.int .i64 0) (r:=.bool false) (x:=.bool false) H2.out.1 H2.out.2 (Nat.le_of_eq H1.out.2.2));have hc:=HT.out.2.all;exact bodyPost_ret (v:=.tuple #[.agg #[.int .i64 0,.int .i64 0,.bool false,.bool false],.int .i64 400]) (by simp [results,Tryz.results173,go_sem,hc]) rfl ⟨HT.out.1,by rw [←HP.out,gW Hf.out];exact rfl⟩
 |true=>
  go_upto_block 0 with fail;obtain⟨b6,hb6⟩:=Iu w2.heap.size;obtain⟨w3,hw3⟩:∃ w3,w2.alloc (.cells #[.int .i64 0,.int .i64 0,.bool false,.bool false] 66)=w3:=⟨_,rfl⟩;have hs3:Sm No w w3:=by rw [←hw3];exact H2.out.1.alloc _
  have hb3:Bk w3 b6 66 #[.int .i64 0,.int .i64 0,.bool false,.bool false]:=by rw [←hw3,←hb6];exact Bk.new w2 _ _
  have hb0:Bk w3 b0 66 #[.int .i64 0,.int .i64 0,.bool false,.bool false]:=by rw [←hw3];exact H2.out.2.alloc _
  have hn6:b6≠b0:=by have:=H2.out.2.lt;omega
  have hw6:w.heap.size≤b6:=by rw [←hb6];exact H2.out.1.size
  rw [hw3,hb6];have H3:=ns (BT hs3 (BT hb0 (BT hb3 (BT hn6 hw6))));clear hs3 hb3 hb0 hw3 hb6 hn6 hw6;obtain⟨K,hK⟩:=Iu (bw minor l);have HK:=ns hK;clear hK;have hn6:=H3.out.2.2.2.1
  go_cut [7] (fun s wx=>I2 w b0 b6 K s wx)
  case first=>
   go_wp2_with fail;have HV:=bY w3 B g v l fq (HF.out.no H3.out.1) HL.out.len HL.out.short (by decide);unfold bU at HV;obtain⟨n1,hn1⟩:=Iu ((ag l fq).length);have HN1:=ns hn1;refine HV.mono ?_;clear HV;rintro e w4 ⟨vs,rfl,hO,hs4⟩;obtain⟨A4,c4,rfl,_⟩:=hO.row;rw [hn1];have H4:=ns (BT (H3.out.1.tt hs4) (BT (H3.out.2.1.sm hs4 (fun h=>h)) (H3.out.2.2.1.sm hs4 (fun h=>h))));clear hO hs4 hn1;have HK1:=ns (fun h:0 < n1=>lV (m:=minor) (fs:=l) (by rw [HN1.out];exact h));have HK2:=ns (fun h:¬0 < n1=>lY (m:=minor) (fs:=l) (by rw [HN1.out];exact h));have HK3:=ns (fun h:¬0 < n1=>nM (m:=minor) (fs:=l) (by rw [HN1.out];exact h));rw [HK.out] at HK1 HK2 HK3;by_cases h1:0 < n1
   ·have i1:(0:Int) < (n1:Int):=by omega
    have e1:decide ((0:Int) < (n1:Int))=true:=by simpa using i1
    have HKK:=ns (HK1.out h1);clear h1;have hl:=H4.out.2.2.lt;have hc:=H4.out.2.2.all;have hz:=H4.out.2.2.fz;obtain⟨w5,hw5⟩:=Iu (w4.setCell ⟨b6,0,none⟩ (.int .i64 2));have hs5:Sm No w w5:=by rw [←hw5];exact H4.out.1.setN H3.out.2.2.2.2 _ _
    have hb5:Bk w5 b6 66 #[.int .i64 2,.int .i64 0,.bool false,.bool false]:=by rw [←hw5];exact H4.out.2.2.set 0 _
    have hb0:Bk w5 b0 66 #[.int .i64 0,.int .i64 0,.bool false,.bool false]:=by rw [←hw5];exact H4.out.2.1.far (Ne.symm hn6) _
    have HW5:=ns hw5;clear hw5;go_wp2_with fail;rw [HW5.out];refine(uG w5 B g v l minor HM.out (HF.out.no hs5) HL.out).mono ?_;rintro e w6 ⟨rfl,hs6⟩;go_wp2_with fail;go_meet;rw [HKK.out];exact⟨rfl,hs5.tt hs6,hb0.sm hs6 (fun h=>h),hb5.sm hs6 (fun h=>h)⟩
   ·have i1:¬(0:Int) < (n1:Int):=by omega
    have e1:decide ((0:Int) < (n1:Int))=false:=by simpa using i1
    have HKL:=ns (HK2.out h1);have HKN:=ns (HK3.out h1);clear h1;go_wp2_with fail;have HV:=bY w4 B g v l cQ (HF.out.no H4.out.1) HL.out.len HL.out.short (by decide);unfold bU at HV;obtain⟨n2,hn2⟩:=Iu ((ag l cQ).length);have HN2:=ns hn2;refine HV.mono ?_;clear HV;rintro e w5 ⟨vs,rfl,hO,hs5⟩;obtain⟨A5,c5,rfl,_⟩:=hO.row;rw [hn2];have H5:=ns (BT (H4.out.1.tt hs5) (BT (H4.out.2.1.sm hs5 (fun h=>h)) (H4.out.2.2.sm hs5 (fun h=>h))));clear hO hs5 hn2;by_cases h2:0 < n2
    ·have i2:(0:Int) < (n2:Int):=by omega
     have HKK:=ns (HKL.out (by rw [HN2.out];exact h2));clear h2;have hl:=H5.out.2.2.lt;have hc:=H5.out.2.2.all;have hz:=H5.out.2.2.fz;obtain⟨w6,hw6⟩:=Iu (w5.setCell ⟨b6,0,none⟩ (.int .i64 1));have hs6:Sm No w w6:=by rw [←hw6];exact H5.out.1.setN H3.out.2.2.2.2 _ _
     have hb6:Bk w6 b6 66 #[.int .i64 1,.int .i64 0,.bool false,.bool false]:=by rw [←hw6];exact H5.out.2.2.set 0 _
     have hb0:Bk w6 b0 66 #[.int .i64 0,.int .i64 0,.bool false,.bool false]:=by rw [←hw6];exact H5.out.2.1.far (Ne.symm hn6) _
     have HW6:=ns (BT hw6 (BT hs6 (BT hb0 hb6)));clear hw6 hs6 hb0 hb6;go_wp2_with fail;rw [HW6.out.1];refine(sj w6 B g v l (HF.out.no HW6.out.2.1) HL.out).mono ?_;rintro e w7 ⟨rfl,hs7⟩;obtain⟨R1,hR1⟩:=Iu ((ke (ag l cQ)).1);obtain⟨R2,hR2⟩:=Iu ((ke (ag l cQ)).2);rw [hR1,hR2];have HRR:=ns (show K=(1,R1,R2) from by rw [HKK.out,hR1,hR2]);have H7:=ns (BT (HW6.out.2.1.tt hs7) (BT (HW6.out.2.2.1.sm hs7 (fun h=>h)) (HW6.out.2.2.2.sm hs7 (fun h=>h))));clear hs7 hR1 hR2 hc hz hl;have hl:=H7.out.2.2.lt;have hc:=H7.out.2.2.all;have hz:=H7.out.2.2.fz;go_wp2_with fail;go_meet;rw [HRR.out];exact⟨rfl,H7.out.1.setN H3.out.2.2.2.2 _ _,H7.out.2.1.far (Ne.symm hn6) _,H7.out.2.2.set 1 _⟩
    ·have i2:¬(0:Int) < (n2:Int):=by omega
     have HKK:=ns (HKN.out (by rw [HN2.out];exact h2));clear h2;go_wp2_with fail;go_meet;rw [HKK.out];exact⟨rfl,H5.out⟩
  case rest=>
   obtain⟨hs7,hs5,hb0,hb6⟩:=hcut;subst hs7;obtain⟨k1,k2,k3⟩:=K;dsimp only at hb6 ⊢;have H5:=ns (BT hs5 (BT hb0 hb6));clear hs5 hb0 hb6;by_cases h3:k3=0
   ·subst h3;have HK3:=ns (show (bw minor l).2.2=0 from by rw [HK.out]);go_wp2_with fail;have HV:=bY wc B g v l ji (HF.out.no H5.out.1) HL.out.len HL.out.short (by decide);unfold bU at HV;obtain⟨ys,hys⟩:=Iu (ag l ji);rw [hys] at HV;have HLt:eT ys:=by rw [←hys];exact HL.out.light ji
    have HLt:=ns HLt;have HYs:=ns hys;refine HV.mono ?_;clear HV hys;rintro e w6 ⟨vs,rfl,hO,hs6⟩;obtain⟨A6,c6,rfl,hRw⟩:=hO.row;have H6:=ns (BT (H5.out.1.tt hs6) (BT (H5.out.2.1.sm hs6 (fun h=>h)) (BT (H5.out.2.2.sm hs6 (fun h=>h)) hRw)));clear hO hs6 hRw;go_wp2_with fail;refine(HLt.out.rTokens w6 A6 c6 H6.out.2.2.2).mono ?_;rintro e w7 (⟨r,vT,hr,rfl,hO,hs7⟩|⟨hr,rfl,hs7⟩)
    ·obtain⟨A7,c7,rfl,_⟩:=hO.row2;have H7:=ns (BT (H6.out.1.tt hs7) (BT (H6.out.2.1.sm hs7 (fun h=>h)) (BT (H6.out.2.2.1.sm hs7 (fun h=>h)) (H6.out.2.2.2.no hs7))));have HT:=ns (show az (aj (ag l ji))=some r from by rw [HYs.out];exact hr);have HTy:=ns hr;clear hO hs7 hr;obtain⟨C,hC⟩:=Iu (ir minor (some r));have HC:=ns hC;clear hC;go_upto_region 20 with fail
     go_cut [] (fun wx=>I0 w b0 b6 k1 k2 C wx)
     case first=>
      go_wp2_with fail;obtain⟨h1,hh1⟩:=Iu (ru (some r) xG);refine(qc (t:=⟨#[99,108,111,115,101]⟩) (b:=h1) (ns (by rw [HTy.out];exact hh1)) HLt.out (by decide) w7 A6 c6 H7.out.2.2.2).mono ?_;rintro e w8 ⟨rfl,hs8⟩;have H8:=ns (BT (H7.out.1.tt hs8) (BT (H7.out.2.1.sm hs8 (fun h=>h)) (BT (H7.out.2.2.1.sm hs8 (fun h=>h)) (H7.out.2.2.2.no hs8))));have HH1:=ns hh1;clear hs8 hh1
      cases h1 with
      |true=>
       have hCt:C=true:=by rw [←HC.out];unfold ir;rw [HH1.out];rfl
       subst hCt;have hl6:=(H8.out.2.2.1).lt;have hc6:=(H8.out.2.2.1).all;have hz6:=(H8.out.2.2.1).fz;go_wp2_with fail;go_meet;exact⟨H8.out.1.setN H3.out.2.2.2.2 _ _,H8.out.2.1.far (Ne.symm hn6) _,H8.out.2.2.1.set 2 _⟩
      |false=>
       rcases HM.out with hm0|hm0
       ·subst hm0;go_wp2_with fail;obtain⟨h2,hh2⟩:=Iu (ru (some r) Cs);refine(qc (t:=⟨#[107,101,101,112,45,97,108,105,118,101]⟩) (b:=h2) (ns (by rw [HTy.out];exact hh2)) HLt.out (by decide) w8 A6 c6 H8.out.2.2.2).mono ?_;rintro e w9 ⟨rfl,hs9⟩;have H9:=ns (BT (H8.out.1.tt hs9) (BT (H8.out.2.1.sm hs9 (fun h=>h)) (H8.out.2.2.1.sm hs9 (fun h=>h))));have hCt:C= !h2:=by rw [←HC.out];unfold ir;rw [HH1.out,hh2];rfl
        subst hCt;clear hs9 hh2;have hl6:=(H9.out.2.2).lt;have hc6:=(H9.out.2.2).all;have hz6:=(H9.out.2.2).fz;go_wp2_with fail;go_meet;exact⟨H9.out.1.setN H3.out.2.2.2.2 _ _,H9.out.2.1.far (Ne.symm hn6) _,H9.out.2.2.set 2 _⟩
       ·subst hm0;have hCt:C=false:=by rw [←HC.out];unfold ir;rw [HH1.out];rfl
        subst hCt;have hl6:=(H8.out.2.2.1).lt;have hc6:=(H8.out.2.2.1).all;have hz6:=(H8.out.2.2.1).fz;go_wp2_with fail;go_meet;exact⟨H8.out.1.setN H3.out.2.2.2.2 _ _,H8.out.2.1.far (Ne.symm hn6) _,H8.out.2.2.1.set 2 _⟩
     case rest=>
      obtain⟨hs8,hb0,hb6⟩:=hcut;have H8:=ns (BT hs8 (BT hb0 hb6));clear hs8 hb0 hb6;have HE:=ns (oL Hf.out HK3.out (by rw [HT.out];exact fun h=>by cases h));have HEF:=ns (fun x:Bool=>show mc (ry minor l x)=.agg #[.int .i64 k1,.int .i64 k2,.bool C,.bool x] from by unfold mc ry;rw [HK.out,HT.out,HC.out]);rcases HM.out with hm0|hm0
      ·subst hm0;have hl6:=(H8.out.2.2).lt;have hc6:=(H8.out.2.2).all;have hz6:=(H8.out.2.2).fz;have hl:=(H8.out.2.1).lt;have hc:=(H8.out.2.1).all;have hz:=(H8.out.2.1).fz;go_wp2_with fail;have HT:=ns (iF (p:=.int .i64 k1) (q:=.int .i64 k2) (r:=.bool C) (x:=.bool false) H8.out.1 H8.out.2.1 (Nat.le_of_eq H1.out.2.2));have hc:=HT.out.2.all;exact bodyPost_ret (v:=.tuple #[.agg #[.int .i64 k1,.int .i64 k2,.bool C,.bool false],.int .i64 0]) (by simp [results,Tryz.results173,go_sem,hc]) rfl ⟨HT.out.1,by rw [←HP.out,HE.out,if_neg (fun h=>absurd h.1 (by decide))];show _=Ending.returned (.tuple #[mc (ry 0 l false),.int .i64 0]);rw [HEF.out]⟩
      ·subst hm0;go_wp2_with fail;have HV:=bY wc B g v l jo (HF.out.no H8.out.1) HL.out.len HL.out.short (by decide);unfold bU at HV;obtain⟨n3,hn3⟩:=Iu ((ag l jo).length);have HN3:=ns hn3;refine HV.mono ?_;clear HV;rintro e w9 ⟨vs,rfl,hO,hs9⟩;obtain⟨A9,c9,rfl,_⟩:=hO.row;rw [hn3];have H9:=ns (BT (H8.out.1.tt hs9) (BT (H8.out.2.1.sm hs9 (fun h=>h)) (H8.out.2.2.sm hs9 (fun h=>h))));clear hO hs9 hn3;by_cases h9:0 < n3
       ·have i9:(0:Int) < (n3:Int):=by omega
        have HE2:=ns (HE.out.trans (if_pos ⟨by trivial,by rw [HN3.out];exact h9⟩));clear h9;go_wp2_with fail;refine(AZ w9 B g v l jo (HF.out.no H9.out.1) HL.out.len HL.out.short (by decide)).mono ?_;rintro e w10 ⟨t,ht,rfl,hs10⟩;have H10:=ns (BT (H9.out.1.tt hs10) (BT (H9.out.2.1.sm hs10 (fun h=>h)) (H9.out.2.2.sm hs10 (fun h=>h))));have HTt:=ns ht;have htz:t.size≤1000000:=by
         have h1:=nI HL.out jo;rw [←ht] at h1;have:t.data.toList.length=t.size:=by simp
         omega
        clear hs10 ht;go_wp2_with fail;obtain⟨q,hq⟩:=Iu (bA (dN l jo) lf);refine(fJ (t:=⟨#[49,48,48,45,99,111,110,116,105,110,117,101]⟩) (r:=q) (ns (by rw [HTt.out];exact hq)) htz (by decide) w10).mono ?_;rintro e w11 ⟨rfl,hs11⟩;have H11:=ns (BT (H10.out.1.tt hs11) (BT (H10.out.2.1.sm hs11 (fun h=>h)) (H10.out.2.2.sm hs11 (fun h=>h))));have HQ:=ns hq;clear hs11 hq
        cases q with
        |false=>
         have hl:=(H11.out.2.1).lt;have hc:=(H11.out.2.1).all;have hz:=(H11.out.2.1).fz;go_wp2_with fail;have HT:=ns (iF (p:=.int .i64 0) (q:=.int .i64 0) (r:=.bool false) (x:=.bool false) H11.out.1 H11.out.2.1 (Nat.le_of_eq H1.out.2.2));have hc:=HT.out.2.all;exact bodyPost_ret (v:=.tuple #[.agg #[.int .i64 0,.int .i64 0,.bool false,.bool false],.int .i64 417]) (by simp [results,Tryz.results173,go_sem,hc]) rfl ⟨HT.out.1,by rw [←HP.out,HE2.out,if_pos HQ.out];exact rfl⟩
        |true=>
         obtain⟨x,hx⟩:=Iu ((decide (k1=2)||decide (0 < k2)));obtain⟨w12,hw12⟩:=Iu (w11.setCell ⟨b6,3,none⟩ (.bool x));have H12:=ns (show Sm No w w12∧Bk w12 b0 66 #[.int .i64 0,.int .i64 0,.bool false,.bool false]∧Bk w12 b6 66 #[.int .i64 k1,.int .i64 k2,.bool C,.bool x] from by
          rw [←hw12];exact⟨H11.out.1.setN H3.out.2.2.2.2 _ _,H11.out.2.1.far (Ne.symm hn6) _,H11.out.2.2.set 3 _⟩)
         have HW:=ns hw12;have HX:=ns (show (decide ((bw 1 l).1=2)||decide (0 < (bw 1 l).2.1))=x from by rw [HK.out];exact hx);clear hw12;go_upto_region 24 with fail
         go_cut [] (fun wx=>wx=w12)
         case first=>
          have hl6:=(H11.out.2.2).lt;have hc6:=(H11.out.2.2).all;have hz6:=(H11.out.2.2).fz;by_cases hk1:k1=2
          ·have hxt:x=true:=by rw [←hx];simp [hk1]
           subst hxt hk1;clear hx;go_wp2_with fail;go_meet;exact HW.out
          ·have hxt:x=decide (0 < k2):=by rw [←hx];simp [hk1]
           have e1:(k1==2)=false:=by simp [hk1]
           subst hxt;clear hx hk1;go_wp2_with fail;go_meet;exact HW.out
         case rest=>
          subst hcut;have hl6:=(H12.out.2.2).lt;have hc6:=(H12.out.2.2).all;have hz6:=(H12.out.2.2).fz;have hl:=(H12.out.2.1).lt;have hc:=(H12.out.2.1).all;have hz:=(H12.out.2.1).fz;go_wp2_with fail;have HT:=ns (iF (p:=.int .i64 k1) (q:=.int .i64 k2) (r:=.bool C) (x:=.bool x) H12.out.1 H12.out.2.1 (Nat.le_of_eq H1.out.2.2));have hc:=HT.out.2.all;exact bodyPost_ret (v:=.tuple #[.agg #[.int .i64 k1,.int .i64 k2,.bool C,.bool x],.int .i64 0]) (by simp [results,Tryz.results173,go_sem,hc]) rfl ⟨HT.out.1,by rw [←HP.out,HE2.out,if_neg (by rw [HQ.out];decide),HX.out];show _=Ending.returned (.tuple #[mc (ry 1 l x),.int .i64 0]);rw [HEF.out]⟩
       ·have i9:¬(0:Int) < (n3:Int):=by omega
        have HE2:=ns (HE.out.trans (if_neg (fun h=>h9 (by rw [←HN3.out];exact h.2))));clear h9;have hl6:=(H9.out.2.2).lt;have hc6:=(H9.out.2.2).all;have hz6:=(H9.out.2.2).fz;have hl:=(H9.out.2.1).lt;have hc:=(H9.out.2.1).all;have hz:=(H9.out.2.1).fz;go_wp2_with fail;have HT:=ns (iF (p:=.int .i64 k1) (q:=.int .i64 k2) (r:=.bool C) (x:=.bool false) H9.out.1 H9.out.2.1 (Nat.le_of_eq H1.out.2.2));have hc:=HT.out.2.all;exact bodyPost_ret (v:=.tuple #[.agg #[.int .i64 k1,.int .i64 k2,.bool C,.bool false],.int .i64 0]) (by simp [results,Tryz.results173,go_sem,hc]) rfl ⟨HT.out.1,by rw [←HP.out,HE2.out];show _=Ending.returned (.tuple #[mc (ry 1 l false),.int .i64 0]);rw [HEF.out]⟩
    ·have H7:=ns (BT (H6.out.1.tt hs7) (H6.out.2.1.sm hs7 (fun h=>h)));have HTn:=ns (show az (aj (ag l ji))=none from by rw [HYs.out];exact hr);clear hs7 hr;have hl:=(H7.out.2).lt;have hc:=(H7.out.2).all;have hz:=(H7.out.2).fz;go_wp2_with fail;have HT:=ns (iF (p:=.int .i64 0) (q:=.int .i64 0) (r:=.bool false) (x:=.bool false) H7.out.1 H7.out.2 (Nat.le_of_eq H1.out.2.2));have hc:=HT.out.2.all;exact bodyPost_ret (v:=.tuple #[.agg #[.int .i64 0,.int .i64 0,.bool false,.bool false],.int .i64 400]) (by simp [results,Tryz.results173,go_sem,hc]) rfl ⟨HT.out.1,by rw [←HP.out,oX Hf.out HK3.out HTn.out];exact rfl⟩
   ·have e3:(k3==0)=false:=by simp [h3]
    have e4:(k3 != 0)=true:=by simp [h3]
    have HK3:=ns (show (bw minor l).2.2≠0 from by rw [HK.out];exact h3);clear h3;have hl:=(H5.out.2.1).lt;have hc:=(H5.out.2.1).all;have hz:=(H5.out.2.1).fz;go_wp2_with fail;have HT:=ns (iF (p:=.int .i64 0) (q:=.int .i64 0) (r:=.bool false) (x:=.bool false) H5.out.1 H5.out.2.1 (Nat.le_of_eq H1.out.2.2));have hc:=HT.out.2.all;exact bodyPost_ret (v:=.tuple #[.agg #[.int .i64 0,.int .i64 0,.bool false,.bool false],.int .i64 k3]) (by simp [results,Tryz.results173,go_sem,hc]) rfl ⟨HT.out.1,by rw [←HP.out,dZ Hf.out HK3.out,HK.out];exact rfl⟩
end
end Go.Proofs.YtcflkcbogofgbaaGreatDoor
