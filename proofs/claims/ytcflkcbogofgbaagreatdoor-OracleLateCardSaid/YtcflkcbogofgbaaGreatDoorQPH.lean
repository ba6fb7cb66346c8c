import Derived.Test.YtcflkcbogofgbaaGreatDoorQPG
import Derived.Test.YtcflkcbogofgbaaGreatDoorQM
set_option maxHeartbeats 32000000
set_option maxRecDepth 100000
namespace Go.Proofs.YtcflkcbogofgbaaGreatDoor
open Go.RowKit Go.Proofs
def Gc(w:World)(R:Nat→Prop)(x:Hd × af)(v:Value):Prop:=
 ∃ A1 c1 A2 c2,v=FV (GV (Ds x.1 x.2)) A1 c1 A2 c2∧dM w A1 x.1.fields∧(A1=none→x.1.fields.length=0∧c1=0)∧ar w A2 (bC x.2)∧(A2=none→x.2.length=0∧c2=0)∧(∀ a,A1=some a→R a.block)∧(∀ a,A2=some a→R a.block)∧x.1.fields.length≤c1∧x.2.length≤c2
def zH(w:World)(O:Nat→Prop)(g:Nat)(x:Hd × af)(e:Ending)(w':World):Prop:=
 ∃ v R P,e=.returned (.tuple #[v,.int .i64 0])∧Gc w' R x v∧cx w' P g .idle∧(∀ y,P y→y=g∨w.heap.size≤y)∧(∀ y,R y→aA O w w' y∧¬P y)∧Sm O w w'
def AL:Array Value:=#[.string ⟨#[]⟩,.int .i64 0,.string ⟨#[]⟩,.string ⟨#[]⟩,.string ⟨#[]⟩,.int .i64 0,.slice none 0 0,.slice none 0 0,.bool false,.bool false]
theorem CL:(Tryz.prog.info? 175).map (·.size)=some 8:=by kernel_rfl
theorem rH:(Tryz.prog.info? 62).map (·.size)=some 10:=by kernel_rfl
theorem Bk.setRow{w:World}{g:Nat}{t:TypeId}{old:Array Value}(h:Bk w g t old)(cs:Array Value):Bk (w.setRow g cs) g t cs:=setRow_heap w g old cs t _ h
theorem Eo(w:World)(O:Nat→Prop)(g:Nat)(s:cu)(hI:cx w O g s)(hp:s.phase≠3):
 Calls Tryz.prog 58 #[.pointer (some ⟨g,0,none⟩)] w fun e w'=>e=.returned (.tuple #[.agg AL,.int .i64 4])∧Sm No w w':=by
 obtain⟨ln,hd,left,vB,ch,fed,hK⟩:=hI.cells;have hgl:=Bk.lt hK;obtain⟨ph,hph⟩:=Iu s.phase;rw [hph] at hK hp;have hc:=Bk.at hK 0 (v:=.int .i64 ph) rfl;have e1:(ph != 3)=true:=by simpa using hp
 clear hK hph hI;unfold AL;go_in;go_wp2_with fail;have hb:=Bk.new w 62 #[.string ⟨#[]⟩,.int .i64 0,.string ⟨#[]⟩,.string ⟨#[]⟩,.string ⟨#[]⟩,.int .i64 0,.slice none 0 0,.slice none 0 0,.bool false,.bool false];have hc2:=hb.all;exact bodyPost_ret (v:=.tuple #[.agg #[.string ⟨#[]⟩,.int .i64 0,.string ⟨#[]⟩,.string ⟨#[]⟩,.string ⟨#[]⟩,.int .i64 0,.slice none 0 0,.slice none 0 0,.bool false,.bool false],.int .i64 4]) (by simp [results,Tryz.results58,go_sem,hc2]) rfl ⟨rfl,(Sm.refl No w).alloc _⟩
theorem yY(w:World)(O:Nat→Prop)(g:Nat)(h:Hd)(B:af)(hI:cx w O g (.whole h B))(ho:bI (.whole h B)):
 Calls Tryz.prog 58 #[.pointer (some ⟨g,0,none⟩)] w (zH w O g (h,B)):=by
 obtain⟨⟨gh,gf,vF,ln,left,vB,ch,fed,hK,hh,hB,hBo⟩,og,lt⟩:=hI;obtain⟨A2,c2,rfl,hR2,hc2,hn2⟩:=hB.row;have hgl:=Bk.lt hK;have hc:=Bk.all hK;have hz:=Bk.fz hK;unfold bg at hc;have hf1:h.fields.length≤24:=ho.1.ok.len;have H:=ns (BT hK (BT hh (BT hB (BT hBo (BT og (BT lt (BT hR2 (BT hc2 hn2))))))));obtain⟨w1,hw1⟩:∃ w1,w.alloc (.cells #[.string ⟨#[]⟩,.int .i64 0,.string ⟨#[]⟩,.string ⟨#[]⟩,.string ⟨#[]⟩,.int .i64 0,.slice none 0 0,.slice none 0 0,.bool false,.bool false] 62)=w1:=⟨_,rfl⟩;obtain⟨b0,hb0⟩:=Iu w.heap.size;have hs1:Sm No w w1:=by rw [←hw1];exact(Sm.refl No w).alloc _
 have hz0:Bk w1 b0 62 #[.string ⟨#[]⟩,.int .i64 0,.string ⟨#[]⟩,.string ⟨#[]⟩,.string ⟨#[]⟩,.int .i64 0,.slice none 0 0,.slice none 0 0,.bool false,.bool false]:=by rw [←hw1,←hb0];exact Bk.new w _ _
 have hK1:ge w1 g 3 0 ln (bg gh) left (.slice A2 B.length c2) ch fed:=Bk.sm hK hs1 (fun e=>e);have hc1:=Bk.all hK1;have hz1:=Bk.fz hK1;have hgl1:=Bk.lt hK1;unfold bg at hc1;have hl0:=hz0.lt;have H1:=ns (BT hw1 (BT hb0 (BT hs1 (BT hz0 hK1))));have HHow:=ns (uu w1 0 gh gf vF h (hh.ph.no hs1));unfold mc at HHow;clear hK hh hB hBo og lt hR2 hc2 hn2 hw1 hb0 hs1 hz0 hK1 ho;go_in;go_upto_region 3 with fail;rw [H1.out.1,H1.out.2.1];clear hc hz;go_wp2_with fail;refine HHow.out.mono ?_;rintro e w2 ⟨rfl,hs2⟩;obtain⟨w3,hw3⟩:∃ w3,w2.alloc (.cells #[.int .i64 h.how.kind,.int .i64 h.how.len,.bool h.how.close,.bool h.how.expect] 177)=w3:=⟨_,rfl⟩;obtain⟨b1,hb1⟩:=Iu w2.heap.size;have hs3:Sm No w1 w3:=by rw [←hw3];exact hs2.alloc _
 have hb3:Bk w3 b1 177 #[.int .i64 h.how.kind,.int .i64 h.how.len,.bool h.how.close,.bool h.how.expect]:=by rw [←hw3,←hb1];exact Bk.new w2 _ _
 have hs03:Sm No w w3:=H1.out.2.2.1.tt hs3;have hK3:ge w3 g 3 0 ln (bg gh) left (.slice A2 B.length c2) ch fed:=Bk.sm H1.out.2.2.2.2 hs3 (fun e=>e);have hh3:=H.out.2.1.no hs03;have r1:=Bk.at hK3 3 (v:=.pointer (some ⟨gh,0,none⟩)) rfl;have r2:=hh3.ph.bk.at 0 (v:=.pointer (some ⟨gf,0,none⟩)) rfl;have r3:=Bk.at hK3 5 (v:=.slice A2 B.length c2) rfl;have r4:=hb3.at 2 (v:=.bool h.how.close) rfl;have r5:=hb3.at 3 (v:=.bool h.how.expect) rfl;have q1:w3.drew.cell? ⟨g,3,none⟩=some (.pointer (some ⟨gh,0,none⟩)):=r1;have q2:w3.drew.cell? ⟨gh,0,none⟩=some (.pointer (some ⟨gf,0,none⟩)):=r2;have q3:w3.drew.cell? ⟨g,5,none⟩=some (.slice A2 B.length c2):=r3;have q4:w3.drew.cell? ⟨b1,2,none⟩=some (.bool h.how.close):=r4;have q5:w3.drew.cell? ⟨b1,3,none⟩=some (.bool h.how.expect):=r5;have l1:=Bk.lt hK3;have l2:=hh3.ph.bk.lt;have l3:=hb3.lt;have HAll:=ns (fun (W:World) (hW:Sm No w3 W)=>F0 W 0 gf vF h.fields (hh3.ph.fs.no hW) (by omega));have HS:=ns (fun (W':World) (hW:Sm No w3 W')=>show W'.cell? ⟨g,3,none⟩=some (.pointer (some ⟨gh,0,none⟩))∧W'.cell? ⟨gh,0,none⟩=some (.pointer (some ⟨gf,0,none⟩))∧W'.cell? ⟨g,5,none⟩=some (.slice A2 B.length c2)∧W'.cell? ⟨b1,2,none⟩=some (.bool h.how.close)∧W'.cell? ⟨b1,3,none⟩=some (.bool h.how.expect) from⟨hW.cell l1 r1,hW.cell l2 r2,hW.cell l1 r3,hW.cell l3 r4,hW.cell l3 r5⟩);have H3:=ns (BT hw3 (BT hb1 (BT hs03 (BT hb3 (BT hK3 hh3)))));have H03:=ns hs3;clear hs2 hw3 hb1 hs3 hb3 hs03 hK3 hh3 hc1 hz1;go_upto_region 4 with fail;rw [H3.out.1,H3.out.2.1]
 go_cut [5] from 21 to 37 (fun e wx=>∃ b2 A1 c1,e=.pointer (some ⟨b2,0,none⟩)∧w3.heap.size≤b2∧Bk wx b2 62 #[.string ⟨#[]⟩,.int .i64 0,.string ⟨#[]⟩,.string ⟨#[]⟩,.string ⟨#[]⟩,.int .i64 0,.slice A1 h.fields.length c1,.slice A2 B.length c2,.bool h.how.close,.bool h.how.expect]∧wx.ownsRow w3.heap.size 129 2 (.slice A1 h.fields.length c1) h.fields.length (ao h.fields)∧Sm No w3 wx)
 case first=>
  go_region_held3 (fun w'=>w'.cell? ⟨g,3,none⟩=some (.pointer (some ⟨gh,0,none⟩))∧w'.cell? ⟨gh,0,none⟩=some (.pointer (some ⟨gf,0,none⟩))∧w'.cell? ⟨g,5,none⟩=some (.slice A2 B.length c2)∧w'.cell? ⟨b1,2,none⟩=some (.bool h.how.close)∧w'.cell? ⟨b1,3,none⟩=some (.bool h.how.expect)) (first|with_reducible exact⟨r1,r2,r3,r4,r5⟩|with_reducible exact⟨q1,q2,q3,q4,q5⟩|with_reducible exact⟨s1,s2,s3,s4,s5⟩|(refine HS.out _ (by repeat (first|with_reducible exact Sm.refl _ _|with_reducible exact hs5|with_reducible refine Sm.drew ?_|with_reducible refine Sm.alloc ?_ _|with_reducible refine Sm.setN ?_ (by first|exact Nat.le_refl _|exact hs5.size) _ _));done))
   (first
    |(go_at_call 110;(with_reducible refine(HAll.out w3.drew (Sm.refl No w3).drew).mono ?_);rintro e w5 ⟨v5,rfl,h5o,h5⟩;obtain⟨A1,c1,hv5,hr5⟩:=ak h5o;subst hv5;have hs5:=((Sm.refl No w3).drew).tt h5;have s1:=hs5.cell l1 r1;have s2:=hs5.cell l2 r2;have s3:=hs5.cell l1 r3;have s4:=hs5.cell l3 r4;have s5:=hs5.cell l3 r5)
    |(go_at_call 110;(with_reducible refine(HAll.out (w3.alloc (.cells #[.string ⟨#[]⟩,.int .i64 0,.string ⟨#[]⟩,.string ⟨#[]⟩,.string ⟨#[]⟩,.int .i64 0,.slice none 0 0,.slice none 0 0,.bool false,.bool false] 62)).drew ((Sm.refl No w3).alloc _).drew).mono ?_);rintro e w5 ⟨v5,rfl,h5o,h5⟩;obtain⟨A1,c1,hv5,hr5⟩:=ak h5o;subst hv5;have hs5:=(((Sm.refl No w3).alloc _).drew).tt h5;have s1:=hs5.cell l1 r1;have s2:=hs5.cell l2 r2;have s3:=hs5.cell l1 r3;have s4:=hs5.cell l3 r4;have s5:=hs5.cell l3 r5;have hbn:Bk w5 w3.heap.size 62 #[.string ⟨#[]⟩,.int .i64 0,.string ⟨#[]⟩,.string ⟨#[]⟩,.string ⟨#[]⟩,.int .i64 0,.slice none 0 0,.slice none 0 0,.bool false,.bool false]:=(Bk.new w3 _ _).drew.sm h5 (fun h=>h);have hln:=hbn.lt;have hcn:=hbn.all;have hzn:=hbn.fz))
  ·go_wp2_with fail;go_meet;have hlo:=World.ownsRow.lt h5o;exact⟨w5.heap.size,A1,c1,rfl,hs5.size,Bk.new w5 _ _,World.ownsRow.alloc (bc h5o (fun b e=>(hlo b e).1)) _,hs5.alloc _⟩
  ·go_wp2_with fail;go_meet;have hlo:=World.ownsRow.lt h5o;have hsz:((w3.alloc (.cells #[.string ⟨#[]⟩,.int .i64 0,.string ⟨#[]⟩,.string ⟨#[]⟩,.string ⟨#[]⟩,.int .i64 0,.slice none 0 0,.slice none 0 0,.bool false,.bool false] 62)).drew).heap.size=w3.heap.size+1:=by show (w3.alloc _).heap.size=_;simp
   refine⟨w3.heap.size,A1,c1,rfl,Nat.le_refl _,((((((((((hbn.set 0 _).set 1 _).set 2 _).set 3 _).set 4 _).set 5 _).set 6 _).set 7 _).set 8 _).set 9 _),bc (aa h5o (((((((((((Sm.refl (fun x=>x=w3.heap.size) w5).set1 0 _).set1 1 _).set1 2 _).set1 3 _).set1 4 _).set1 5 _).set1 6 _).set1 7 _).set1 8 _).set1 9 _) (fun b e e2=> ?_)) (fun b e=> ?_),?_⟩
   ·have:=(hlo b e).1;rw [hsz] at this;omega
   ·have:=(hlo b e).1;rw [hsz] at this;omega
   ·exact(((((((((hs5.setN (Nat.le_refl _) 0 _).setN (Nat.le_refl _) 1 _).setN (Nat.le_refl _) 2 _).setN (Nat.le_refl _) 3 _).setN (Nat.le_refl _) 4 _).setN (Nat.le_refl _) 5 _).setN (Nat.le_refl _) 6 _).setN (Nat.le_refl _) 7 _).setN (Nat.le_refl _) 8 _).setN (Nat.le_refl _) 9 _
 case rest=>
  obtain⟨b2,A1,c1,rfl,hl2,hb2,hown,hsc⟩:=hcut;have hs3c:Sm No w wc:=H3.out.2.2.1.tt hsc;have hKc:ge wc g 3 0 ln (bg gh) left (.slice A2 B.length c2) ch fed:=Bk.sm H3.out.2.2.2.2.1 hsc (fun e=>e);have hhc:=H.out.2.1.no hs3c;have hc2c:=hb2.all;have hz2c:=hb2.fz;have hl2c:=hb2.lt;have hcc:=Bk.all hKc;have hzc:=Bk.fz hKc;have hglc:=Bk.lt hKc;unfold bg at hcc;have HSt:=ns (nO wc 0 gh gf vF h hhc.ph);unfold xO at HSt;have HC:=ns (BT hl2 (BT hb2 (BT hown (BT hsc (BT hs3c (BT hKc hhc))))));clear hl2 hb2 hown hsc hs3c hKc hhc r1 r2 r3 r4 r5 q1 q2 q3 q4 q5;go_wp2_with fail;refine HSt.out.mono ?_;rintro e w6 ⟨rfl,hs6⟩;have hb6:=HC.out.2.1.sm hs6 (fun e=>e);have hcb6:=hb6.all;have hzb6:=hb6.fz;have hlb6:=hb6.lt;have hK6:ge w6 g 3 0 ln (bg gh) left (.slice A2 B.length c2) ch fed:=Bk.sm HC.out.2.2.2.2.2.1 hs6 (fun e=>e);have hgl6:=Bk.lt hK6;have hzg6:=Bk.fz hK6;have hcg6:=Bk.all hK6;unfold bg at hcg6;have H6:=ns (BT hb6 (BT hK6 hs6));clear hb6 hK6 hs6 hc2c hz2c hcc hzc;go_upto_region 6 with fail;obtain⟨w7,hw7⟩:=Iu ((((((w6.setCell ⟨b2,0,none⟩ (.string ⟨h.method.toArray⟩)).setCell ⟨b2,1,none⟩ (.int .i64 h.target.form)).setCell ⟨b2,2,none⟩ (.string ⟨h.target.host.toArray⟩)).setCell ⟨b2,3,none⟩ (.string ⟨h.target.path.toArray⟩)).setCell ⟨b2,4,none⟩ (.string ⟨h.target.query.toArray⟩)).setCell ⟨b2,5,none⟩ (.int .i64 h.minor));have hs67:Sm (fun x=>x=b2) w6 w7:=by rw [←hw7];exact((((((Sm.refl _ w6).set1 0 _).set1 1 _).set1 2 _).set1 3 _).set1 4 _).set1 5 _
  have hb7:Bk w7 b2 62 #[.string ⟨h.method.toArray⟩,.int .i64 h.target.form,.string ⟨h.target.host.toArray⟩,.string ⟨h.target.path.toArray⟩,.string ⟨h.target.query.toArray⟩,.int .i64 h.minor,.slice A1 h.fields.length c1,.slice A2 B.length c2,.bool h.how.close,.bool h.how.expect]:=by rw [←hw7];exact((((((H6.out.1.set 0 _).set 1 _).set 2 _).set 3 _).set 4 _).set 5 _).eq rfl
  have hn2:g≠b2:=by have:=HC.out.1;omega
  have hK7:ge w7 g 3 0 ln (bg gh) left (.slice A2 B.length c2) ch fed:=Bk.sm H6.out.2.1 hs67 hn2;have hsc7:Sm No w w7:=(HC.out.2.2.2.2.1.tt H6.out.2.2).fresh hs67 (fun b e=>by subst e;exact Nat.le_trans H3.out.2.2.1.size HC.out.1);have hsc7b:Sm (fun x=>x=b2) wc w7:=(H6.out.2.2.any _).tt hs67;have HN:=ns (qA w7);have hb0c:Bk w7 b0 62 #[.string ⟨#[]⟩,.int .i64 0,.string ⟨#[]⟩,.string ⟨#[]⟩,.string ⟨#[]⟩,.int .i64 0,.slice none 0 0,.slice none 0 0,.bool false,.bool false]:=(((H1.out.2.2.2.1.sm H03.out (fun e=>e)).sm HC.out.2.2.2.1 (fun e=>e)).sm hsc7b (fun e=>by have h1:=HC.out.1;have h2:=H03.out.size;omega));have H7:=ns (BT hw7 (BT hb7 (BT hK7 (BT hsc7 (BT hsc7b hb0c)))));rw [hw7];clear hw7 hs67 hb7 hK7 hsc7 hsc7b hb0c hcb6 hzb6 hzg6 hcg6;go_wp2_with fail;refine HN.out.mono ?_;rintro e w8 ⟨gn,rfl,⟨⟨gh2,gf2,vF2,vL2,hKn,hhn,hln⟩,ogn,ltn⟩,hs8⟩;obtain⟨A5,c5,hv5, -⟩:=hln.1.slice;subst hv5;have hgn:w7.heap.size≤gn:=ogn.1;have hK8:=Bk.sm H7.out.2.2.1 hs8 (fun e=>e);have hgl8:=Bk.lt hK8;have hzg8:=Bk.fz hK8;have hcg8:=Bk.all hK8;have hgnl:=Bk.lt hKn;have hcn:=Bk.all hKn;have hzn:=Bk.fz hKn;unfold bg bS at hcn;unfold bg at hcg8;dsimp only [List.length_nil] at hcn;obtain⟨w9,hw9⟩:∃ w9,w8.setRow g #[.int .i64 0,.int .i64 0,.slice A5 0 c5,.pointer (some ⟨gh2,0,none⟩),.int .i64 0,.slice none 0 0,.pointer none,.int .i64 0]=w9:=⟨_,rfl⟩;have hs89:Sm (fun x=>x=g) w8 w9:=by rw [←hw9];exact(Sm.refl (fun x=>x=g) w8).setRow (Or.inl rfl) _
  have hK9:ge w9 g 0 0 (.slice A5 0 c5) (bg gh2) 0 bS (.pointer none) 0:=by rw [←hw9];exact Bk.setRow hK8 _
  have HKn:=ns (BT (show Bk w8 gn 175 #[.int .i64 0,.int .i64 0,.slice A5 0 c5,.pointer (some ⟨gh2,0,none⟩),.int .i64 0,.slice none 0 0,.pointer none,.int .i64 0] from hKn) (show Bk w8 g 175 _ from hK8));have hh9:=hhn.own hK8 rfl hs89;have hln9:=hln.own hK8 rfl hs89;have hne:gn≠g:=by have:=H7.out.2.2.2.1.size;omega
  have hb9:=(H7.out.2.1.sm hs8 (fun e=>e)).sm hs89 (fun e=>by have:=HC.out.1;omega);have hb09:=(H7.out.2.2.2.2.2.sm hs8 (fun e=>e)).sm hs89 (fun e=>by have:=H1.out.2.1;omega);have H9:=ns (BT hw9 (BT hs89 (BT hK9 (BT hh9 (BT hln9 (BT hb9 (BT hb09 (BT hs8 (BT ogn ltn)))))))));have hc9:=hb9.all;have hz9:=hb9.fz;have hl9:=hb9.lt;have hc09:=hb09.all;have hz09:=hb09.fz;have hl09:=hb09.lt;clear hw9 hs89 hK9 hh9 hln9 hb9 hb09 hKn hhn hln ogn ltn hs8 hK8;clear hzg8 hcg8 hcn hzn hc9 hz9 hc09 hz09;go_upto_region 7 with (first|(refine bF rfl 175 _ rfl Tryz.underlying175 8 CL gn rfl _ HKn.out.1 rfl ?_)|(refine wpList_store_row rfl 175 _ _ rfl g #[.int .i64 0,.int .i64 0,.slice A5 0 c5,.pointer (some ⟨gh2,0,none⟩),.int .i64 0,.slice none 0 0,.pointer none,.int .i64 0] rfl rfl 175 _ HKn.out.2 CL rfl (by simp [Value.oneCell']) ?_));rw [H9.out.1];go_wp2_with (first|(refine bF rfl 62 _ rfl Tryz.underlying62 10 rH b2 rfl _ H9.out.2.2.2.2.2.1 rfl ?_)|(refine wpList_store_row rfl 62 _ _ rfl b0 #[.string ⟨h.method.toArray⟩,.int .i64 h.target.form,.string ⟨h.target.host.toArray⟩,.string ⟨h.target.path.toArray⟩,.string ⟨h.target.query.toArray⟩,.int .i64 h.minor,.slice A1 h.fields.length c1,.slice A2 B.length c2,.bool h.how.close,.bool h.how.expect] rfl rfl 62 _ H9.out.2.2.2.2.2.2.1 rH rfl (by simp [Value.oneCell']) ?_));have hs910:Sm (fun x=>x=b0) w9 (w9.setRow b0 #[.string ⟨h.method.toArray⟩,.int .i64 h.target.form,.string ⟨h.target.host.toArray⟩,.string ⟨h.target.path.toArray⟩,.string ⟨h.target.query.toArray⟩,.int .i64 h.minor,.slice A1 h.fields.length c1,.slice A2 B.length c2,.bool h.how.close,.bool h.how.expect]):=(Sm.refl (fun x=>x=b0) w9).setRow (Or.inl rfl) _;have hb10:Bk (w9.setRow b0 #[.string ⟨h.method.toArray⟩,.int .i64 h.target.form,.string ⟨h.target.host.toArray⟩,.string ⟨h.target.path.toArray⟩,.string ⟨h.target.query.toArray⟩,.int .i64 h.minor,.slice A1 h.fields.length c1,.slice A2 B.length c2,.bool h.how.close,.bool h.how.expect]) b0 62 #[.string ⟨h.method.toArray⟩,.int .i64 h.target.form,.string ⟨h.target.host.toArray⟩,.string ⟨h.target.path.toArray⟩,.string ⟨h.target.query.toArray⟩,.int .i64 h.minor,.slice A1 h.fields.length c1,.slice A2 B.length c2,.bool h.how.close,.bool h.how.expect]:=Bk.setRow H9.out.2.2.2.2.2.2.1 _;have d0:=hb10.at 0 rfl;have d1:=hb10.at 1 rfl;have d2:=hb10.at 2 rfl;have d3:=hb10.at 3 rfl;have d4:=hb10.at 4 rfl;have d5:=hb10.at 5 rfl;have d6:=hb10.at 6 rfl;have d7:=hb10.at 7 rfl;have d8:=hb10.at 8 rfl;have d9:=hb10.at 9 rfl;refine bodyPost_ret (v:=.tuple #[.agg #[.string ⟨h.method.toArray⟩,.int .i64 h.target.form,.string ⟨h.target.host.toArray⟩,.string ⟨h.target.path.toArray⟩,.string ⟨h.target.query.toArray⟩,.int .i64 h.minor,.slice A1 h.fields.length c1,.slice A2 B.length c2,.bool h.how.close,.bool h.how.expect],.int .i64 0]) (by simp [results,Tryz.results58,go_sem,d0,d1,d2,d3,d4,d5,d6,d7,d8,d9]) rfl ?_;obtain⟨hlb2,hbb2,hown,hscw,hs0c,hKc,hhc⟩:=HC.out;obtain⟨-, -,hK7,hs07,hsc7, -⟩:=H7.out;obtain⟨-,hs89,hK9,hh9,hln9, -, -,hs78,ogn,ltn⟩:=H9.out;obtain⟨hK0,hh0,hB0,hBo,og,lt,hR2,hcc2,hn2n⟩:=H.out;have z1:w.heap.size=b0:=H1.out.2.1;have z7:=hs07.size;have z8:=hs78.size;have z9:=hs89.size;have z3:=H3.out.2.2.1.size;have z13:=H03.out.size;have zc:=hscw.size;have zc7:=hsc7.size;have hlo:=World.ownsRow.lt hown;have hsc9:Sm (fun x=>x=g∨x=b2) wc w9:=((hsc7.mono (fun _ _ e=>Or.inr e)).trans (hs78.any (fun _=>False)) (fun _ _ e=>e.elim)).tt (hs89.mono (fun _ _ e=>Or.inl e):Sm (fun x=>x=g∨x=b2) w8 w9);have hw9s:Sm (fun x=>x=g) w w9:=((hs07.any (fun x=>x=g)).trans hs78 (fun _ _ e=>e.elim)).tt hs89;have hfin:Sm O w _:=(hw9s.mono (fun x _ e=>e ▸ og)).trans (hs910.mono (fun _ _ e=>e)) (fun x hx e=>by omega);have hrowF:=aa (aa hown hsc9 (fun y e e2=>by
   rcases e2 with e2|e2
   ·have:=(hlo y e).1;omega
   ·subst e2;obtain⟨cur,hcur⟩:=ax hown e;unfold Bk at hbb2;rw [hcur] at hbb2;injection hbb2 with hbb2;injection hbb2 with _ hbb2;exact absurd hbb2 (by decide))) hs910 (fun y e e2=>by have:=(hlo y e).1;omega)
  obtain⟨A1',c1',hA1,hrc1,hle1,hnn1⟩:=ak hrowF;injection hA1 with hA1 _ hA1c;subst hA1 hA1c;have hBg:∀ y,(Value.slice A2 B.length c2).ownBlock=some y→y≠g:=fun y e e2=>by
   subst e2;rcases hB0.2 with ⟨hv,_⟩|⟨g',cap,cur,fz,hv,_,hh',_⟩
   ·rw [hv] at e;cases e
   ·rw [hv] at e;have e:g'=y:=by simpa [Value.ownBlock] using e
    subst e;unfold ge Bk at hK0;rw [hK0] at hh';injection hh' with hh';injection hh' with _ hh';exact absurd hh' (by decide)
  refine⟨_,fun y=>(∃ a,A1=some a∧a.block=y)∨(∃ a,A2=some a∧a.block=y),fun y=>y=g∨(w7.heap.size≤y∧y < w8.heap.size),rfl,⟨A1,c1,A2,c2,rfl,yu hrowF,fun e=>⟨?_,hnn1 e⟩,?_,fun e=>⟨?_,hn2n e⟩,fun a e=>Or.inl ⟨a,e,rfl⟩,fun a e=>Or.inr ⟨a,e,rfl⟩,hle1,hcc2⟩,?_,?_,?_,hfin⟩
  ·have h5:=hle1;rw [hnn1 e] at h5;exact Nat.le_zero.1 h5
  ·refine(hR2.sm hw9s (fun a e e2=>hBg a.block (by rw [e];rfl) e2)).sm hs910 (fun a e e2=> ?_);have:=lt _ (hBo a.block (by rw [e];rfl));omega
  ·have h5:=hcc2;rw [hn2n e] at h5;exact Nat.le_zero.1 h5
  ·refine cx.out (S:=fun x=>x=b0) (w:=w9) ⟨⟨gh2,gf2,vF2,_,hK9,hh9.imp (fun x e=>Or.inr e),hln9.imp (fun x e=>Or.inr e)⟩,Or.inl rfl,fun x e=> ?_⟩ hs910 (fun x e e2=> ?_)
   ·rcases e with e|e
    ·omega
    ·omega
   ·rcases e with e|e
    ·omega
    ·omega
  ·intro y e;rcases e with e|e
   ·exact Or.inl e
   ·right;omega
  ·intro y e;rcases e with ⟨a,e1,e2⟩|⟨a,e1,e2⟩
   ·have h5:=hlo a.block (by rw [e1];rfl);subst e2;refine⟨Or.inr ⟨by omega,?_⟩,?_⟩
    ·have:=hs910.size;omega
    ·rintro(e|e)
     ·omega
     ·omega
   ·subst e2;have h5:=hBo a.block (by rw [e1];rfl);have h6:=lt _ h5;refine⟨Or.inl h5,?_⟩;rintro(e|e)
    ·exact hBg a.block (by rw [e1];rfl) e
    ·omega
structure gJ where
 x:Hd × af
 a1:Option Addr
 c1:Nat
 a2:Option Addr
 c2:Nat
def gJ.cells(q:gJ):List Value:=[.string ⟨q.x.1.method.toArray⟩,.int .i64 q.x.1.target.form,.string ⟨q.x.1.target.host.toArray⟩,.string ⟨q.x.1.target.path.toArray⟩,.string ⟨q.x.1.target.query.toArray⟩,.int .i64 q.x.1.minor,.slice q.a1 q.x.1.fields.length q.c1,.slice q.a2 q.x.2.length q.c2,.bool q.x.1.how.close,.bool q.x.1.how.expect]
structure gJ.In (w:World) (R:Nat→Prop) (q:gJ):Prop where
 r1:dM w q.a1 q.x.1.fields
 n1:q.a1=none→q.x.1.fields.length=0∧q.c1=0
 r2:ar w q.a2 (bC q.x.2)
 n2:q.a2=none→q.x.2.length=0∧q.c2=0
 b1:∀ a,q.a1=some a→q.x.1.fields≠[]→R a.block
 b2:∀ a,q.a2=some a→q.x.2≠[]→R a.block
theorem Gc.m{w:World}{R:Nat→Prop}{x:Hd × af}{v:Value}(h:Gc w R x v):∃ q:gJ,q.x=x∧v=.agg q.cells.toArray∧q.In w R:=by
 obtain⟨A1,c1,A2,c2,rfl,h1,h2,h3,h4,h5,h6, -, -⟩:=h;exact⟨⟨x,A1,c1,A2,c2⟩,rfl,rfl,h1,h2,h3,h4,fun a e _=>h5 a e,fun a e _=>h6 a e⟩
theorem gJ.In.sm{w w':World}{R S:Nat→Prop}{q:gJ}(h:q.In w R)(hs:Sm S w w')(hS:∀ x,R x→¬S x):q.In w' R:=by
 refine⟨?_,h.n1,?_,h.n2,h.b1,h.b2⟩
 ·by_cases h0:q.x.1.fields=[]
  ·intro k hk;rw [h0] at hk;exact absurd hk (Nat.not_lt_zero _)
  ·exact h.r1.sm hs (fun a e=>hS _ (h.b1 a e h0))
 ·by_cases h0:q.x.2=[]
  ·rw [h0];exact ar.nil _ _
  ·exact h.r2.sm hs (fun a e=>hS _ (h.b2 a e h0))
theorem gJ.In.imp{w:World}{R P:Nat→Prop}{q:gJ}(h:q.In w R)(hi:∀ x,R x→P x):q.In w P:=⟨h.r1,h.n1,h.r2,h.n2,fun a e h0=>hi _ (h.b1 a e h0),fun a e h0=>hi _ (h.b2 a e h0)⟩
def dw(qs:List gJ):List Value:=qs.flatMap gJ.cells
theorem ku(qs:List gJ)(q:gJ):dw (qs++[q])=dw qs++q.cells:=by simp [dw]
structure gz (w:World) (B:Nat) (R:Nat→Prop) (v:Value) (qs:List gJ):Prop where
 own:w.ownsRow B 62 10 v qs.length (dw qs)
 ok:∀ q∈qs,q.In w R
 apart:∀ b,v.ownBlock=some b→¬R b
theorem gz.sm{w w':World}{B:Nat}{R S:Nat→Prop}{v:Value}{qs:List gJ}(h:gz w B R v qs)(hs:Sm S w w')(hS:∀ x,R x→¬S x)(hv:∀ b,v.ownBlock=some b→¬S b):gz w' B R v qs:=
 ⟨aa h.own hs hv,fun q hq=>(h.ok q hq).sm hs hS,h.apart⟩
theorem gz.no{w w':World}{B:Nat}{R:Nat→Prop}{v:Value}{qs:List gJ}(h:gz w B R v qs)(hs:Sm No w w'):gz w' B R v qs:=h.sm hs (fun _ _ e=>e) (fun _ _ e=>e)
def ul(r:Nat × cu):Value:=.agg #[.int .i64 (r.1:Int),.int .i64 r.2.phase,.int .i64 r.2.status]
def nV(w:World)(t:af)(e:Ending)(w':World):Prop:=
 ∃ v qs R,e=.returned (.tuple #[v,ul (ap t).2])∧qs.map (·.x)=(ap t).1∧gz w' w.heap.size R v qs∧(∀ x,R x→w.heap.size≤x∧x < w'.heap.size)∧Sm No w w'
structure IW (w0:World) (g:Nat) (t:af) (lv uv:Value) (wr:World) (u:Nat) (qs:List gJ) (O R:Nat→Prop):Prop where
 hu:u≤t.length
 ue:uv=.int .i64 (u:Int)
 sp:ap t=(qs.map (·.x)++(ap (t.drop u)).1,u+(ap (t.drop u)).2.1,(ap (t.drop u)).2.2)
 rows:gz wr w0.heap.size R lv qs
 prs:cx wr O g .idle
 ob:∀ x,O x→w0.heap.size≤x
 rb:∀ x,R x→w0.heap.size≤x∧x < wr.heap.size∧¬O x
 vb:∀ b,lv.ownBlock=some b→¬O b
 sm:Sm No w0 wr
 len:qs.length≤u
theorem Ej:(Tryz.prog.info? 62).map (fun i=>(i.zero,i.size,i.bytes))=some (some (.agg AL),10,136):=by kernel_rfl
theorem sG{w:World}{ad:Addr}{u:Nat}{l:af}(h:ar w (some ad) (l.map aM)):ar w (some (ad.add u)) ((l.drop u).map aM):=by
 intro j x hj;rw [List.getElem?_map,List.getElem?_drop] at hj;obtain⟨b2,o2,e,hb,hc⟩:=h (u+j) x (by rw [List.getElem?_map];exact hj);injection e with e;subst e;exact⟨b2,o2+u,by unfold Addr.add;split<;>simp_all,hb,by rw [←hc,Nat.add_assoc]⟩
theorem Ad(w:World)(A:Option Addr)(cp:Nat)(t:af)(hg:G0 w)(hR:ar w A (t.map aM))(hn:A=none→t.length=0∧cp=0)(hcp:t.length≤cp)(hl:t.length≤100000)(hcp2:cp≤140737488351232):
 Calls Tryz.prog 37 #[.slice A t.length cp] w (nV w t):=by
 have HG:=ns (BT hg (BT hR (BT hn (BT hcp hl))));have HN:=ns (fun (W:World)=>qA W);clear hg hR hn;go_in;obtain⟨b3,hb3⟩:=Iu w.heap.size;obtain⟨w0,hw0⟩:∃ w0,w.alloc (.cells #[.int .i64 0,.int .i64 0,.int .i64 0] 87)=w0:=⟨_,rfl⟩;have hs0:Sm No w w0:=by rw [←hw0];exact(Sm.refl No w).alloc _
 have hb0:Bk w0 b3 87 #[.int .i64 0,.int .i64 0,.int .i64 0]:=by rw [←hw0,←hb3];exact Bk.new w _ _
 have H0:=ns (BT hw0 (BT hb3 (BT hs0 hb0)));clear hw0 hb3 hs0 hb0;go_upto_region 2 with fail;rw [H0.out.1,H0.out.2.1];go_wp2_with fail;refine(HN.out w0).mono ?_;rintro e w1 ⟨g,rfl,hI,hs1⟩;have H1:=ns (BT hI hs1);clear hI hs1;go_wp2_with fail
 go_loopw [4,6] (fun l u wr=>∃ k qs O R,IW w0 g t l u wr k qs O R) (fun _ u _=>t.length+1-(intOf u).toNat)
 case atStart=>
  exact⟨0,[],_,fun _=>False,Nat.zero_le _,rfl,by simp,⟨World.ownsRow_nil _ _ _ _,(fun q hq=>by cases hq),(fun b e=>by cases e)⟩,H1.out.1,fun x e=>e.1,fun x e=>e.elim,fun b e=>(by cases e),H1.out.2,Nat.le_refl _⟩
 case round=>
  obtain⟨k,qs,O,R,hS⟩:=hrel;have hue:=hS.ue;subst hue;have hk:=hS.hu;have HS:=ns hS;clear hS;obtain⟨n,hn⟩:=Iu t.length;have HNn:=ns hn;rw [hn] at hk hcp ⊢;have j0:(0:Int)≤(k:Int):=by omega
  have j1:(k:Int)≤(n:Int):=by omega
  have j2:(k:Int)≤(cp:Int):=by omega
  clear hn;obtain⟨s',nn,hfd⟩:∃ s' nn,au .idle (t.drop k)=(s',nn):=⟨_,_,rfl⟩;have hdl:(t.drop k).length=n-k:=by rw [List.length_drop,HNn.out]
  have hlt:=HS.out.prs.lt;have hb0w:∀ x,O x→x≠0:=fun x e e2=>by
   obtain⟨m,hm⟩:=HG.out.1;have h1:=HS.out.ob x e;have h2:=World.block_lt_of_cell? w _ hm;have h3:=H0.out.2.2.1.size;have h2:0 < w.heap.size:=h2;omega
  have HFeed:=ns (fun (W:World) (hW:Sm No wr W) (A':Option Addr) (c':Nat) (hc:W.cell? ⟨wr.heap.size,0,none⟩=some (.slice A' (n-k) c')) (hrow:ar wr A' ((t.drop k).map aM)∧(∀ a,A'=some a→t.drop k≠[]→a.block < w.heap.size)∧n-k≤c'∧wr.heap.size < W.heap.size)=>
   show Calls Tryz.prog 57 #[.pointer (some ⟨g,0,none⟩),.slice (some ⟨wr.heap.size,0,none⟩) 1 1] W (lP W O g (s',nn)) from by
    have e:=ui W O g wr.heap.size .idle A' c' (t.drop k) (HS.out.prs.no hW) (by trivial) ((HG.out.1.no H0.out.2.2.1).no (HS.out.sm.tt hW)) (fun e=>hb0w 0 e rfl) hrow.2.2.2 (by rw [hdl];exact hc) (hrow.1.no hW) (fun a ha hne e=>by
     have h1:=hrow.2.1 a ha hne;have h2:=HS.out.ob _ e;have h3:=H0.out.2.2.1.size;omega) (by rw [hdl];have:=HG.out.2.2.2.2;have:=HNn.out;omega) (by rw [hdl];exact hrow.2.2.1)
    rw [hfd] at e;exact e)
  have hMid:=ns (fun (W:World) (hW:Sm No wr W) (e:Ending) (w2:World) (h2:lP W O g (s',nn) e w2)=>show cx w2 (aA O wr w2) g s'∧bI s'∧Sm O wr w2 from
   ⟨h2.2.1.imp (fun x e=>e.imp id (fun e=>⟨Nat.le_trans hW.size e.1,e.2⟩)) (aA.lt hlt (Nat.le_trans hW.size h2.2.2.2.size)),h2.2.2.1,(hW.any O).tt h2.2.2.2⟩)
  have HFd:=ns hfd;clear hfd;go_upto_region 4 with fail
  go_cut [7] from 11 to 16 (fun nv wx=>nv=.int .i64 (nn:Int)∧cx wx (aA O wr wx) g s'∧bI s'∧Sm O wr wx)
  case first=>
   have hrw:ar wr A (t.map aM):=(HG.out.2.1.no H0.out.2.2.1).no HS.out.sm;have HRw:=ns hrw;have HBl:=ns (show ∀ a,A=some a→t.length≠0→a.block < w.heap.size from fun a e hne=>by
    have h0:0 < t.length:=Nat.pos_of_ne_zero hne;obtain⟨bb,off,e2,hb,_⟩:=HG.out.2.1.at (j:=0) (u:=aM t[0]) (by rw [List.getElem?_map,List.getElem?_eq_getElem h0];rfl);rw [e] at e2;injection e2 with e2;subst e2;exact hb)
   clear hrw hdl hlt hb0w
   cases hA:A with
   |none=>
    subst hA;have h0:=HG.out.2.2.1 rfl;have hn0:n=0:=by rw [←HNn.out];exact h0.1
    have hk0:k=0:=by omega
    have hc0:cp=0:=h0.2;subst hn0 hc0 hk0;clear h0 j0 j1 j2 hk hcp hcp2;have hsA:Sm No wr (wr.alloc (.cells #[.slice none 0 0] 22)):=(Sm.refl No wr).alloc _;have hbA:=Bk.new wr 22 #[.slice none 0 0];have HF:=ns (HFeed.out _ hsA none 0 (hbA.at 0 rfl) ⟨(fun j u hj=>by rw [List.drop_of_length_le (by rw [HNn.out];exact Nat.zero_le _)] at hj;simp at hj),(fun a e=>by cases e),Nat.le_refl _,hbA.lt⟩);clear hbA;go_wp2_with fail;refine HF.out.mono ?_;intro e w2 h2;have H2:=ns (hMid.out _ hsA e w2 h2);obtain⟨rfl, -⟩:=h2;go_wp2_with fail;go_meet;exact⟨rfl,H2.out⟩
   |some ad=>
    subst hA;by_cases hkc:k < cp
    ·have j3:(k:Int) < (cp:Int):=by omega
     have hsA:Sm No wr (wr.alloc (.cells #[.slice (some (ad.add k)) (n-k) (cp-k)] 22)):=(Sm.refl No wr).alloc _;have hbA:=Bk.new wr 22 #[.slice (some (ad.add k)) (n-k) (cp-k)];have HF:=ns (HFeed.out _ hsA (some (ad.add k)) (cp-k) (hbA.at 0 rfl) ⟨sG HRw.out,fun a e h=>by
      injection e with e;have h1:=HBl.out ad rfl (fun e0=>h (List.drop_of_length_le (by omega)));rw [←e];unfold Addr.add;split<;>exact h1,by omega,hbA.lt⟩)
     clear hbA;go_wp2_with fail;refine HF.out.mono ?_;intro e w2 h2;have H2:=ns (hMid.out _ hsA e w2 h2);obtain⟨rfl, -⟩:=h2;go_wp2_with fail;go_meet;exact⟨rfl,H2.out⟩
    ·have e1:k=cp:=by omega
     have e2:n=cp:=by omega
     subst e1;subst e2;clear hkc j0 j1 j2;have hsA:Sm No wr (wr.alloc (.cells #[.slice (some ad) 0 0] 22)):=(Sm.refl No wr).alloc _;have hbA:=Bk.new wr 22 #[.slice (some ad) 0 0];have HF:=ns (HFeed.out _ hsA (some ad) 0 (by rw [show n-n=0 from Nat.sub_self n];exact hbA.at 0 rfl) ⟨(fun j u hj=>by rw [List.drop_of_length_le (by rw [HNn.out];exact Nat.le_refl _)] at hj;simp at hj),(fun a e h=>absurd (List.drop_of_length_le (by rw [HNn.out];exact Nat.le_refl _)) h),by omega,hbA.lt⟩);clear hbA;go_wp2_with fail;refine HF.out.mono ?_;intro e w2 h2;have H2:=ns (hMid.out _ hsA e w2 h2);obtain⟨rfl, -⟩:=h2;go_wp2_with fail;go_meet;exact⟨rfl,H2.out⟩
  case rest=>
   obtain⟨rfl,hI2,hok2,hs2⟩:=hcut;have hap:∀ q∈qs,q.In wc R:=fun q hq=>(HS.out.rows.ok q hq).sm hs2 (fun x e=>(HS.out.rb x e).2.2);have hrows2:gz wc w0.heap.size R u4 qs:=HS.out.rows.sm hs2 (fun x e=>(HS.out.rb x e).2.2) (fun b e=>HS.out.vb b e);have HC:=ns (BT hI2 (BT hok2 (BT hs2 hrows2)));have hb0c:=H0.out.2.2.2.sm ((HS.out.sm).trans hs2 (fun x hx e=>absurd (HS.out.ob x e) (by omega))) (fun e=>e);have hc0:=hb0c.all;have hz0:=hb0c.fz;have hl0:=hb0c.lt;have HB0:=ns hb0c;have hs2z:=ns (BT hI2 hs2);have hnk:=kR (t.drop k) .idle;rw [HFd.out,hdl] at hnk;dsimp only at hnk;have HSz:=ns (BT hnk hlt);clear hI2 hok2 hs2 hrows2 hap hb0c hdl hlt hb0w;by_cases hph:s'.phase=3
   ·obtain⟨hd,bd,rfl⟩:=gY hph;have HT:=ns (yY wc (aA O wr wc) g hd bd HC.out.1 HC.out.2.1);clear hph;go_wp2_with fail;refine HT.out.mono ?_;rintro e w3 ⟨v,R3,P3,rfl,hq3,hI3,hP3,hR3,hs3⟩;obtain⟨q,hqx,rfl,hqi⟩:=hq3.m;rw [show q.cells.toArray=#[.string ⟨q.x.1.method.toArray⟩,.int .i64 q.x.1.target.form,.string ⟨q.x.1.target.host.toArray⟩,.string ⟨q.x.1.target.path.toArray⟩,.string ⟨q.x.1.target.query.toArray⟩,.int .i64 q.x.1.minor,.slice q.a1 q.x.1.fields.length q.c1,.slice q.a2 q.x.2.length q.c2,.bool q.x.1.how.close,.bool q.x.1.how.expect] from rfl];obtain⟨b8,hb8⟩:=Iu w3.heap.size;obtain⟨w4,hw4⟩:∃ w4,w3.alloc (.cells #[.string ⟨q.x.1.method.toArray⟩,.int .i64 q.x.1.target.form,.string ⟨q.x.1.target.host.toArray⟩,.string ⟨q.x.1.target.path.toArray⟩,.string ⟨q.x.1.target.query.toArray⟩,.int .i64 q.x.1.minor,.slice q.a1 q.x.1.fields.length q.c1,.slice q.a2 q.x.2.length q.c2,.bool q.x.1.how.close,.bool q.x.1.how.expect] 62)=w4:=⟨_,rfl⟩;have hs4:Sm No w3 w4:=by rw [←hw4];exact(Sm.refl No w3).alloc _
    have hb4:Bk w4 b8 62 #[.string ⟨q.x.1.method.toArray⟩,.int .i64 q.x.1.target.form,.string ⟨q.x.1.target.host.toArray⟩,.string ⟨q.x.1.target.path.toArray⟩,.string ⟨q.x.1.target.query.toArray⟩,.int .i64 q.x.1.minor,.slice q.a1 q.x.1.fields.length q.c1,.slice q.a2 q.x.2.length q.c2,.bool q.x.1.how.close,.bool q.x.1.how.expect]:=by rw [←hw4,←hb8];exact Bk.new w3 _ _
    have hz3:=hs2z.out.2.size;have hu4:∀ b,u4.ownBlock=some b→w0.heap.size≤b∧b < wr.heap.size:=fun b e=>World.ownsRow.lt HS.out.rows.own b e;have hrows3:gz w3 w0.heap.size R u4 qs:=HC.out.2.2.2.sm hs3 (fun x e e2=>e2.elim (HS.out.rb x e).2.2 (fun e2=>by have:=(HS.out.rb x e).2.1;omega)) (fun b e e2=>e2.elim (HS.out.vb b e) (fun e2=>by have:=(hu4 b e).2;omega));have hn5:nn≤t.length:=by have:=HSz.out.1;have:=HNn.out;omega
    have H4:=ns (BT hw4 (BT hb8 (BT hs4 (BT hb4 (BT hrows3 (BT hs3 (BT hI3 (BT hP3 (BT hR3 (BT hqi (BT hqx hu4)))))))))));have HOwn:=ns ((hrows3.no hs4).own.alloc (.cells #[.string ⟨q.x.1.method.toArray⟩,.int .i64 q.x.1.target.form,.string ⟨q.x.1.target.host.toArray⟩,.string ⟨q.x.1.target.path.toArray⟩,.string ⟨q.x.1.target.query.toArray⟩,.int .i64 q.x.1.minor,.slice q.a1 q.x.1.fields.length q.c1,.slice q.a2 q.x.2.length q.c2,.bool q.x.1.how.close,.bool q.x.1.how.expect] 62));have hb8n:∀ b,u4.ownBlock=some b→b≠b8:=fun b e e2=>by
     have h1:=(hu4 b e).2;have h2:=hs3.size;have h3:=hs2z.out.2.size;rw [e2,←hb8] at h1;omega
    have hb3c:=HB0.out.sm hs3 (fun e=>e.elim (fun e=>by have h1:=HS.out.ob _ e;have h2:=H0.out.2.2.2.lt;have h3:w.heap.size=b3:=H0.out.2.1;have h4:w.heap.size < w0.heap.size:=by rw [h3];exact h2
                                                        omega) (fun e=>by have h2:=H0.out.2.2.2.lt;have:=HS.out.sm.size;omega))
    have HB3:=ns (hb3c.sm hs4 (fun e=>e));have HB8:=ns (BT hb4 hb8n);have hql:qs.length≤1000000:=by have h1:=HS.out.len;have h2:=HG.out.2.2.2.2;have h3:=HNn.out;omega
    have hB4:w0.heap.size≤(w4.alloc (.cells #[.string ⟨q.x.1.method.toArray⟩,.int .i64 q.x.1.target.form,.string ⟨q.x.1.target.host.toArray⟩,.string ⟨q.x.1.target.path.toArray⟩,.string ⟨q.x.1.target.query.toArray⟩,.int .i64 q.x.1.minor,.slice q.a1 q.x.1.fields.length q.c1,.slice q.a2 q.x.2.length q.c2,.bool q.x.1.how.close,.bool q.x.1.how.expect] 62)).heap.size:=by have h1:=HS.out.sm.size;have h2:=hs4.size;have h5:=hs3.size;have h6:=hs2z.out.2.size;rw [World.size_alloc];omega
    have hone:∀ u∈(#[.string ⟨q.x.1.method.toArray⟩,.int .i64 q.x.1.target.form,.string ⟨q.x.1.target.host.toArray⟩,.string ⟨q.x.1.target.path.toArray⟩,.string ⟨q.x.1.target.query.toArray⟩,.int .i64 q.x.1.minor,.slice q.a1 q.x.1.fields.length q.c1,.slice q.a2 q.x.2.length q.c2,.bool q.x.1.how.close,.bool q.x.1.how.expect]:Array Value).toList,u.oneCell'=true:=fun u hu=>(List.all_eq_true.1 (rfl:((#[.string ⟨q.x.1.method.toArray⟩,.int .i64 q.x.1.target.form,.string ⟨q.x.1.target.host.toArray⟩,.string ⟨q.x.1.target.path.toArray⟩,.string ⟨q.x.1.target.query.toArray⟩,.int .i64 q.x.1.minor,.slice q.a1 q.x.1.fields.length q.c1,.slice q.a2 q.x.2.length q.c2,.bool q.x.1.how.close,.bool q.x.1.how.expect]:Array Value).toList.all (fun v=>v.oneCell'))=true)) u hu;have hkn:IntKind.i64.wrap ((k:Int)+(nn:Int))=(k:Int)+(nn:Int):=IntWalk.i64_in _ (by have:=HG.out.2.2.2.2;have:=HNn.out;have:=HSz.out.1;omega);have HOne:=ns (BT hone (BT hql hB4));clear hs3 hI3 hP3 hR3 hqi hqx hw4 hb8 hs4 hb4 hrows3 hb8n hb3c hc0 hz0 hu4 hone hql hB4;go_upto_region 8 with fail;rw [H4.out.1,H4.out.2.1];go_upto_region 10 with (first|(refine bF rfl 62 _ rfl Tryz.underlying62 10 rH b8 rfl _ HB8.out.1 rfl ?_)|(at_builtin;refine aq rfl _ _ 30 62 rfl Tryz.underlying30 (.agg AL) 10 136 Ej rfl (by decide) (by decide) w0.heap.size qs.length u4 (dw qs) rfl HOwn.out w4.heap.size #[.string ⟨q.x.1.method.toArray⟩,.int .i64 q.x.1.target.form,.string ⟨q.x.1.target.host.toArray⟩,.string ⟨q.x.1.target.path.toArray⟩,.string ⟨q.x.1.target.query.toArray⟩,.int .i64 q.x.1.minor,.slice q.a1 q.x.1.fields.length q.c1,.slice q.a2 q.x.2.length q.c2,.bool q.x.1.how.close,.bool q.x.1.how.expect] rfl (Bk.new w4 _ _) rfl HOne.out.1 HOne.out.2.1 HOne.out.2.2 ?_;intro v6 w6 hown6 hs6 hv6;have hb86:=(HB8.out.1.alloc (.cells #[.string ⟨q.x.1.method.toArray⟩,.int .i64 q.x.1.target.form,.string ⟨q.x.1.target.host.toArray⟩,.string ⟨q.x.1.target.path.toArray⟩,.string ⟨q.x.1.target.query.toArray⟩,.int .i64 q.x.1.minor,.slice q.a1 q.x.1.fields.length q.c1,.slice q.a2 q.x.2.length q.c2,.bool q.x.1.how.close,.bool q.x.1.how.expect] 62)).sm hs6 (fun e=>HB8.out.2 _ e rfl);have hc86:=hb86.at 8 (v:=.bool q.x.1.how.close) rfl;have hl86:=hb86.lt;have H6:=ns (BT hown6 (BT hs6 hv6));clear hown6 hs6 hv6));obtain⟨cl,hcl⟩:=Iu q.x.1.how.close;rw [hcl] at hc86;have HCl:=ns hcl;clear hcl;obtain⟨hw4,hb8,hs4,hb4,hrows3,hs3,hI3,hP3,hR3,hqi,hqx,hu4⟩:=H4.out;obtain⟨hown6,hs6,hv6⟩:=H6.out;have z1:=HS.out.sm.size;have z2:=HC.out.2.2.1.size;have z3:=hs3.size;have z4:=hs4.size;have hsB:Sm No w4 (w4.alloc (.cells #[.string ⟨q.x.1.method.toArray⟩,.int .i64 q.x.1.target.form,.string ⟨q.x.1.target.host.toArray⟩,.string ⟨q.x.1.target.path.toArray⟩,.string ⟨q.x.1.target.query.toArray⟩,.int .i64 q.x.1.minor,.slice q.a1 q.x.1.fields.length q.c1,.slice q.a2 q.x.2.length q.c2,.bool q.x.1.how.close,.bool q.x.1.how.expect] 62)):=(Sm.refl No w4).alloc _;have z5:=hsB.size;have z6:=hs6.size;have og:=HC.out.1.og;have hsp:=HS.out.sp;have hs0c:Sm No w0 w3:=(HS.out.sm.trans HC.out.2.2.1 (fun x hx e=>absurd (HS.out.ob x e) (by omega))).trans hs3 (fun x hx e=>e.elim (fun e=>absurd (HS.out.ob x e) (by omega)) (fun e=>absurd e.1 (by omega)));have hs06:Sm No w0 w6:=((hs0c.tt hs4).tt hsB).fresh hs6 (fun b e=>(hu4 b e).1);have hown:w6.ownsRow w0.heap.size 62 10 v6 (qs++[q]).length (dw (qs++[q])):=by rw [ku,List.length_append];exact hown6
    have hR3b:∀ x,R3 x→w0.heap.size≤x∧x < w3.heap.size∧u4.ownBlock≠some x:=fun x e=>by
     rcases (hR3 x e).1 with e1|⟨e1,e2⟩
     ·rcases e1 with e1|⟨e1,e2⟩
      ·exact⟨HS.out.ob x e1,by have:=HSz.out.2 x e1;omega,fun e3=>HS.out.vb x e3 e1⟩
      ·exact⟨by omega,by omega,fun e3=>by have:=(hu4 x e3).2;omega⟩
     ·exact⟨by omega,e2,fun e3=>by have:=(hu4 x e3).2;omega⟩
    have hRu:∀ x,R x→u4.ownBlock≠some x:=fun x e e2=>HS.out.rows.apart x e2 e;have hrows6:gz w6 w0.heap.size (fun x=>R x∨R3 x) v6 (qs++[q]):=by
     refine⟨hown,fun y hy=> ?_,fun b e=> ?_⟩
     ·rcases List.mem_append.1 hy with hy|hy
      ·exact((((hrows3.ok y hy).sm hs4 (fun _ _ e=>e)).sm hsB (fun _ _ e=>e)).sm hs6 (fun x e e2=>hRu x e e2)).imp (fun x e=>Or.inl e)
      ·rw [List.mem_singleton] at hy;subst hy;exact(((hqi.sm hs4 (fun _ _ e=>e)).sm hsB (fun _ _ e=>e)).sm hs6 (fun x e e2=>(hR3b x e).2.2 e2)).imp (fun x e=>Or.inr e)
     ·rcases hv6 with hv|hv
      ·rw [hv] at e;rintro(e2|e2)
       ·exact hRu b e2 e
       ·exact(hR3b b e2).2.2 e
      ·rw [hv] at e;injection e with e;rintro(e2|e2)
       ·have:=(HS.out.rb b e2).2.1;omega
       ·have:=(hR3b b e2).2.1;omega
    have hRb:∀ x,(R x∨R3 x)→w0.heap.size≤x∧x < w6.heap.size:=by
     rintro x (e|e)
     ·have:=HS.out.rb x e;omega
     ·have:=hR3b x e;omega
    have HX:=ns (BT hs06 (BT hrows6 hRb));have h3b:b3 < w0.heap.size:=H0.out.2.2.2.lt;have hb36:=(HB3.out.sm hsB (fun e=>e)).sm hs6 (fun e=>by have h1:=(hu4 _ e).1;omega);have HB36:=ns hb36;have hc36:=hb36.all;have hz36:=hb36.fz;have hl36:=hb36.lt
    cases cl with
    |true=>
     have hspL:=nU HFd.out (show hd.how.close=true from by have:=HCl.out;rw [hqx] at this;exact this);rw [hspL] at hsp;have HSp:=ns hsp;clear hsp hspL hown hrows6 hRb hs06 hb36 hs0c hR3b hRu hown6 hs6 hv6 hw4 hb8 hs4 hb4 hrows3 hs3 hI3 hP3 hR3 hqi hsB og;go_wp2_with fail;have hbF:=(((HB36.out.set 0 (.int .i64 ((k:Int)+(nn:Int)))).set 1 (.int .i64 0)).set 2 (.int .i64 0));have d0:=hbF.at 0 (v:=.int .i64 ((k:Int)+(nn:Int))) rfl;have d1:=hbF.at 1 (v:=.int .i64 0) rfl;have d2:=hbF.at 2 (v:=.int .i64 0) rfl;have hb3:w.heap.size=b3:=H0.out.2.1;have hsF:Sm (fun x=>x=b3) w6 _:=(((Sm.refl (fun x=>x=b3) w6).set1 0 (.int .i64 ((k:Int)+(nn:Int)))).set1 1 (.int .i64 0)).set1 2 (.int .i64 0);refine bodyPost_ret (v:=.tuple #[v6,.agg #[.int .i64 ((k:Int)+(nn:Int)),.int .i64 0,.int .i64 0]]) (by simp [results,Tryz.results37,go_sem,d0,d1,d2]) rfl ⟨v6,qs++[q],fun x=>R x∨R3 x,?_,?_,?_,?_,?_⟩
     ·rw [HSp.out];rfl
     ·rw [HSp.out];simp [hqx]
     ·have e1:gz _ w0.heap.size (fun x=>R x∨R3 x) v6 (qs++[q]):=HX.out.2.1.sm hsF (fun x e e2=>by have:=(HX.out.2.2 x e).1;omega) (fun b e e2=>by have:=(World.ownsRow.lt HX.out.2.1.own b e).1;omega);exact⟨bc e1.own (fun b e=>by have:=(World.ownsRow.lt HX.out.2.1.own b e).1;omega),e1.ok,e1.apart⟩
     ·intro x e;have h1:=HX.out.2.2 x e;have h4:=hsF.size;omega
     ·exact((H0.out.2.2.1).tt HX.out.1).fresh hsF (fun b e=>by omega)
    |false=>
     have hspM:=nw HFd.out (show hd.how.close=false from by have:=HCl.out;rw [hqx] at this;exact this);rw [hspM] at hsp;have HSp:=ns hsp;have hprs:cx w6 P3 g .idle:=((hI3.no hs4).no hsB).out hs6 (fun x e e2=>by
      rcases hP3 x e with e3|e3
      ·subst e3;rcases og with e4|e4
       ·exact HS.out.vb _ e2 e4
       ·have:=(hu4 _ e2).2;omega
      ·have:=(hu4 _ e2).2;omega)
     have HP6:=ns (BT hprs (BT hP3 (BT hR3 (BT hI3.lt (BT hu4 (BT hv6 (BT hR3b og)))))));clear hprs hsp hspM hown hrows6 hRb hs06 hb36 hs0c hR3b hRu hown6 hs6 hv6 hw4 hb8 hs4 hb4 hrows3 hs3 hI3 hP3 hR3 hqi hsB hc36 hz36 hl36 og;have hnp:=(gM HFd.out rfl).1;clear hqx;go_wp2_with fail;obtain⟨hprs,hP3,hR3,hlt3,hu4,hv6,hR3b,og⟩:=HP6.out;have gnn:w0.heap.size≤g:=HS.out.ob g HS.out.prs.og;have glt:g < wr.heap.size:=HS.out.prs.lt g HS.out.prs.og;have hP3g:∀ x,P3 x→x=g∨wc.heap.size≤x:=hP3;refine⟨⟨k+nn,qs++[q],P3,fun x=>R x∨R3 x,by have h1:=HSz.out.1;have h2:=HNn.out;omega,by go_num,?_,HX.out.2.1,hprs,?_,?_,?_,HX.out.1,?_⟩,?_⟩
     ·rw [HSp.out,List.drop_drop,List.map_append,List.map_singleton,H4.out.2.2.2.2.2.2.2.2.2.2.1];simp only [List.append_assoc,List.singleton_append,Prod.mk.injEq,true_and,and_true];omega
     ·intro x e;rcases hP3g x e with e|e
      ·omega
      ·omega
     ·rintro x (e|e)
      ·have h1:=HS.out.rb x e;refine⟨h1.1,by omega,fun e2=> ?_⟩;rcases hP3g x e2 with e3|e3
       ·subst e3;exact h1.2.2 HS.out.prs.og
       ·omega
      ·have h1:=hR3b x e;exact⟨h1.1,by omega,(hR3 x e).2⟩
     ·intro b e e2;rcases hv6 with hv|hv
      ·rw [hv] at e;have h1:=hu4 b e;rcases hP3g b e2 with e3|e3
       ·subst e3;exact HS.out.vb _ e HS.out.prs.og
       ·omega
      ·rw [hv] at e;injection e with e;have:=hlt3 b e2;omega
     ·have h1:=HS.out.len;rw [List.length_append,List.length_singleton];omega
     ·simp only [intOf];have h1:=HNn.out;have h2:=HSz.out.1;omega
   ·have HT:=ns (Eo wc (aA O wr wc) g s' HC.out.1 hph);have HPh:=ns hph;unfold AL at HT;clear hph;go_wp2_with fail;refine HT.out.mono ?_;rintro e w3 ⟨rfl,hs3⟩;obtain⟨w4,hw4⟩:∃ w4,w3.alloc (.cells #[.string ⟨#[]⟩,.int .i64 0,.string ⟨#[]⟩,.string ⟨#[]⟩,.string ⟨#[]⟩,.int .i64 0,.slice none 0 0,.slice none 0 0,.bool false,.bool false] 62)=w4:=⟨_,rfl⟩;have hs4:Sm No wc w4:=by rw [←hw4];exact hs3.alloc _
    have HP4:=ns (wN w4 _ g s' (HC.out.1.no hs4));have HS4:=ns (uX w4 _ g s' (HC.out.1.no hs4));have H4:=ns (BT hw4 hs4);obtain⟨ph,hph⟩:=Iu s'.phase;obtain⟨st,hst⟩:=Iu s'.status;rw [hph] at HP4;rw [hst] at HS4;have HV:=ns (BT hph hst);have hb4:=HB0.out.sm hs4 (fun e=>e);have hc4:=hb4.all;have hz4:=hb4.fz;have hl4:=hb4.lt;have HB4:=ns hb4;clear hs3 hw4 hs4 hph hst hc0 hz0 hb4;go_upto_region 7 with fail;rw [H4.out.1];go_wp2_with fail;refine HP4.out.mono ?_;rintro e w5 ⟨rfl,rfl⟩;go_wp2_with fail;refine HS4.out.mono ?_;rintro e w5 ⟨rfl,rfl⟩;go_wp2_with fail;have hbF:=(((HB4.out.set 0 (.int .i64 (k:Int))).set 1 (.int .i64 ph)).set 2 (.int .i64 st));have d0:=hbF.at 0 (v:=.int .i64 (k:Int)) rfl;have d1:=hbF.at 1 (v:=.int .i64 ph) rfl;have d2:=hbF.at 2 (v:=.int .i64 st) rfl;have hsp:=HS.out.sp;rw [nR HFd.out HPh.out] at hsp;have hb3:w.heap.size=b3:=H0.out.2.1;have hs0:=H0.out.2.2.1;have hs0c:Sm No w0 wc:=HS.out.sm.trans HC.out.2.2.1 (fun x hx e=>absurd (HS.out.ob x e) (by omega));have hsF:Sm (fun x=>x=b3) w4 _:=(((Sm.refl (fun x=>x=b3) w4).set1 0 (.int .i64 (k:Int))).set1 1 (.int .i64 ph)).set1 2 (.int .i64 st);have hz0w:w.heap.size < w0.heap.size:=by rw [hb3];exact H0.out.2.2.2.lt
    refine bodyPost_ret (v:=.tuple #[u4,.agg #[.int .i64 (k:Int),.int .i64 ph,.int .i64 st]]) (by simp [results,Tryz.results37,go_sem,d0,d1,d2]) rfl ⟨u4,qs,R,?_,?_,?_,?_,?_⟩
    ·rw [hsp];unfold ul;dsimp only;rw [HV.out.1,HV.out.2,Nat.add_zero]
    ·rw [hsp];simp
    ·have e1:gz _ w0.heap.size R u4 qs:=(HC.out.2.2.2.no H4.out.2).sm hsF (fun x e e2=>by have:=(HS.out.rb x e).1;omega) (fun b e e2=>by have:=(World.ownsRow.lt HS.out.rows.own b e).1;omega);exact⟨bc e1.own (fun b e=>by have:=(World.ownsRow.lt HS.out.rows.own b e).1;omega),e1.ok,e1.apart⟩
    ·intro x e;have h1:=HS.out.rb x e;have h2:=HC.out.2.2.1.size;have h3:=H4.out.2.size;have h4:=hsF.size;omega
    ·exact((hs0.tt hs0c).tt H4.out.2).fresh hsF (fun b e=>by omega)
end Go.Proofs.YtcflkcbogofgbaaGreatDoor
