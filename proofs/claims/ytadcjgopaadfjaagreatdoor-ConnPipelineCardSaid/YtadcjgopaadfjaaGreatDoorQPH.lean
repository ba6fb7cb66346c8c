import Derived.Test.YtadcjgopaadfjaaGreatDoorQPG
import Derived.Test.YtadcjgopaadfjaaGreatDoorQM
set_option maxHeartbeats 32000000
set_option maxRecDepth 100000
namespace Go.Proofs.YtadcjgopaadfjaaGreatDoor
open Go.RowKit Go.Proofs
def Fm(w:World)(R:Nat→Prop)(x:Hd × ah)(v:Value):Prop:=
 ∃ A1 c1 A2 c2,v=DD (Fq (Fu x.1 x.2)) A1 c1 A2 c2∧ec w A1 x.1.fields∧(A1=none→x.1.fields.length=0∧c1=0)∧ax w A2 (aL x.2)∧(A2=none→x.2.length=0∧c2=0)∧(∀ a,A1=some a→R a.block)∧(∀ a,A2=some a→R a.block)∧x.1.fields.length≤c1∧x.2.length≤c2
def yr(w:World)(O:Nat→Prop)(g:Nat)(x:Hd × ah)(e:Ending)(w':World):Prop:=
 ∃ v R P,e=.returned (.tuple #[v,.int .i64 0])∧Fm w' R x v∧bZ w' P g .idle∧(∀ y,P y→y=g∨w.heap.size≤y)∧(∀ y,R y→be O w w' y∧¬P y)∧Sm O w w'
theorem CY:(Tryz.prog.info? 152).map (·.size)=some 8:=by kernel_rfl
theorem BR:(Tryz.prog.info? 172).map (·.size)=some 10:=by kernel_rfl
theorem Bk.setRow{w:World}{g:Nat}{t:TypeId}{old:Array Value}(h:Bk w g t old)(cs:Array Value):Bk (w.setRow g cs) g t cs:=setRow_heap w g old cs t _ h
theorem zX(w:World)(O:Nat→Prop)(g:Nat)(h:Hd)(B:ah)(hI:bZ w O g (.whole h B))(ho:cK (.whole h B)):
 Calls Tryz.prog 100 #[.pointer (some ⟨g,0,none⟩)] w (yr w O g (h,B)):=by
 obtain⟨⟨gh,gf,vF,ln,left,vB,ch,fed,hK,hh,hB,hBo⟩,og,lt⟩:=hI;obtain⟨A2,c2,rfl,hR2,hc2,hn2⟩:=hB.row;have hgl:=Bk.lt hK;have hc:=Bk.all hK;have hz:=Bk.fz hK;unfold cn at hc;have hf1:h.fields.length≤24:=ho.1.ok.len;have H:=aa (ab hK (ab hh (ab hB (ab hBo (ab og (ab lt (ab hR2 (ab hc2 hn2))))))));obtain⟨w1,hw1⟩:∃ w1,w.alloc (.cells #[.string ⟨#[]⟩,.int .i64 0,.string ⟨#[]⟩,.string ⟨#[]⟩,.string ⟨#[]⟩,.int .i64 0,.slice none 0 0,.slice none 0 0,.bool false,.bool false] 172)=w1:=⟨_,rfl⟩;obtain⟨b0,hb0⟩:=ai w.heap.size;have hs1:Sm No w w1:=by rw [←hw1];exact(Sm.refl No w).alloc _
 have hz0:Bk w1 b0 172 #[.string ⟨#[]⟩,.int .i64 0,.string ⟨#[]⟩,.string ⟨#[]⟩,.string ⟨#[]⟩,.int .i64 0,.slice none 0 0,.slice none 0 0,.bool false,.bool false]:=by rw [←hw1,←hb0];exact Bk.new w _ _
 have hK1:fB w1 g 3 0 ln (cn gh) left (.slice A2 B.length c2) ch fed:=Bk.sm hK hs1 (fun e=>e);have hc1:=Bk.all hK1;have hz1:=Bk.fz hK1;have hgl1:=Bk.lt hK1;unfold cn at hc1;have hl0:=hz0.lt;have H1:=aa (ab hw1 (ab hb0 (ab hs1 (ab hz0 hK1))));have HHow:=aa (mw w1 0 gh gf vF h (hh.ph.no hs1));unfold qC at HHow;clear hK hh hB hBo og lt hR2 hc2 hn2 hw1 hb0 hs1 hz0 hK1 ho;go_in;go_upto_region 3 with fail;rw [H1.out.1,H1.out.2.1];clear hc hz;go_wp2_with fail;refine HHow.out.mono ?_;rintro e w2 ⟨rfl,hs2⟩;obtain⟨w3,hw3⟩:∃ w3,w2.alloc (.cells #[.int .i64 h.how.kind,.int .i64 h.how.len,.bool h.how.close,.bool h.how.expect] 185)=w3:=⟨_,rfl⟩;obtain⟨b1,hb1⟩:=ai w2.heap.size;have hs3:Sm No w1 w3:=by rw [←hw3];exact hs2.alloc _
 have hb3:Bk w3 b1 185 #[.int .i64 h.how.kind,.int .i64 h.how.len,.bool h.how.close,.bool h.how.expect]:=by rw [←hw3,←hb1];exact Bk.new w2 _ _
 have hs03:Sm No w w3:=H1.out.2.2.1.tt hs3;have hK3:fB w3 g 3 0 ln (cn gh) left (.slice A2 B.length c2) ch fed:=Bk.sm H1.out.2.2.2.2 hs3 (fun e=>e);have hh3:=H.out.2.1.no hs03;have r1:=Bk.at hK3 3 (v:=.pointer (some ⟨gh,0,none⟩)) rfl;have r2:=hh3.ph.bk.at 0 (v:=.pointer (some ⟨gf,0,none⟩)) rfl;have r3:=Bk.at hK3 5 (v:=.slice A2 B.length c2) rfl;have r4:=hb3.at 2 (v:=.bool h.how.close) rfl;have r5:=hb3.at 3 (v:=.bool h.how.expect) rfl;have q1:w3.drew.cell? ⟨g,3,none⟩=some (.pointer (some ⟨gh,0,none⟩)):=r1;have q2:w3.drew.cell? ⟨gh,0,none⟩=some (.pointer (some ⟨gf,0,none⟩)):=r2;have q3:w3.drew.cell? ⟨g,5,none⟩=some (.slice A2 B.length c2):=r3;have q4:w3.drew.cell? ⟨b1,2,none⟩=some (.bool h.how.close):=r4;have q5:w3.drew.cell? ⟨b1,3,none⟩=some (.bool h.how.expect):=r5;have l1:=Bk.lt hK3;have l2:=hh3.ph.bk.lt;have l3:=hb3.lt;have HAll:=aa (fun (W:World) (hW:Sm No w3 W)=>DS W 0 gf vF h.fields (hh3.ph.fs.no hW) (by omega));have HS:=aa (fun (W':World) (hW:Sm No w3 W')=>show W'.cell? ⟨g,3,none⟩=some (.pointer (some ⟨gh,0,none⟩))∧W'.cell? ⟨gh,0,none⟩=some (.pointer (some ⟨gf,0,none⟩))∧W'.cell? ⟨g,5,none⟩=some (.slice A2 B.length c2)∧W'.cell? ⟨b1,2,none⟩=some (.bool h.how.close)∧W'.cell? ⟨b1,3,none⟩=some (.bool h.how.expect) from⟨hW.cell l1 r1,hW.cell l2 r2,hW.cell l1 r3,hW.cell l3 r4,hW.cell l3 r5⟩);have H3:=aa (ab hw3 (ab hb1 (ab hs03 (ab hb3 (ab hK3 hh3)))));have H03:=aa hs3;clear hs2 hw3 hb1 hs3 hb3 hs03 hK3 hh3 hc1 hz1;go_upto_region 4 with fail;rw [H3.out.1,H3.out.2.1]
 go_cut [5] from 21 to 37 (fun e wx=>∃ b2 A1 c1,e=.pointer (some ⟨b2,0,none⟩)∧w3.heap.size≤b2∧Bk wx b2 172 #[.string ⟨#[]⟩,.int .i64 0,.string ⟨#[]⟩,.string ⟨#[]⟩,.string ⟨#[]⟩,.int .i64 0,.slice A1 h.fields.length c1,.slice A2 B.length c2,.bool h.how.close,.bool h.how.expect]∧wx.ownsRow w3.heap.size 143 2 (.slice A1 h.fields.length c1) h.fields.length (av h.fields)∧Sm No w3 wx)
 case first=>
  go_region_held3 (fun w'=>w'.cell? ⟨g,3,none⟩=some (.pointer (some ⟨gh,0,none⟩))∧w'.cell? ⟨gh,0,none⟩=some (.pointer (some ⟨gf,0,none⟩))∧w'.cell? ⟨g,5,none⟩=some (.slice A2 B.length c2)∧w'.cell? ⟨b1,2,none⟩=some (.bool h.how.close)∧w'.cell? ⟨b1,3,none⟩=some (.bool h.how.expect)) (first|with_reducible exact⟨r1,r2,r3,r4,r5⟩|with_reducible exact⟨q1,q2,q3,q4,q5⟩|with_reducible exact⟨s1,s2,s3,s4,s5⟩|(refine HS.out _ (by repeat (first|with_reducible exact Sm.refl _ _|with_reducible exact hs5|with_reducible refine Sm.drew ?_|with_reducible refine Sm.alloc ?_ _|with_reducible refine Sm.setN ?_ (by first|exact Nat.le_refl _|exact hs5.size) _ _));done))
   (first
    |(go_at_call 127;(with_reducible refine(HAll.out w3.drew (Sm.refl No w3).drew).mono ?_);rintro e w5 ⟨v5,rfl,h5o,h5⟩;obtain⟨A1,c1,hv5,hr5⟩:=au h5o;subst hv5;have hs5:=((Sm.refl No w3).drew).tt h5;have s1:=hs5.cell l1 r1;have s2:=hs5.cell l2 r2;have s3:=hs5.cell l1 r3;have s4:=hs5.cell l3 r4;have s5:=hs5.cell l3 r5)
    |(go_at_call 127;(with_reducible refine(HAll.out (w3.alloc (.cells #[.string ⟨#[]⟩,.int .i64 0,.string ⟨#[]⟩,.string ⟨#[]⟩,.string ⟨#[]⟩,.int .i64 0,.slice none 0 0,.slice none 0 0,.bool false,.bool false] 172)).drew ((Sm.refl No w3).alloc _).drew).mono ?_);rintro e w5 ⟨v5,rfl,h5o,h5⟩;obtain⟨A1,c1,hv5,hr5⟩:=au h5o;subst hv5;have hs5:=(((Sm.refl No w3).alloc _).drew).tt h5;have s1:=hs5.cell l1 r1;have s2:=hs5.cell l2 r2;have s3:=hs5.cell l1 r3;have s4:=hs5.cell l3 r4;have s5:=hs5.cell l3 r5;have hbn:Bk w5 w3.heap.size 172 #[.string ⟨#[]⟩,.int .i64 0,.string ⟨#[]⟩,.string ⟨#[]⟩,.string ⟨#[]⟩,.int .i64 0,.slice none 0 0,.slice none 0 0,.bool false,.bool false]:=(Bk.new w3 _ _).drew.sm h5 (fun h=>h);have hln:=hbn.lt;have hcn:=hbn.all;have hzn:=hbn.fz))
  ·go_wp2_with fail;go_meet;have hlo:=World.ownsRow.lt h5o;exact⟨w5.heap.size,A1,c1,rfl,hs5.size,Bk.new w5 _ _,World.ownsRow.alloc (bI h5o (fun b e=>(hlo b e).1)) _,hs5.alloc _⟩
  ·go_wp2_with fail;go_meet;have hlo:=World.ownsRow.lt h5o;have hsz:((w3.alloc (.cells #[.string ⟨#[]⟩,.int .i64 0,.string ⟨#[]⟩,.string ⟨#[]⟩,.string ⟨#[]⟩,.int .i64 0,.slice none 0 0,.slice none 0 0,.bool false,.bool false] 172)).drew).heap.size=w3.heap.size+1:=by show (w3.alloc _).heap.size=_;simp
   refine⟨w3.heap.size,A1,c1,rfl,Nat.le_refl _,((((((((((hbn.set 0 _).set 1 _).set 2 _).set 3 _).set 4 _).set 5 _).set 6 _).set 7 _).set 8 _).set 9 _),bI (ae h5o (((((((((((Sm.refl (fun x=>x=w3.heap.size) w5).set1 0 _).set1 1 _).set1 2 _).set1 3 _).set1 4 _).set1 5 _).set1 6 _).set1 7 _).set1 8 _).set1 9 _) (fun b e e2=> ?_)) (fun b e=> ?_),?_⟩
   ·have:=(hlo b e).1;rw [hsz] at this;omega
   ·have:=(hlo b e).1;rw [hsz] at this;omega
   ·exact(((((((((hs5.setN (Nat.le_refl _) 0 _).setN (Nat.le_refl _) 1 _).setN (Nat.le_refl _) 2 _).setN (Nat.le_refl _) 3 _).setN (Nat.le_refl _) 4 _).setN (Nat.le_refl _) 5 _).setN (Nat.le_refl _) 6 _).setN (Nat.le_refl _) 7 _).setN (Nat.le_refl _) 8 _).setN (Nat.le_refl _) 9 _
 case rest=>
  obtain⟨b2,A1,c1,rfl,hl2,hb2,hown,hsc⟩:=hcut;have hs3c:Sm No w wc:=H3.out.2.2.1.tt hsc;have hKc:fB wc g 3 0 ln (cn gh) left (.slice A2 B.length c2) ch fed:=Bk.sm H3.out.2.2.2.2.1 hsc (fun e=>e);have hhc:=H.out.2.1.no hs3c;have hc2c:=hb2.all;have hz2c:=hb2.fz;have hl2c:=hb2.lt;have hcc:=Bk.all hKc;have hzc:=Bk.fz hKc;have hglc:=Bk.lt hKc;unfold cn at hcc;have HSt:=aa (nA wc 0 gh gf vF h hhc.ph);unfold xu at HSt;have HC:=aa (ab hl2 (ab hb2 (ab hown (ab hsc (ab hs3c (ab hKc hhc))))));clear hl2 hb2 hown hsc hs3c hKc hhc r1 r2 r3 r4 r5 q1 q2 q3 q4 q5;go_wp2_with fail;refine HSt.out.mono ?_;rintro e w6 ⟨rfl,hs6⟩;have hb6:=HC.out.2.1.sm hs6 (fun e=>e);have hcb6:=hb6.all;have hzb6:=hb6.fz;have hlb6:=hb6.lt;have hK6:fB w6 g 3 0 ln (cn gh) left (.slice A2 B.length c2) ch fed:=Bk.sm HC.out.2.2.2.2.2.1 hs6 (fun e=>e);have hgl6:=Bk.lt hK6;have hzg6:=Bk.fz hK6;have hcg6:=Bk.all hK6;unfold cn at hcg6;have H6:=aa (ab hb6 (ab hK6 hs6));clear hb6 hK6 hs6 hc2c hz2c hcc hzc;go_upto_region 6 with fail;obtain⟨w7,hw7⟩:=ai ((((((w6.setCell ⟨b2,0,none⟩ (.string ⟨h.method.toArray⟩)).setCell ⟨b2,1,none⟩ (.int .i64 h.target.form)).setCell ⟨b2,2,none⟩ (.string ⟨h.target.host.toArray⟩)).setCell ⟨b2,3,none⟩ (.string ⟨h.target.path.toArray⟩)).setCell ⟨b2,4,none⟩ (.string ⟨h.target.query.toArray⟩)).setCell ⟨b2,5,none⟩ (.int .i64 h.minor));have hs67:Sm (fun x=>x=b2) w6 w7:=by rw [←hw7];exact((((((Sm.refl _ w6).set1 0 _).set1 1 _).set1 2 _).set1 3 _).set1 4 _).set1 5 _
  have hb7:Bk w7 b2 172 #[.string ⟨h.method.toArray⟩,.int .i64 h.target.form,.string ⟨h.target.host.toArray⟩,.string ⟨h.target.path.toArray⟩,.string ⟨h.target.query.toArray⟩,.int .i64 h.minor,.slice A1 h.fields.length c1,.slice A2 B.length c2,.bool h.how.close,.bool h.how.expect]:=by rw [←hw7];exact((((((H6.out.1.set 0 _).set 1 _).set 2 _).set 3 _).set 4 _).set 5 _).eq rfl
  have hn2:g≠b2:=by have:=HC.out.1;omega
  have hK7:fB w7 g 3 0 ln (cn gh) left (.slice A2 B.length c2) ch fed:=Bk.sm H6.out.2.1 hs67 hn2;have hsc7:Sm No w w7:=(HC.out.2.2.2.2.1.tt H6.out.2.2).fresh hs67 (fun b e=>by subst e;exact Nat.le_trans H3.out.2.2.1.size HC.out.1);have hsc7b:Sm (fun x=>x=b2) wc w7:=(H6.out.2.2.any _).tt hs67;have HN:=aa (iP w7);have hb0c:Bk w7 b0 172 #[.string ⟨#[]⟩,.int .i64 0,.string ⟨#[]⟩,.string ⟨#[]⟩,.string ⟨#[]⟩,.int .i64 0,.slice none 0 0,.slice none 0 0,.bool false,.bool false]:=(((H1.out.2.2.2.1.sm H03.out (fun e=>e)).sm HC.out.2.2.2.1 (fun e=>e)).sm hsc7b (fun e=>by have h1:=HC.out.1;have h2:=H03.out.size;omega));have H7:=aa (ab hw7 (ab hb7 (ab hK7 (ab hsc7 (ab hsc7b hb0c)))));rw [hw7];clear hw7 hs67 hb7 hK7 hsc7 hsc7b hb0c hcb6 hzb6 hzg6 hcg6;go_wp2_with fail;refine HN.out.mono ?_;rintro e w8 ⟨gn,rfl,⟨⟨gh2,gf2,vF2,vL2,hKn,hhn,hln⟩,ogn,ltn⟩,hs8⟩;obtain⟨A5,c5,hv5, -⟩:=hln.1.slice;subst hv5;have hgn:w7.heap.size≤gn:=ogn.1;have hK8:=Bk.sm H7.out.2.2.1 hs8 (fun e=>e);have hgl8:=Bk.lt hK8;have hzg8:=Bk.fz hK8;have hcg8:=Bk.all hK8;have hgnl:=Bk.lt hKn;have hcn:=Bk.all hKn;have hzn:=Bk.fz hKn;unfold cn bD at hcn;unfold cn at hcg8;dsimp only [List.length_nil] at hcn;obtain⟨w9,hw9⟩:∃ w9,w8.setRow g #[.int .i64 0,.int .i64 0,.slice A5 0 c5,.pointer (some ⟨gh2,0,none⟩),.int .i64 0,.slice none 0 0,.pointer none,.int .i64 0]=w9:=⟨_,rfl⟩;have hs89:Sm (fun x=>x=g) w8 w9:=by rw [←hw9];exact(Sm.refl (fun x=>x=g) w8).setRow (Or.inl rfl) _
  have hK9:fB w9 g 0 0 (.slice A5 0 c5) (cn gh2) 0 bD (.pointer none) 0:=by rw [←hw9];exact Bk.setRow hK8 _
  have HKn:=aa (ab (show Bk w8 gn 152 #[.int .i64 0,.int .i64 0,.slice A5 0 c5,.pointer (some ⟨gh2,0,none⟩),.int .i64 0,.slice none 0 0,.pointer none,.int .i64 0] from hKn) (show Bk w8 g 152 _ from hK8));have hh9:=hhn.own hK8 rfl hs89;have hln9:=hln.own hK8 rfl hs89;have hne:gn≠g:=by have:=H7.out.2.2.2.1.size;omega
  have hb9:=(H7.out.2.1.sm hs8 (fun e=>e)).sm hs89 (fun e=>by have:=HC.out.1;omega);have hb09:=(H7.out.2.2.2.2.2.sm hs8 (fun e=>e)).sm hs89 (fun e=>by have:=H1.out.2.1;omega);have H9:=aa (ab hw9 (ab hs89 (ab hK9 (ab hh9 (ab hln9 (ab hb9 (ab hb09 (ab hs8 (ab ogn ltn)))))))));have hc9:=hb9.all;have hz9:=hb9.fz;have hl9:=hb9.lt;have hc09:=hb09.all;have hz09:=hb09.fz;have hl09:=hb09.lt;clear hw9 hs89 hK9 hh9 hln9 hb9 hb09 hKn hhn hln ogn ltn hs8 hK8;clear hzg8 hcg8 hcn hzn hc9 hz9 hc09 hz09;go_upto_region 7 with (first|(refine bj rfl 152 _ rfl Tryz.underlying152 8 CY gn rfl _ HKn.out.1 rfl ?_)|(refine wpList_store_row rfl 152 _ _ rfl g #[.int .i64 0,.int .i64 0,.slice A5 0 c5,.pointer (some ⟨gh2,0,none⟩),.int .i64 0,.slice none 0 0,.pointer none,.int .i64 0] rfl rfl 152 _ HKn.out.2 CY rfl (by simp [Value.oneCell']) ?_));rw [H9.out.1];go_wp2_with (first|(refine bj rfl 172 _ rfl Tryz.underlying172 10 BR b2 rfl _ H9.out.2.2.2.2.2.1 rfl ?_)|(refine wpList_store_row rfl 172 _ _ rfl b0 #[.string ⟨h.method.toArray⟩,.int .i64 h.target.form,.string ⟨h.target.host.toArray⟩,.string ⟨h.target.path.toArray⟩,.string ⟨h.target.query.toArray⟩,.int .i64 h.minor,.slice A1 h.fields.length c1,.slice A2 B.length c2,.bool h.how.close,.bool h.how.expect] rfl rfl 172 _ H9.out.2.2.2.2.2.2.1 BR rfl (by simp [Value.oneCell']) ?_));have hs910:Sm (fun x=>x=b0) w9 (w9.setRow b0 #[.string ⟨h.method.toArray⟩,.int .i64 h.target.form,.string ⟨h.target.host.toArray⟩,.string ⟨h.target.path.toArray⟩,.string ⟨h.target.query.toArray⟩,.int .i64 h.minor,.slice A1 h.fields.length c1,.slice A2 B.length c2,.bool h.how.close,.bool h.how.expect]):=(Sm.refl (fun x=>x=b0) w9).setRow (Or.inl rfl) _;have hb10:Bk (w9.setRow b0 #[.string ⟨h.method.toArray⟩,.int .i64 h.target.form,.string ⟨h.target.host.toArray⟩,.string ⟨h.target.path.toArray⟩,.string ⟨h.target.query.toArray⟩,.int .i64 h.minor,.slice A1 h.fields.length c1,.slice A2 B.length c2,.bool h.how.close,.bool h.how.expect]) b0 172 #[.string ⟨h.method.toArray⟩,.int .i64 h.target.form,.string ⟨h.target.host.toArray⟩,.string ⟨h.target.path.toArray⟩,.string ⟨h.target.query.toArray⟩,.int .i64 h.minor,.slice A1 h.fields.length c1,.slice A2 B.length c2,.bool h.how.close,.bool h.how.expect]:=Bk.setRow H9.out.2.2.2.2.2.2.1 _;have d0:=hb10.at 0 rfl;have d1:=hb10.at 1 rfl;have d2:=hb10.at 2 rfl;have d3:=hb10.at 3 rfl;have d4:=hb10.at 4 rfl;have d5:=hb10.at 5 rfl;have d6:=hb10.at 6 rfl;have d7:=hb10.at 7 rfl;have d8:=hb10.at 8 rfl;have d9:=hb10.at 9 rfl;refine bodyPost_ret (v:=.tuple #[.agg #[.string ⟨h.method.toArray⟩,.int .i64 h.target.form,.string ⟨h.target.host.toArray⟩,.string ⟨h.target.path.toArray⟩,.string ⟨h.target.query.toArray⟩,.int .i64 h.minor,.slice A1 h.fields.length c1,.slice A2 B.length c2,.bool h.how.close,.bool h.how.expect],.int .i64 0]) (by simp [results,Tryz.results100,go_sem,d0,d1,d2,d3,d4,d5,d6,d7,d8,d9]) rfl ?_;obtain⟨hlb2,hbb2,hown,hscw,hs0c,hKc,hhc⟩:=HC.out;obtain⟨-, -,hK7,hs07,hsc7, -⟩:=H7.out;obtain⟨-,hs89,hK9,hh9,hln9, -, -,hs78,ogn,ltn⟩:=H9.out;obtain⟨hK0,hh0,hB0,hBo,og,lt,hR2,hcc2,hn2n⟩:=H.out;have z1:w.heap.size=b0:=H1.out.2.1;have z7:=hs07.size;have z8:=hs78.size;have z9:=hs89.size;have z3:=H3.out.2.2.1.size;have z13:=H03.out.size;have zc:=hscw.size;have zc7:=hsc7.size;have hlo:=World.ownsRow.lt hown;have hsc9:Sm (fun x=>x=g∨x=b2) wc w9:=((hsc7.mono (fun _ _ e=>Or.inr e)).trans (hs78.any (fun _=>False)) (fun _ _ e=>e.elim)).tt (hs89.mono (fun _ _ e=>Or.inl e):Sm (fun x=>x=g∨x=b2) w8 w9);have hw9s:Sm (fun x=>x=g) w w9:=((hs07.any (fun x=>x=g)).trans hs78 (fun _ _ e=>e.elim)).tt hs89;have hfin:Sm O w _:=(hw9s.mono (fun x _ e=>e ▸ og)).trans (hs910.mono (fun _ _ e=>e)) (fun x hx e=>by omega);have hrowF:=ae (ae hown hsc9 (fun y e e2=>by
   rcases e2 with e2|e2
   ·have:=(hlo y e).1;omega
   ·subst e2;obtain⟨cur,hcur⟩:=az hown e;unfold Bk at hbb2;rw [hcur] at hbb2;injection hbb2 with hbb2;injection hbb2 with _ hbb2;exact absurd hbb2 (by decide))) hs910 (fun y e e2=>by have:=(hlo y e).1;omega)
  obtain⟨A1',c1',hA1,hrc1,hle1,hnn1⟩:=au hrowF;injection hA1 with hA1 _ hA1c;subst hA1 hA1c;have hBg:∀ y,(Value.slice A2 B.length c2).ownBlock=some y→y≠g:=fun y e e2=>by
   subst e2;rcases hB0.2 with ⟨hv,_⟩|⟨g',cap,cur,fz,hv,_,hh',_⟩
   ·rw [hv] at e;cases e
   ·rw [hv] at e;have e:g'=y:=by simpa [Value.ownBlock] using e
    subst e;unfold fB Bk at hK0;rw [hK0] at hh';injection hh' with hh';injection hh' with _ hh';exact absurd hh' (by decide)
  refine⟨_,fun y=>(∃ a,A1=some a∧a.block=y)∨(∃ a,A2=some a∧a.block=y),fun y=>y=g∨(w7.heap.size≤y∧y < w8.heap.size),rfl,⟨A1,c1,A2,c2,rfl,Dh hrowF,fun e=>⟨?_,hnn1 e⟩,?_,fun e=>⟨?_,hn2n e⟩,fun a e=>Or.inl ⟨a,e,rfl⟩,fun a e=>Or.inr ⟨a,e,rfl⟩,hle1,hcc2⟩,?_,?_,?_,hfin⟩
  ·have h5:=hle1;rw [hnn1 e] at h5;exact Nat.le_zero.1 h5
  ·refine(hR2.sm hw9s (fun a e e2=>hBg a.block (by rw [e];rfl) e2)).sm hs910 (fun a e e2=> ?_);have:=lt _ (hBo a.block (by rw [e];rfl));omega
  ·have h5:=hcc2;rw [hn2n e] at h5;exact Nat.le_zero.1 h5
  ·refine bZ.out (S:=fun x=>x=b0) (w:=w9) ⟨⟨gh2,gf2,vF2,_,hK9,hh9.imp (fun x e=>Or.inr e),hln9.imp (fun x e=>Or.inr e)⟩,Or.inl rfl,fun x e=> ?_⟩ hs910 (fun x e e2=> ?_)
   ·rcases e with e|e
    ·omega
    ·omega
   ·rcases e with e|e
    ·omega
    ·omega
  ·intro y e;rcases e with e|e
   ·exact Or.inl e
   ·right;omega
  ·intro y e;rcases e with ⟨a,e1,e2⟩|⟨a,e1,e2⟩
   ·have h5:=hlo a.block (by rw [e1];rfl);subst e2;refine⟨Or.inr ⟨by omega,?_⟩,?_⟩
    ·have:=hs910.size;omega
    ·rintro(e|e)
     ·omega
     ·omega
   ·subst e2;have h5:=hBo a.block (by rw [e1];rfl);have h6:=lt _ h5;refine⟨Or.inl h5,?_⟩;rintro(e|e)
    ·exact hBg a.block (by rw [e1];rfl) e
    ·omega
structure tG where
 x:Hd × ah
 a1:Option Addr
 c1:Nat
 a2:Option Addr
 c2:Nat
def tG.cells(q:tG):List Value:=[.string ⟨q.x.1.method.toArray⟩,.int .i64 q.x.1.target.form,.string ⟨q.x.1.target.host.toArray⟩,.string ⟨q.x.1.target.path.toArray⟩,.string ⟨q.x.1.target.query.toArray⟩,.int .i64 q.x.1.minor,.slice q.a1 q.x.1.fields.length q.c1,.slice q.a2 q.x.2.length q.c2,.bool q.x.1.how.close,.bool q.x.1.how.expect]
structure tG.In (w:World) (R:Nat→Prop) (q:tG):Prop where
 r1:ec w q.a1 q.x.1.fields
 n1:q.a1=none→q.x.1.fields.length=0∧q.c1=0
 r2:ax w q.a2 (aL q.x.2)
 n2:q.a2=none→q.x.2.length=0∧q.c2=0
 b1:∀ a,q.a1=some a→q.x.1.fields≠[]→R a.block
 b2:∀ a,q.a2=some a→q.x.2≠[]→R a.block
theorem Fm.m{w:World}{R:Nat→Prop}{x:Hd × ah}{v:Value}(h:Fm w R x v):∃ q:tG,q.x=x∧v=.agg q.cells.toArray∧q.In w R:=by
 obtain⟨A1,c1,A2,c2,rfl,h1,h2,h3,h4,h5,h6, -, -⟩:=h;exact⟨⟨x,A1,c1,A2,c2⟩,rfl,rfl,h1,h2,h3,h4,fun a e _=>h5 a e,fun a e _=>h6 a e⟩
theorem tG.In.sm{w w':World}{R S:Nat→Prop}{q:tG}(h:q.In w R)(hs:Sm S w w')(hS:∀ x,R x→¬S x):q.In w' R:=by
 refine⟨?_,h.n1,?_,h.n2,h.b1,h.b2⟩
 ·by_cases h0:q.x.1.fields=[]
  ·intro k hk;rw [h0] at hk;exact absurd hk (Nat.not_lt_zero _)
  ·exact h.r1.sm hs (fun a e=>hS _ (h.b1 a e h0))
 ·by_cases h0:q.x.2=[]
  ·rw [h0];exact ax.nil _ _
  ·exact h.r2.sm hs (fun a e=>hS _ (h.b2 a e h0))
theorem tG.In.imp{w:World}{R P:Nat→Prop}{q:tG}(h:q.In w R)(hi:∀ x,R x→P x):q.In w P:=⟨h.r1,h.n1,h.r2,h.n2,fun a e h0=>hi _ (h.b1 a e h0),fun a e h0=>hi _ (h.b2 a e h0)⟩
def Ei(qs:List tG):List Value:=qs.flatMap tG.cells
structure xQ (w:World) (B:Nat) (R:Nat→Prop) (v:Value) (qs:List tG):Prop where
 own:w.ownsRow B 172 10 v qs.length (Ei qs)
 ok:∀ q∈qs,q.In w R
 apart:∀ b,v.ownBlock=some b→¬R b
theorem xQ.sm{w w':World}{B:Nat}{R S:Nat→Prop}{v:Value}{qs:List tG}(h:xQ w B R v qs)(hs:Sm S w w')(hS:∀ x,R x→¬S x)(hv:∀ b,v.ownBlock=some b→¬S b):xQ w' B R v qs:=
 ⟨ae h.own hs hv,fun q hq=>(h.ok q hq).sm hs hS,h.apart⟩
theorem xQ.no{w w':World}{B:Nat}{R:Nat→Prop}{v:Value}{qs:List tG}(h:xQ w B R v qs)(hs:Sm No w w'):xQ w' B R v qs:=h.sm hs (fun _ _ e=>e) (fun _ _ e=>e)
end Go.Proofs.YtadcjgopaadfjaaGreatDoor
