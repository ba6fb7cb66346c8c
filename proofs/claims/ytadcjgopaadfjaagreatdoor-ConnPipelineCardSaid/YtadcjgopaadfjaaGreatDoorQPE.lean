import Derived.Test.YtadcjgopaadfjaaGreatDoorQPD
set_option maxHeartbeats 16000000
set_option maxRecDepth 100000
namespace Go.Proofs.YtadcjgopaadfjaaGreatDoor
open Go.RowKit Go.Proofs
def qF(g f:Nat)(v:Value):Nat→Prop:=fun b=>b=g∨iH f v b
def nP(w:World)(B g f:Nat)(v:Value)(p:Hd × Int)(e:Ending)(w':World):Prop:=
 ∃ v',e=.returned (.int .i64 p.2)∧bl w' B g f v' p.1∧Sm (qF g f v) w w'∧dQ w v v'
theorem nP.no{w w':World}{B g f:Nat}{v:Value}{h:Hd}{c:Int}(hI:bl w B g f v h)(hs:Sm No w w'):nP w B g f v (h,c) (.returned (.int .i64 c)) w':=
 ⟨v,rfl,hI.no hs,hs.any _,Or.inl rfl⟩
def Gk(w:World)(B g f:Nat)(v:Value)(h:Hd)(c:Int)(fs:List aM)(ev:Value)(wx:World):Prop:=
 ∃ v',ev=.int .i64 c∧bl wx B g f v' {h with fields:=fs}∧Sm (iH f v) w wx∧dQ w v v'
theorem C5 {w:World} {B g f:Nat} {v:Value} {h:Hd} {nB vB:ByteArray} {fs:List aM} {n c:Int} (hI:bl w B g f v h) (hlen:h.fields.length≤24) (hn:nB.size≤256) (hv:vB.size≤256) (hB:B≤w.heap.size)
 (h1:(bh h.fields [(nB,vB)]).1=fs) (h2:((bh h.fields [(nB,vB)]).2.1:Int)=n) (h3:(bh h.fields [(nB,vB)]).2.2=c):
 Calls Tryz.prog 134 #[.pointer (some ⟨f,0,none⟩),.slice (some ⟨w.heap.size,0,none⟩) 1 1] ((w.alloc (.cells #[.string nB,.string vB] 143)).drew) fun e w'=>e=.returned (.tuple #[.int .i64 n,.int .i64 c])∧Gk w B g f v h c fs (.int .i64 c) w':=by
 have hs:Sm No w ((w.alloc (.cells #[.string nB,.string vB] 143)).drew):=((Sm.refl No w).alloc _).drew;have hb:Bk ((w.alloc (.cells #[.string nB,.string vB] 143)).drew) w.heap.size 143 #[.string nB,.string vB]:=(Bk.new w _ _).drew;have hgl:=hI.bk.lt;have hfl:=hI.fs.1.lt;have hvl:=fun b e=>(World.ownsRow.lt hI.fs.2.1 b e).2;refine(qO _ B f v h.fields [(nB,vB)] (some ⟨w.heap.size,0,none⟩) 1 (hI.fs.no hs) hlen (fun k hk=> ?_) (fun _ a ha=> ?_) (fun x hx=> ?_) (by simp) (Nat.le_trans hB hs.size)).mono ?_
 ·have e:k=0:=by simpa using hk
  subst e;exact⟨w.heap.size,0,rfl,hb.lt,hb.at 0 rfl,hb.at 1 rfl⟩
 ·injection ha with ha;subst ha;rintro(e|e)
  ·exact absurd e (Nat.ne_of_gt hfl)
  ·exact absurd (hvl _ e) (Nat.lt_irrefl _)
 ·have e:x=(nB,vB):=by simpa using hx
  subst e;exact⟨Nat.le_trans hn (by decide),Nat.le_trans hv (by decide)⟩
 ·rintro e w' ⟨v',rfl,g1,g2,g3,g4⟩;rw [h1] at g1;have hk:Bk w' g 187 (jS f h):=(hI.bk.sm hs (fun h=>h)).sm g3 (fun e=>by rcases e with e|e;exact hI.ne e.symm;exact hI.own e);refine⟨by rw [h2,h3],v',rfl,⟨hk,g1,hI.ne,?_⟩,(hs.any _).tt g3,?_⟩
  ·rcases g4 with g4|⟨b,g4,g5⟩
   ·rw [g4];exact hI.own
   ·rw [g4];intro e;injection e with e;have:=hs.size;omega
  ·rcases g4 with g4|⟨b,g4,g5⟩
   ·exact Or.inl g4
   ·exact Or.inr ⟨b,g4,Nat.le_trans hs.size g5⟩
theorem zM(w:World)(B g f:Nat)(v:Value)(h:Hd)(s:ByteArray)(hI:bl w B g f v h)(hlen:h.fields.length≤24)(h1:s.size≤256)(hB:B≤w.heap.size):
 Calls Tryz.prog 199 #[.pointer (some ⟨g,0,none⟩),.string s] w (nP w B g f v (kL h (af s))):=by
 have HI:=aa (ab hI hlen);obtain⟨P,hP⟩:=ai (bf (af s));obtain⟨pe,pn,pv⟩:=P;obtain⟨nB,hnB⟩:=ai ((⟨pn.toArray⟩:ByteArray));obtain⟨vB,hvB⟩:=ai ((⟨pv.toArray⟩:ByteArray));have HP:=pi s (by omega);have hP':bf s.data.toList=(pe,pn,pv):=hP;rw [hP',show mS (pe,pn,pv)=.tuple #[.agg #[.string nB,.string vB],.int .i64 pe] from by rw [←hnB,←hvB];rfl] at HP;have HP:=aa HP;have hfl:=pd hP;have hnz:nB.size≤256:=by rw [←hnB];show pn.toArray.size≤_;simp;rw [ag] at hfl;omega
 have hvz:vB.size≤256:=by rw [←hvB];show pv.toArray.size≤_;simp;rw [ag] at hfl;omega
 obtain⟨R,hR⟩:=ai (kL h (af s));have HE:=aa (show R=if pe≠0 then (h,400) else ({h with fields:=(bh h.fields [(nB,vB)]).1},if (bh h.fields [(nB,vB)]).2.2≠0 then 431 else 0) from by
  rw [←hR];unfold kL;rw [hP];dsimp only;rw [hnB,hvB])
 rw [hR];have hgl1:=hI.bk.lt;have hc0:w.cell? ⟨g,0,none⟩=some (.pointer (some ⟨f,0,none⟩)):=hI.bk.at 0 rfl;clear hI hP hP' hnB hvB hfl hR hlen;go_in;go_wp2_with fail;refine(HP.out _).mono ?_;rintro e w2 ⟨rfl,hs2⟩;have HI2:=aa (ab (HI.out.1.no hs2) hs2);clear hs2;by_cases h0:pe=0
 ·subst h0;have HE0:=aa (HE.out.trans (if_neg (by simp)));obtain⟨b8,hb8⟩:=ai w2.heap.size;obtain⟨w3,hw3⟩:∃ w3,w2.alloc (.cells #[.string nB,.string vB] 143)=w3:=⟨_,rfl⟩;have hs3:Sm No w w3:=by rw [←hw3];exact HI2.out.2.alloc _
  have hb3:Bk w3 b8 143 #[.string nB,.string vB]:=by rw [←hw3,←hb8];exact Bk.new w2 _ _
  have hgl3:g < w3.heap.size:=Nat.lt_of_lt_of_le hgl1 hs3.size;have hBw:B≤w3.heap.size:=Nat.le_trans hB hs3.size;have HW3:=aa (ab hw3 (ab (HI.out.1.no hs3) hs3));have HB8:=aa hb8;have f0:=hb3.at 0 (v:=.string nB) rfl;have f1:=hb3.at 1 (v:=.string vB) rfl;have f2:w3.cell? ⟨g,0,none⟩=some (.pointer (some ⟨f,0,none⟩)):=hs3.cell hgl1 hc0;have hl3:=hb3.lt;clear hw3 hs3 hb3 hb8 hc0;go_upto_region 4 with fail;rw [HW3.out.1,HB8.out];obtain⟨fs,hfs⟩:=ai ((bh h.fields [(nB,vB)]).1);obtain⟨an,han⟩:=ai (((bh h.fields [(nB,vB)]).2.1:Int));obtain⟨ac,hac⟩:=ai ((bh h.fields [(nB,vB)]).2.2);have HAdd:=aa (C5 HW3.out.2.1 HI.out.2 hnz hvz hBw hfs han hac);have HE1:=aa (show R=({h with fields:=fs},if ac≠0 then 431 else 0) from by rw [HE0.out,hfs,hac]);have HNt:=aa (show (¬iH f v b8)∧¬iH f v g from by
   have h1:=HI.out.1.fs.1.lt;have h2:=HI2.out.2.size;have h3:=HB8.out;refine⟨?_,?_⟩
   ·rintro(e|e)
    ·omega
    ·have:=(World.ownsRow.lt HI.out.1.fs.2.1 _ e).2;omega
   ·rintro(e|e)
    ·exact HI.out.1.ne e.symm
    ·exact HI.out.1.own e)
  clear hfs han hac
  go_cut [8] from 16 to 25 (fun e wx=>Gk w3 B g f v h ac fs e wx)
  case first=>
   go_region_held3 (fun w'=>w'.cell? ⟨b8,0,none⟩=some (.string nB)∧w'.cell? ⟨b8,1,none⟩=some (.string vB)∧w'.cell? ⟨g,0,none⟩=some (.pointer (some ⟨f,0,none⟩))) (first|with_reducible exact⟨f0,f1,f2⟩|with_reducible exact⟨((Sm.refl No w3).alloc _).cell hl3 f0,((Sm.refl No w3).alloc _).cell hl3 f1,((Sm.refl No w3).alloc _).cell hgl3 f2⟩|with_reducible exact⟨((Sm.refl No w3).drew.alloc _).cell hl3 f0,((Sm.refl No w3).drew.alloc _).cell hl3 f1,((Sm.refl No w3).drew.alloc _).cell hgl3 f2⟩|with_reducible exact⟨((Sm.refl No w3).alloc _).drew.cell hl3 f0,((Sm.refl No w3).alloc _).drew.cell hl3 f1,((Sm.refl No w3).alloc _).drew.cell hgl3 f2⟩|with_reducible exact⟨(Sm.refl No w3).drew.cell hl3 f0,(Sm.refl No w3).drew.cell hl3 f1,(Sm.refl No w3).drew.cell hgl3 f2⟩|with_reducible exact⟨r5,r6,r7⟩)
    ((go_at_call 134;refine HAdd.out.mono ?_;rintro e w5 ⟨rfl,h5⟩;have h6:=h5;obtain⟨_,_,_,h7,_⟩:=h6;have r5:=h7.keep hl3 HNt.out.1 f0;have r6:=h7.keep hl3 HNt.out.1 f1;have r7:=h7.keep hgl3 HNt.out.2 f2))
   go_wp2_with fail;go_meet;exact h5
  case rest=>
   obtain⟨v',rfl,hI5,hs5,hf5⟩:=hcut;have H5:=aa (ab hI5 (ab hs5 hf5));have HFin:=aa (fun (x:Int) (hx:(if ac≠0 then (431:Int) else 0)=x)=>show nP w B g f v R (.returned (.int .i64 x)) wc from by
    refine⟨v',by rw [HE1.out,hx],by rw [HE1.out];exact H5.out.1,(HW3.out.2.2.any _).tt (H5.out.2.1.mono (fun _ _ e=>Or.inr e)),?_⟩;rcases H5.out.2.2 with g4|⟨b,g4,g5⟩
    ·exact Or.inl g4
    ·exact Or.inr ⟨b,g4,Nat.le_trans HW3.out.2.2.size g5⟩)
   clear hI5 hs5 hf5;by_cases hz0:ac=0
   ·subst hz0;have HF:=aa (HFin.out 0 (if_neg (by simp)));go_wp2_with fail;go_ret;exact HF.out
   ·have e0:(ac==0)=false:=by simp [hz0]
    have e1:(ac != 0)=true:=by simp [hz0]
    have HF:=aa (HFin.out 431 (if_pos hz0));clear hz0;go_wp2_with fail;go_ret;exact HF.out
 ·have e0:(pe==0)=false:=by simp [h0]
  have e1:(pe != 0)=true:=by simp [h0]
  have HE0:=aa (HE.out.trans (if_pos h0));clear h0;go_wp2_with fail;go_ret;rw [HE0.out];exact nP.no HI.out.1 (HI2.out.2.alloc _)
def cO(w:World)(B g f:Nat)(v:Value)(h:Hd)(e:Ending)(w':World):Prop:=
 ∃ v',e=.returned (.tuple #[.bool h.whole,.int .i64 h.status])∧(h.status=0→bl w' B g f v' h)∧Sm (qF g f v) w w'∧dQ w v v'
theorem dL{h h':Hd}{c:Int}{s:ah}(hw:h.whole=false)(hs:h.status=0)(he:bA h s=(h',c)):bw h s= {h' with status:=c}:=by
 unfold bw;rw [if_pos ⟨hw,hs⟩,he]
theorem cO.bad{w w':World}{B g f:Nat}{v:Value}{h':Hd}{c:Int}(hw:h'.whole=false)(hc:c≠0)(hs:Sm (fun x=>x=g) w w'):cO w B g f v {h' with status:=c} (.returned (.tuple #[.bool false,.int .i64 c])) w':=
 ⟨v,by show _=Ending.returned (.tuple #[.bool h'.whole,.int .i64 c]);rw [hw],fun h=>absurd (show c=0 from h) hc,hs.mono (fun _ _ e=>Or.inl e),Or.inl rfl⟩
theorem cO.good{w w':World}{B g f:Nat}{v v':Value}{h':Hd}(hw:h'.whole=false)(hI:bl w' B g f v' {h' with status:=0})(hs:Sm (qF g f v) w w')(hf:dQ w v v'):cO w B g f v {h' with status:=0} (.returned (.tuple #[.bool false,.int .i64 0])) w':=
 ⟨v',by show _=Ending.returned (.tuple #[.bool h'.whole,.int .i64 0]);rw [hw],fun _=>hI,hs,hf⟩
theorem jU{h:Hd}{l:List ah}:(bH h l).1.whole=h.whole:=by
 unfold bH;split
 ·split
  ·rfl
  ·split
   ·rfl
   ·split<;>rfl
 ·rfl
theorem mu{h:Hd}{s:ah}:(kL h s).1.whole=h.whole:=by
 unfold kL;split<;>rfl
theorem bl.bytes{w:World}{B g f:Nat}{v:Value}{h:Hd}(hI:bl w B g f v h)(n:Nat):bl (w.setCell ⟨g,9,none⟩ (.int .i64 ((h.bytes:Int)+((n:Int)+2)))) B g f v (h.more n):=by
 refine hI.of rfl ((Sm.refl _ w).set1 9 _) ((hI.bk.set 9 _).eq ?_);rw [show (h.bytes:Int)+((n:Int)+2)=((h.bytes+n+2:Nat):Int) by omega];rfl
theorem bl.stat{w:World}{B g f:Nat}{v:Value}{h:Hd}(hI:bl w B g f v h)(c:Int):bl (w.setCell ⟨g,15,none⟩ (.int .i64 c)) B g f v {h with status:=c}:=
 hI.of rfl ((Sm.refl _ w).set1 15 _) ((hI.bk.set 15 _).eq rfl)
theorem bl.emp{w:World}{B g f:Nat}{v:Value}{h:Hd}(hI:bl w B g f v h):bl (w.setCell ⟨g,8,none⟩ (.int .i64 ((h.empty:Int)+1))) B g f v {h with empty:=h.empty+1}:=
 hI.of rfl ((Sm.refl _ w).set1 8 _) ((hI.bk.set 8 _).eq (by rw [show (h.empty:Int)+1=((h.empty+1:Nat):Int) by omega];rfl))
theorem vY{h:Hd}(f:Nat)(hs:h.status=0):jS f {h with status:=0}=jS f h:=by
 unfold jS;rw [hs]
theorem bl.g0{w w':World}{B g f:Nat}{v:Value}{h:Hd}(hI:bl w B g f v h)(hG:G0 w)(hs:Sm (fun x=>x=g) w w'):G0 w':=by
 obtain⟨m,hm⟩:=hG;by_cases hg0:g=0
 ·exfalso
  have h3:=hI.bk.at 0 (v:=.pointer (some ⟨f,0,none⟩)) rfl;rw [hg0,hm] at h3
  cases h3
 ·exact⟨m,hs.keep (World.block_lt_of_cell? w _ hm) (fun e=>hg0 e.symm) hm⟩
theorem qU(w:World)(B g f:Nat)(v:Value)(h:Hd)(s:ByteArray)(hG:G0 w)(hI:bl w B g f v h)(ho:kP h)(hw:h.whole=false)(hs0:h.status=0)(_hB:B≤w.heap.size)(hst:h.started=true)(h1:256 < s.size):
 Calls Tryz.prog 179 #[.pointer (some ⟨g,0,none⟩),.string s] w (cO w B g f v (bw h (af s))):=by
 have hbg:=hI.bk;have hgl:=hbg.lt;have hc:=hbg.all;have hz:=hbg.fz;have hby:=ho.bytes;have hem:=ho.empty;unfold jS at hc;rw [hw,hs0,hst] at hc;have HI:=aa (ab hI (ab ho (ab hG (ab hw hs0))));clear hI ho hbg hG hw hs0;have i1:(256:Int) < (s.size:Int):=by omega
 have i0:(257:Int)≤(s.size:Int):=by omega
 have i3:min (s.size:Int) 257=257:=by omega
 have i9:IntKind.i64.wrap (((h.bytes:Nat):Int)+259)=((h.bytes:Nat):Int)+259:=IntWalk.i64_in _ (by omega);have HE:=aa (dL (h:=h) (h':=h) (c:=431) HI.out.2.2.2.1 HI.out.2.2.2.2 (s:=af s) (by unfold bA;rw [if_pos (by rw [ag];exact h1),show h.long=431 from(by unfold Hd.long;rw [if_pos hst])]));have HBg:=aa (HI.out.1.bk);go_in;obtain⟨w9,hw9⟩:=ai (((w.setCell ⟨g,9,none⟩ (.int .i64 ((h.bytes:Int)+259))).setCell ⟨g,15,none⟩ (.int .i64 414)).setCell ⟨g,15,none⟩ (.int .i64 431));obtain⟨cs,hb9,hc14,hc15⟩:∃ cs,Bk w9 g 187 cs∧cs[14]?=some (.bool false)∧cs[15]?=some (.int .i64 431):=⟨_,by rw [←hw9];exact((HBg.out.set 9 _).set 15 _).set 15 _,by show some (Value.bool h.whole)=_;rw [HI.out.2.2.2.1],by rfl⟩;have k14:=hb9.at 14 hc14;have k15:=hb9.at 15 hc15;have kl:=hb9.lt;have HW9:=aa hw9;clear hb9 hc14 hc15 hw9;go_upto_region 20 with fail;rw [HW9.out];go_quiet (fail);go_wp2_with fail;go_ret2;rw [HE.out];exact cO.bad HI.out.2.2.2.1 (by decide) (by rw [←HW9.out];exact((((Sm.refl (fun x=>x=g) w).set1 9 _).set1 15 _).set1 15 _).drewN _)
theorem oC(w:World)(B g f:Nat)(v:Value)(h:Hd)(s:ByteArray)(hG:G0 w)(hI:bl w B g f v h)(ho:kP h)(hw:h.whole=false)(hs0:h.status=0)(_hB:B≤w.heap.size)(hst:h.started=false)(h1:256 < s.size):
 Calls Tryz.prog 179 #[.pointer (some ⟨g,0,none⟩),.string s] w (cO w B g f v (bw h (af s))):=by
 have hbg:=hI.bk;have hgl:=hbg.lt;have hc:=hbg.all;have hz:=hbg.fz;have hby:=ho.bytes;have hem:=ho.empty;unfold jS at hc;rw [hw,hs0,hst] at hc;have HI:=aa (ab hI (ab ho (ab hG (ab hw hs0))));clear hI ho hbg hG hw hs0;have i1:(256:Int) < (s.size:Int):=by omega
 have i0:(257:Int)≤(s.size:Int):=by omega
 have i3:min (s.size:Int) 257=257:=by omega
 have i9:IntKind.i64.wrap (((h.bytes:Nat):Int)+259)=((h.bytes:Nat):Int)+259:=IntWalk.i64_in _ (by omega);have HE:=aa (dL (h:=h) (h':=h) (c:=414) HI.out.2.2.2.1 HI.out.2.2.2.2 (s:=af s) (by unfold bA;rw [if_pos (by rw [ag];exact h1),show h.long=414 from(by unfold Hd.long;rw [if_neg (by rw [hst];decide)])]));have HBg:=aa (HI.out.1.bk);go_in;obtain⟨w9,hw9⟩:=ai ((w.setCell ⟨g,9,none⟩ (.int .i64 ((h.bytes:Int)+259))).setCell ⟨g,15,none⟩ (.int .i64 414));obtain⟨cs,hb9,hc14,hc15⟩:∃ cs,Bk w9 g 187 cs∧cs[14]?=some (.bool false)∧cs[15]?=some (.int .i64 414):=⟨_,by rw [←hw9];exact(HBg.out.set 9 _).set 15 _,by show some (Value.bool h.whole)=_;rw [HI.out.2.2.2.1],by rfl⟩;have k14:=hb9.at 14 hc14;have k15:=hb9.at 15 hc15;have kl:=hb9.lt;have HW9:=aa hw9;clear hb9 hc14 hc15 hw9;go_upto_region 20 with fail;rw [HW9.out];go_quiet (fail);go_wp2_with fail;go_ret2;rw [HE.out];exact cO.bad HI.out.2.2.2.1 (by decide) (by rw [←HW9.out];exact(((Sm.refl (fun x=>x=g) w).set1 9 _).set1 15 _).drewN _)
theorem qr(w:World)(B g f:Nat)(v:Value)(h:Hd)(s:ByteArray)(hG:G0 w)(hI:bl w B g f v h)(ho:kP h)(hw:h.whole=false)(hs0:h.status=0)(_hB:B≤w.heap.size)(hst:h.started=true)(h1:s.size≤256)(h2:1024 < h.bytes+s.size+2):
 Calls Tryz.prog 179 #[.pointer (some ⟨g,0,none⟩),.string s] w (cO w B g f v (bw h (af s))):=by
 have hbg:=hI.bk;have hgl:=hbg.lt;have hc:=hbg.all;have hz:=hbg.fz;have hby:=ho.bytes;have hem:=ho.empty;unfold jS at hc;rw [hw,hs0,hst] at hc;have HI:=aa (ab hI (ab ho (ab hG (ab hw hs0))));clear hI ho hbg hG hw hs0;have i1:¬(256:Int) < (s.size:Int):=by omega
 have i0:¬(257:Int)≤(s.size:Int):=by omega
 have i3:min (s.size:Int) 257=(s.size:Int):=by omega
 have i8:IntKind.i64.wrap ((s.size:Int)+2)=(s.size:Int)+2:=IntWalk.i64_in _ (by omega);have i9:IntKind.i64.wrap (((h.bytes:Nat):Int)+((s.size:Int)+2))=((h.bytes:Nat):Int)+((s.size:Int)+2):=IntWalk.i64_in _ (by omega);have i10:(1024:Int) < (h.bytes:Int)+((s.size:Int)+2):=by omega
 have HE:=aa (dL (h:=h) (h':=h.more s.size) (c:=431) HI.out.2.2.2.1 HI.out.2.2.2.2 (s:=af s) (by unfold bA;rw [if_neg (by rw [ag];omega),ag,if_pos h2,show h.long=431 from(by unfold Hd.long;rw [if_pos hst])]));have HBg:=aa (HI.out.1.bk);go_in;obtain⟨w9,hw9⟩:=ai (((w.setCell ⟨g,9,none⟩ (.int .i64 ((h.bytes:Int)+((s.size:Int)+2)))).setCell ⟨g,15,none⟩ (.int .i64 414)).setCell ⟨g,15,none⟩ (.int .i64 431));obtain⟨cs,hb9,hc14,hc15⟩:∃ cs,Bk w9 g 187 cs∧cs[14]?=some (.bool false)∧cs[15]?=some (.int .i64 431):=⟨_,by rw [←hw9];exact((HBg.out.set 9 _).set 15 _).set 15 _,by show some (Value.bool h.whole)=_;rw [HI.out.2.2.2.1],by rfl⟩;have k14:=hb9.at 14 hc14;have k15:=hb9.at 15 hc15;have kl:=hb9.lt;have HW9:=aa hw9;clear hb9 hc14 hc15 hw9;go_upto_region 20 with fail;rw [HW9.out];go_quiet (fail);go_wp2_with fail;go_ret2;rw [HE.out];exact cO.bad HI.out.2.2.2.1 (by decide) (by rw [←HW9.out];exact((((Sm.refl (fun x=>x=g) w).set1 9 _).set1 15 _).set1 15 _).drewN _)
theorem oB(w:World)(B g f:Nat)(v:Value)(h:Hd)(s:ByteArray)(hG:G0 w)(hI:bl w B g f v h)(ho:kP h)(hw:h.whole=false)(hs0:h.status=0)(_hB:B≤w.heap.size)(hst:h.started=false)(h1:s.size≤256)(h2:1024 < h.bytes+s.size+2):
 Calls Tryz.prog 179 #[.pointer (some ⟨g,0,none⟩),.string s] w (cO w B g f v (bw h (af s))):=by
 have hbg:=hI.bk;have hgl:=hbg.lt;have hc:=hbg.all;have hz:=hbg.fz;have hby:=ho.bytes;have hem:=ho.empty;unfold jS at hc;rw [hw,hs0,hst] at hc;have HI:=aa (ab hI (ab ho (ab hG (ab hw hs0))));clear hI ho hbg hG hw hs0;have i1:¬(256:Int) < (s.size:Int):=by omega
 have i0:¬(257:Int)≤(s.size:Int):=by omega
 have i3:min (s.size:Int) 257=(s.size:Int):=by omega
 have i8:IntKind.i64.wrap ((s.size:Int)+2)=(s.size:Int)+2:=IntWalk.i64_in _ (by omega);have i9:IntKind.i64.wrap (((h.bytes:Nat):Int)+((s.size:Int)+2))=((h.bytes:Nat):Int)+((s.size:Int)+2):=IntWalk.i64_in _ (by omega);have i10:(1024:Int) < (h.bytes:Int)+((s.size:Int)+2):=by omega
 have HE:=aa (dL (h:=h) (h':=h.more s.size) (c:=414) HI.out.2.2.2.1 HI.out.2.2.2.2 (s:=af s) (by unfold bA;rw [if_neg (by rw [ag];omega),ag,if_pos h2,show h.long=414 from(by unfold Hd.long;rw [if_neg (by rw [hst];decide)])]));have HBg:=aa (HI.out.1.bk);go_in;obtain⟨w9,hw9⟩:=ai ((w.setCell ⟨g,9,none⟩ (.int .i64 ((h.bytes:Int)+((s.size:Int)+2)))).setCell ⟨g,15,none⟩ (.int .i64 414));obtain⟨cs,hb9,hc14,hc15⟩:∃ cs,Bk w9 g 187 cs∧cs[14]?=some (.bool false)∧cs[15]?=some (.int .i64 414):=⟨_,by rw [←hw9];exact(HBg.out.set 9 _).set 15 _,by show some (Value.bool h.whole)=_;rw [HI.out.2.2.2.1],by rfl⟩;have k14:=hb9.at 14 hc14;have k15:=hb9.at 15 hc15;have kl:=hb9.lt;have HW9:=aa hw9;clear hb9 hc14 hc15 hw9;go_upto_region 20 with fail;rw [HW9.out];go_quiet (fail);go_wp2_with fail;go_ret2;rw [HE.out];exact cO.bad HI.out.2.2.2.1 (by decide) (by rw [←HW9.out];exact(((Sm.refl (fun x=>x=g) w).set1 9 _).set1 15 _).drewN _)
theorem Ge(w:World)(B g f:Nat)(v:Value)(h:Hd)(s:ByteArray)(hG:G0 w)(hI:bl w B g f v h)(ho:kP h)(hw:h.whole=false)(hs0:h.status=0)(_hB:B≤w.heap.size)(hst:h.started=false)(h0:s.size=0)(h2:¬1024 < h.bytes+s.size+2)(h4:4 < h.empty+1):
 Calls Tryz.prog 179 #[.pointer (some ⟨g,0,none⟩),.string s] w (cO w B g f v (bw h (af s))):=by
 have hbg:=hI.bk;have hgl:=hbg.lt;have hc:=hbg.all;have hz:=hbg.fz;have hby:=ho.bytes;have hem:=ho.empty;unfold jS at hc;rw [hw,hs0,hst] at hc;have HI:=aa (ab hI (ab ho (ab hG (ab hw hs0))));clear hI ho hbg hG hw hs0;have i1:¬(256:Int) < (s.size:Int):=by omega
 have i0:¬(257:Int)≤(s.size:Int):=by omega
 have i3:min (s.size:Int) 257=(s.size:Int):=by omega
 have i8:IntKind.i64.wrap ((s.size:Int)+2)=(s.size:Int)+2:=IntWalk.i64_in _ (by omega);have i9:IntKind.i64.wrap (((h.bytes:Nat):Int)+((s.size:Int)+2))=((h.bytes:Nat):Int)+((s.size:Int)+2):=IntWalk.i64_in _ (by omega);have i10:¬(1024:Int) < (h.bytes:Int)+((s.size:Int)+2):=by omega
 have z1:s.toList=[]:=by rw [ByteArray.toList_eq];exact List.eq_nil_of_length_eq_zero (by simpa using h0)
 have z0:af s=[]:=List.eq_nil_of_length_eq_zero (by rw [ag];exact h0);have i12:IntKind.i64.wrap (((h.empty:Nat):Int)+1)=((h.empty:Nat):Int)+1:=IntWalk.i64_in _ (by omega);have i13:(4:Int) < ((h.empty:Nat):Int)+1:=by omega
 have HE:=aa (dL (h:=h) (h':= {h.more 0 with empty:=h.empty+1}) (c:=400) HI.out.2.2.2.1 HI.out.2.2.2.2 (s:=af s) (by unfold bA;rw [if_neg (by rw [ag];omega),ag,if_neg h2,if_pos hst,if_pos z0,if_pos h4]));obtain⟨w1,hw1⟩:=ai (w.setCell ⟨g,9,none⟩ (.int .i64 ((h.bytes:Int)+((s.size:Int)+2))));have hI1:bl w1 B g f v (h.more s.size):=by rw [←hw1];exact HI.out.1.bytes s.size
 have hs1:Sm (fun x=>x=g) w w1:=by rw [←hw1];exact(Sm.refl _ w).set1 9 _
 have HW1:=aa (ab hw1 (ab hI1 hs1));have hgl1:=hI1.bk.lt;have hc1:=hI1.bk.all;have hz1:=hI1.bk.fz;unfold jS at hc1;rw [show (h.more s.size).whole=false from HI.out.2.2.2.1,show (h.more s.size).status=0 from HI.out.2.2.2.2,show (h.more s.size).started=false from hst,show (h.more s.size).bytes=h.bytes+s.size+2 from rfl,show (h.more s.size).empty=h.empty from rfl,show (h.more s.size).minor=h.minor from rfl] at hc1;have i11:¬(1024:Int) < ((h.bytes+s.size+2:Nat):Int):=by omega
 clear hw1 hI1 hs1;have H0:=aa h0;clear z0 h0;go_in;go_upto_region 7 with fail;rw [HW1.out.1];clear hc hz hgl;obtain⟨w9,hw9⟩:=ai ((w1.setCell ⟨g,8,none⟩ (.int .i64 ((h.empty:Int)+1))).setCell ⟨g,15,none⟩ (.int .i64 400));obtain⟨cs,hb9,hc14,hc15⟩:∃ cs,Bk w9 g 187 cs∧cs[14]?=some (.bool false)∧cs[15]?=some (.int .i64 400):=⟨_,by rw [←hw9];exact(HW1.out.2.1.bk.set 8 _).set 15 _,by show some (Value.bool h.whole)=_;rw [HI.out.2.2.2.1],by rfl⟩;have k14:=hb9.at 14 hc14;have k15:=hb9.at 15 hc15;have kl:=hb9.lt;have HW9:=aa hw9;clear hb9 hc14 hc15 hw9;go_upto_region 20 with fail;rw [HW9.out];go_quiet (fail);go_wp2_with fail;go_ret2;rw [HE.out];exact cO.bad (h':= {h.more 0 with empty:=h.empty+1}) HI.out.2.2.2.1 (by decide) (by rw [←HW9.out];exact((HW1.out.2.2.set1 8 _).set1 15 _).drewN _)
theorem Gg(w:World)(B g f:Nat)(v:Value)(h:Hd)(s:ByteArray)(hG:G0 w)(hI:bl w B g f v h)(ho:kP h)(hw:h.whole=false)(hs0:h.status=0)(_hB:B≤w.heap.size)(hst:h.started=false)(h0:s.size=0)(h2:¬1024 < h.bytes+s.size+2)(h4:¬4 < h.empty+1):
 Calls Tryz.prog 179 #[.pointer (some ⟨g,0,none⟩),.string s] w (cO w B g f v (bw h (af s))):=by
 have hbg:=hI.bk;have hgl:=hbg.lt;have hc:=hbg.all;have hz:=hbg.fz;have hby:=ho.bytes;have hem:=ho.empty;unfold jS at hc;rw [hw,hs0,hst] at hc;have HI:=aa (ab hI (ab ho (ab hG (ab hw hs0))));clear hI ho hbg hG hw hs0;have i1:¬(256:Int) < (s.size:Int):=by omega
 have i0:¬(257:Int)≤(s.size:Int):=by omega
 have i3:min (s.size:Int) 257=(s.size:Int):=by omega
 have i8:IntKind.i64.wrap ((s.size:Int)+2)=(s.size:Int)+2:=IntWalk.i64_in _ (by omega);have i9:IntKind.i64.wrap (((h.bytes:Nat):Int)+((s.size:Int)+2))=((h.bytes:Nat):Int)+((s.size:Int)+2):=IntWalk.i64_in _ (by omega);have i10:¬(1024:Int) < (h.bytes:Int)+((s.size:Int)+2):=by omega
 have z1:s.toList=[]:=by rw [ByteArray.toList_eq];exact List.eq_nil_of_length_eq_zero (by simpa using h0)
 have z0:af s=[]:=List.eq_nil_of_length_eq_zero (by rw [ag];exact h0);have i12:IntKind.i64.wrap (((h.empty:Nat):Int)+1)=((h.empty:Nat):Int)+1:=IntWalk.i64_in _ (by omega);have i13:¬(4:Int) < ((h.empty:Nat):Int)+1:=by omega
 have HE:=aa (dL (h:=h) (h':= {h.more 0 with empty:=h.empty+1}) (c:=0) HI.out.2.2.2.1 HI.out.2.2.2.2 (s:=af s) (by unfold bA;rw [if_neg (by rw [ag];omega),ag,if_neg h2,if_pos hst,if_pos z0,if_neg h4]));obtain⟨w1,hw1⟩:=ai (w.setCell ⟨g,9,none⟩ (.int .i64 ((h.bytes:Int)+((s.size:Int)+2))));have hI1:bl w1 B g f v (h.more s.size):=by rw [←hw1];exact HI.out.1.bytes s.size
 have hs1:Sm (fun x=>x=g) w w1:=by rw [←hw1];exact(Sm.refl _ w).set1 9 _
 have HW1:=aa (ab hw1 (ab hI1 hs1));have hgl1:=hI1.bk.lt;have hc1:=hI1.bk.all;have hz1:=hI1.bk.fz;unfold jS at hc1;rw [show (h.more s.size).whole=false from HI.out.2.2.2.1,show (h.more s.size).status=0 from HI.out.2.2.2.2,show (h.more s.size).started=false from hst,show (h.more s.size).bytes=h.bytes+s.size+2 from rfl,show (h.more s.size).empty=h.empty from rfl,show (h.more s.size).minor=h.minor from rfl] at hc1;have i11:¬(1024:Int) < ((h.bytes+s.size+2:Nat):Int):=by omega
 clear hw1 hI1 hs1;have H0:=aa h0;clear z0 h0;go_in;go_upto_region 7 with fail;rw [HW1.out.1];clear hc hz hgl;have HF:=aa (HW1.out.2.1.emp);obtain⟨w9,hw9⟩:=ai (w1.setCell ⟨g,8,none⟩ (.int .i64 ((h.empty:Int)+1)));obtain⟨cs,hb9,hc14,hc15⟩:∃ cs,Bk w9 g 187 cs∧cs[14]?=some (.bool false)∧cs[15]?=some (.int .i64 0):=⟨_,by rw [←hw9];exact HW1.out.2.1.bk.set 8 _,by show some (Value.bool h.whole)=_;rw [HI.out.2.2.2.1],by show some (Value.int .i64 h.status)=_;rw [HI.out.2.2.2.2]⟩;have k14:=hb9.at 14 hc14;have k15:=hb9.at 15 hc15;have kl:=hb9.lt;have HW9:=aa hw9;clear hb9 hc14 hc15 hw9;go_upto_region 20 with fail;rw [HW9.out];go_quiet (fail);go_wp2_with fail;go_ret2;rw [HE.out];refine cO.good (v':=v) (h':= {h.more 0 with empty:=h.empty+1}) HI.out.2.2.2.1 ?_ (((by rw [←HW9.out];exact(HW1.out.2.2.set1 8 _).drewN _:Sm (fun x=>x=g) w _)).mono (fun _ _ e=>Or.inl e)) (Or.inl rfl);have h3:=HF.out;rw [show s.size=0 from H0.out] at h3
 change bl (w1.setCell ⟨g,8,none⟩ (.int .i64 ((h.empty:Int)+1))) B g f v _ at h3
 rw [HW9.out] at h3;exact(bl.of (h':= {({h.more 0 with empty:=h.empty+1}:Hd) with status:=0}) h3 rfl (Sm.refl _ _) (h3.bk.eq (vY (h:= {h.more 0 with empty:=h.empty+1}) f HI.out.2.2.2.2).symm)).no ((Sm.refl No _).drewN _)
theorem Cx(w:World)(B g f:Nat)(v:Value)(h:Hd)(s:ByteArray)(hG:G0 w)(hI:bl w B g f v h)(ho:kP h)(hw:h.whole=false)(hs0:h.status=0)(_hB:B≤w.heap.size)(hst:h.started=false)(h0:¬s.size=0)(h1:s.size≤256)(h2:¬1024 < h.bytes+s.size+2)(hm0:h.minor=0):
 Calls Tryz.prog 179 #[.pointer (some ⟨g,0,none⟩),.string s] w (cO w B g f v (bw h (af s))):=by
 have hbg:=hI.bk;have hgl:=hbg.lt;have hc:=hbg.all;have hz:=hbg.fz;have hby:=ho.bytes;have hem:=ho.empty;unfold jS at hc;rw [hw,hs0,hst] at hc;have HI:=aa (ab hI (ab ho (ab hG (ab hw hs0))));clear hI ho hbg hG hw hs0;have i1:¬(256:Int) < (s.size:Int):=by omega
 have i0:¬(257:Int)≤(s.size:Int):=by omega
 have i3:min (s.size:Int) 257=(s.size:Int):=by omega
 have i8:IntKind.i64.wrap ((s.size:Int)+2)=(s.size:Int)+2:=IntWalk.i64_in _ (by omega);have i9:IntKind.i64.wrap (((h.bytes:Nat):Int)+((s.size:Int)+2))=((h.bytes:Nat):Int)+((s.size:Int)+2):=IntWalk.i64_in _ (by omega);have i10:¬(1024:Int) < (h.bytes:Int)+((s.size:Int)+2):=by omega
 have z1:¬s.toList=[]:=by rw [ByteArray.toList_eq];exact fun e=>h0 (by have:=congrArg List.length e;simpa using this)
 have z2:s.toList.isEmpty=false:=by
  cases h:s.toList with
  |nil=>exact absurd h z1
  |cons=>rfl
 have z0:¬af s=[]:=fun e=>h0 (by rw [←ag,e];rfl);obtain⟨p,c,hp⟩:∃ p c,bH (h.more s.size) (mR (af s))=(p,c):=⟨_,_,rfl⟩;have HE:=aa (dL (h:=h) (h':=p) (c:=c) HI.out.2.2.2.1 HI.out.2.2.2.2 (s:=af s) (by unfold bA;rw [if_neg (by rw [ag];omega),ag,if_neg h2,if_pos hst,if_neg z0,hp]));have HPw:=aa (show p.whole=false from by have:=jU (h:=h.more s.size) (l:=mR (af s));rw [hp] at this;exact this.trans HI.out.2.2.2.1);obtain⟨w1,hw1⟩:=ai (w.setCell ⟨g,9,none⟩ (.int .i64 ((h.bytes:Int)+((s.size:Int)+2))));have hI1:bl w1 B g f v (h.more s.size):=by rw [←hw1];exact HI.out.1.bytes s.size
 have hs1:Sm (fun x=>x=g) w w1:=by rw [←hw1];exact(Sm.refl _ w).set1 9 _
 have HW1:=aa (ab hw1 (ab hI1 hs1));have hgl1:=hI1.bk.lt;have hc1:=hI1.bk.all;have hz1:=hI1.bk.fz;unfold jS at hc1;rw [show (h.more s.size).whole=false from HI.out.2.2.2.1,show (h.more s.size).status=0 from HI.out.2.2.2.2,show (h.more s.size).started=false from hst,show (h.more s.size).bytes=h.bytes+s.size+2 from rfl,show (h.more s.size).empty=h.empty from rfl,show (h.more s.size).minor=h.minor from rfl] at hc1;have i11:¬(1024:Int) < ((h.bytes+s.size+2:Nat):Int):=by omega
 clear hw1 hI1 hs1;have HSt:=un w1 B g f v (h.more s.size) s (HI.out.1.g0 HI.out.2.2.1 HW1.out.2.2) HW1.out.2.1 h1 hm0;rw [hp] at HSt;have HSt:=aa HSt;clear z0 hp hm0;go_in;go_upto_region 7 with fail;rw [HW1.out.1];clear hc hz hgl;go_wp2_with fail;refine HSt.out.mono ?_;rintro e w2 ⟨rfl,hI2,hs2⟩;have hgl2:=hI2.bk.lt;have HI2:=aa (ab hI2 hs2);have hz2:=hI2.bk.fz;clear hc1 hz1 hgl1;have hc2:=hI2.bk.all;unfold jS at hc2;clear hI2 hs2;dsimp only;obtain⟨w9,hw9⟩:=ai (w2.setCell ⟨g,15,none⟩ (.int .i64 c));obtain⟨cs,hb9,hc14,hc15⟩:∃ cs,Bk w9 g 187 cs∧cs[14]?=some (.bool false)∧cs[15]?=some (.int .i64 c):=⟨_,by rw [←hw9];exact HI2.out.1.bk.set 15 _,by show some (Value.bool p.whole)=_;rw [HPw.out],by rfl⟩;have k14:=hb9.at 14 hc14;have k15:=hb9.at 15 hc15;have kl:=hb9.lt;have HW9:=aa hw9;clear hb9 hc14 hc15 hw9;go_upto_region 20 with fail;rw [HW9.out];go_quiet (fail);go_wp2_with fail;go_ret2;rw [HE.out];by_cases hc0:c=0
 ·subst hc0;exact cO.good (v':=v) HPw.out (by have h3:=HI2.out.1.stat 0;rw [HW9.out] at h3;exact h3.no ((Sm.refl No _).drewN _)) (((by rw [←HW9.out];exact((HW1.out.2.2.tt HI2.out.2).set1 15 _).drewN _:Sm (fun x=>x=g) w _)).mono (fun _ _ e=>Or.inl e)) (Or.inl rfl)
 ·exact cO.bad HPw.out hc0 (by rw [←HW9.out];exact((HW1.out.2.2.tt HI2.out.2).set1 15 _).drewN _)
theorem E9(w:World)(B g f:Nat)(v:Value)(h:Hd)(s:ByteArray)(hG:G0 w)(hI:bl w B g f v h)(ho:kP h)(hw:h.whole=false)(hs0:h.status=0)(hB:B≤w.heap.size)(hst:h.started=true)(h0:¬s.size=0)(h1:s.size≤256)(h2:¬1024 < h.bytes+s.size+2):
 Calls Tryz.prog 179 #[.pointer (some ⟨g,0,none⟩),.string s] w (cO w B g f v (bw h (af s))):=by
 have hbg:=hI.bk;have hgl:=hbg.lt;have hc:=hbg.all;have hz:=hbg.fz;have hby:=ho.bytes;have hem:=ho.empty;unfold jS at hc;rw [hw,hs0,hst] at hc;have HI:=aa (ab hI (ab ho (ab hG (ab hw hs0))));clear hI ho hbg hG hw hs0;have i1:¬(256:Int) < (s.size:Int):=by omega
 have i0:¬(257:Int)≤(s.size:Int):=by omega
 have i3:min (s.size:Int) 257=(s.size:Int):=by omega
 have i8:IntKind.i64.wrap ((s.size:Int)+2)=(s.size:Int)+2:=IntWalk.i64_in _ (by omega);have i9:IntKind.i64.wrap (((h.bytes:Nat):Int)+((s.size:Int)+2))=((h.bytes:Nat):Int)+((s.size:Int)+2):=IntWalk.i64_in _ (by omega);have i10:¬(1024:Int) < (h.bytes:Int)+((s.size:Int)+2):=by omega
 have z1:¬s.toList=[]:=by rw [ByteArray.toList_eq];exact fun e=>h0 (by have:=congrArg List.length e;simpa using this)
 have z2:s.toList.isEmpty=false:=by
  cases h:s.toList with
  |nil=>exact absurd h z1
  |cons=>rfl
 have z0:¬af s=[]:=fun e=>h0 (by rw [←ag,e];rfl);obtain⟨p,c,hp⟩:∃ p c,kL (h.more s.size) (af s)=(p,c):=⟨_,_,rfl⟩;have HE:=aa (dL (h:=h) (h':=p) (c:=c) HI.out.2.2.2.1 HI.out.2.2.2.2 (s:=af s) (by unfold bA;rw [if_neg (by rw [ag];omega),ag,if_neg h2,if_neg (by rw [hst];decide),if_neg z0,hp]));have HPw:=aa (show p.whole=false from by have:=mu (h:=h.more s.size) (s:=af s);rw [hp] at this;exact this.trans HI.out.2.2.2.1);obtain⟨w1,hw1⟩:=ai (w.setCell ⟨g,9,none⟩ (.int .i64 ((h.bytes:Int)+((s.size:Int)+2))));have hI1:bl w1 B g f v (h.more s.size):=by rw [←hw1];exact HI.out.1.bytes s.size
 have hs1:Sm (fun x=>x=g) w w1:=by rw [←hw1];exact(Sm.refl _ w).set1 9 _
 have HW1:=aa (ab hw1 (ab hI1 hs1));have hgl1:=hI1.bk.lt;have hc1:=hI1.bk.all;have hz1:=hI1.bk.fz;unfold jS at hc1;rw [show (h.more s.size).whole=false from HI.out.2.2.2.1,show (h.more s.size).status=0 from HI.out.2.2.2.2,show (h.more s.size).started=true from hst,show (h.more s.size).bytes=h.bytes+s.size+2 from rfl,show (h.more s.size).empty=h.empty from rfl,show (h.more s.size).minor=h.minor from rfl] at hc1;have i11:¬(1024:Int) < ((h.bytes+s.size+2:Nat):Int):=by omega
 clear hw1 hI1 hs1;have HSt:=zM w1 B g f v (h.more s.size) s HW1.out.2.1 HI.out.2.1.len h1 (Nat.le_trans hB HW1.out.2.2.size);rw [hp] at HSt;have HSt:=aa HSt;clear z0 hp;go_in;go_upto_region 7 with fail;rw [HW1.out.1];clear hc hz hgl;go_wp2_with fail;refine HSt.out.mono ?_;rintro e w2 ⟨v',rfl,hI2,hs2,hf2⟩;have hgl2:=hI2.bk.lt;have HI2:=aa (ab hI2 (ab hs2 hf2));have hz2:=hI2.bk.fz;clear hc1 hz1 hgl1;have hc2:=hI2.bk.all;unfold jS at hc2;clear hI2 hs2 hf2;dsimp only;obtain⟨w9,hw9⟩:=ai (w2.setCell ⟨g,15,none⟩ (.int .i64 c));obtain⟨cs,hb9,hc14,hc15⟩:∃ cs,Bk w9 g 187 cs∧cs[14]?=some (.bool false)∧cs[15]?=some (.int .i64 c):=⟨_,by rw [←hw9];exact HI2.out.1.bk.set 15 _,by show some (Value.bool p.whole)=_;rw [HPw.out],by rfl⟩;have k14:=hb9.at 14 hc14;have k15:=hb9.at 15 hc15;have kl:=hb9.lt;have HW9:=aa hw9;clear hb9 hc14 hc15 hw9;go_upto_region 20 with fail;rw [HW9.out];go_quiet (fail);go_wp2_with fail;go_ret2;rw [HE.out];have hsw:Sm (qF g f v) w w9:=by rw [←HW9.out];exact((HW1.out.2.2.mono (fun _ _ e=>Or.inl e)).tt HI2.out.2.1).setS (Or.inl rfl) 15 _
 have hfw:dQ w v v':=by
  rcases HI2.out.2.2 with g4|⟨b,g4,g5⟩
  ·exact Or.inl g4
  ·exact Or.inr ⟨b,g4,Nat.le_trans HW1.out.2.2.size g5⟩
 by_cases hc0:c=0
 ·subst hc0;exact cO.good (v':=v') HPw.out (by have h3:=HI2.out.1.stat 0;rw [HW9.out] at h3;exact h3.no ((Sm.refl No _).drewN _)) (hsw.drewN _) hfw
 ·exact⟨v',by show _=Ending.returned (.tuple #[.bool p.whole,.int .i64 c]);rw [HPw.out];rfl,fun h=>absurd (show c=0 from h) hc0,hsw.drewN _,hfw⟩
theorem bl.turned{w w':World}{B g f:Nat}{v:Value}{h h':Hd}(hI:bl w B g f v h)(hf:h'.fields=h.fields)(hs:Sm (fun x=>x=g) w w')(hb:Bk w' g 187 (jS f h')):bl w' B g f v h':=hI.of hf hs hb
theorem Et(w:World)(B g f:Nat)(v:Value)(h:Hd)(s:ByteArray)(hG:G0 w)(hI:bl w B g f v h)(ho:kP h)(hw:h.whole=false)(hs0:h.status=0)(hst:h.started=true)(h0:s.size=0)(h2:¬1024 < h.bytes+s.size+2):
 Calls Tryz.prog 179 #[.pointer (some ⟨g,0,none⟩),.string s] w (cO w B g f v (bw h (af s))):=by
 have hbg:=hI.bk;have hgl:=hbg.lt;have hc:=hbg.all;have hz:=hbg.fz;have hby:=ho.bytes;unfold jS at hc;rw [hw,hs0,hst] at hc;have HI:=aa (ab hI (ab ho (ab hG (ab hw hs0))));clear hI ho hbg hG hw hs0;have i1:¬(256:Int) < (s.size:Int):=by omega
 have i0:¬(257:Int)≤(s.size:Int):=by omega
 have i3:min (s.size:Int) 257=(s.size:Int):=by omega
 have i8:IntKind.i64.wrap ((s.size:Int)+2)=(s.size:Int)+2:=IntWalk.i64_in _ (by omega);have i9:IntKind.i64.wrap (((h.bytes:Nat):Int)+((s.size:Int)+2))=((h.bytes:Nat):Int)+((s.size:Int)+2):=IntWalk.i64_in _ (by omega);have i10:¬(1024:Int) < (h.bytes:Int)+((s.size:Int)+2):=by omega
 have z1:s.toList=[]:=by rw [ByteArray.toList_eq];exact List.eq_nil_of_length_eq_zero (by simpa using h0)
 have z0:af s=[]:=List.eq_nil_of_length_eq_zero (by rw [ag];exact h0);obtain⟨q,c,hq⟩:∃ q c,gW h.minor h.fields=(q,c):=⟨_,_,rfl⟩;have HE:=aa (dL (h:=h) (h':= {h.more 0 with how:=q,whole:=decide (c=0)}) (c:=c) HI.out.2.2.2.1 HI.out.2.2.2.2 (s:=af s) (by unfold bA;rw [if_neg (by rw [ag];omega),ag,if_neg h2,if_neg (by rw [hst];decide),if_pos z0,hq];unfold Hd.ends Hd.more;dsimp only;rw [hq]));obtain⟨w1,hw1⟩:=ai (w.setCell ⟨g,9,none⟩ (.int .i64 ((h.bytes:Int)+((s.size:Int)+2))));have hI1:bl w1 B g f v (h.more s.size):=by rw [←hw1];exact HI.out.1.bytes s.size
 have hs1:Sm (fun x=>x=g) w w1:=by rw [←hw1];exact(Sm.refl _ w).set1 9 _
 have hG1:G0 w1:=HI.out.1.g0 HI.out.2.2.1 hs1;have HW1:=aa (ab hw1 (ab hI1 hs1));have hgl1:=hI1.bk.lt;have hc1:=hI1.bk.all;have hz1:=hI1.bk.fz;unfold jS at hc1;rw [show (h.more s.size).whole=false from HI.out.2.2.2.1,show (h.more s.size).status=0 from HI.out.2.2.2.2,show (h.more s.size).started=true from hst,show (h.more s.size).bytes=h.bytes+s.size+2 from rfl,show (h.more s.size).empty=h.empty from rfl,show (h.more s.size).minor=h.minor from rfl] at hc1;have i11:¬(1024:Int) < ((h.bytes+s.size+2:Nat):Int):=by omega
 have HOf:=aa (fun (W:World) (hW:Sm No w1 W)=>show Calls Tryz.prog 198 #[.int .i64 h.minor,.pointer (some ⟨f,0,none⟩)] W (mg (q,c) W) from by
  have e:=Dl W B f v h.fields h.minor HI.out.2.1.minor (hG1.no hW) ((hI1.no hW).fs) HI.out.2.1.light;rw [hq] at e;exact e)
 have H0:=aa h0;obtain⟨mi,hmi⟩:=ai h.minor;rw [hmi] at hc1 hc HOf;have HMi:=aa hmi;have r0:=hc1 0;have r6:=hc1 6;clear z0 h0 hw1 hI1 hs1 hG1 hq hmi;go_in;go_upto_region 7 with fail;rw [HW1.out.1];clear hc hz hgl;go_upto_region 18 with fail;clear hc1 hz1 i0 i1 i3 i8 i9 i10 i11 z1 hby h2 hst;obtain⟨vm,tf,th,tp,tq,sv,em,bv,k0,k1,k2,k3,wh,stv,hbv,hvv⟩:∃ vm tf th tp tq sv em bv k0 k1 k2 k3 wh stv:Value,Bk w1 g 187 #[.pointer (some ⟨f,0,none⟩),vm,tf,th,tp,tq,.int .i64 mi,sv,em,bv,k0,k1,k2,k3,wh,stv]∧(∀ x0 x1 x2 x3 y:Value,#[.pointer (some ⟨f,0,none⟩),vm,tf,th,tp,tq,.int .i64 mi,sv,em,bv,x0,x1,x2,x3,wh,y]=#[.pointer (some ⟨f,0,none⟩),.string ⟨h.method.toArray⟩,.int .i64 h.target.form,.string ⟨h.target.host.toArray⟩,.string ⟨h.target.path.toArray⟩,.string ⟨h.target.query.toArray⟩,.int .i64 h.minor,.bool h.started,.int .i64 (h.empty:Nat),.int .i64 ((h.bytes+s.size+2:Nat):Int),x0,x1,x2,x3,.bool h.whole,y]):=
  ⟨_,_,_,_,_,_,_,_,_,_,_,_,_,_,by have e:=HW1.out.2.1.bk;unfold jS at e;rw [show (h.more s.size).minor=mi from HMi.out] at e;exact e,fun x0 x1 x2 x3 y=>by rw [HMi.out];rfl⟩
 have HB1:=aa (ab hbv hvv);have r0d:w1.drew.cell? ⟨g,0,none⟩=some (.pointer (some ⟨f,0,none⟩)):=r0;have r6d:w1.drew.cell? ⟨g,6,none⟩=some (.int .i64 mi):=r6;obtain⟨q0,q1,q2,q3⟩:=q;clear hbv hvv
 go_cut [] from 105 to 122 (fun wx=>Sm (fun x=>x=g) w1 wx∧Bk wx g 187 #[.pointer (some ⟨f,0,none⟩),vm,tf,th,tp,tq,.int .i64 mi,sv,em,bv,.int .i64 q0,.int .i64 q1,.bool q2,.bool q3,wh,.int .i64 c])
 case first=>
  go_region_held3 (fun w'=>w'.cell? ⟨g,0,none⟩=some (.pointer (some ⟨f,0,none⟩))∧w'.cell? ⟨g,6,none⟩=some (.int .i64 mi)) (first|with_reducible exact⟨r0,r6⟩|with_reducible exact⟨r0d,r6d⟩|with_reducible exact⟨r5,r7⟩|with_reducible exact⟨s5,s7⟩|with_reducible exact⟨t5,t7⟩)
   ((go_at_call 198;(with_reducible refine(HOf.out w1.drew (Sm.refl No w1).drew).mono ?_);rintro e w5 ⟨h5,rfl⟩;have hs5:=(Sm.refl No w1).drew.tt h5;have hb5:=HB1.out.1.sm hs5 (fun e=>e);have r5:=hb5.at 0 (v:=.pointer (some ⟨f,0,none⟩)) rfl;have r7:=hb5.at 6 (v:=.int .i64 mi) rfl;have d10:=hb5.at 10 (v:=k0) rfl;have d11:=hb5.at 11 (v:=k1) rfl;have d12:=hb5.at 12 (v:=k2) rfl;have d13:=hb5.at 13 (v:=k3) rfl;have d15:=hb5.at 15 (v:=stv) rfl;have hz5:=hb5.fz;have hl5:=hb5.lt;have hb6:=(((hb5.set 10 (.int .i64 q0)).set 11 (.int .i64 q1)).set 12 (.bool q2)).set 13 (.bool q3);have hb7:=hb6.set 15 (.int .i64 c);have s5:=hb6.at 0 (v:=.pointer (some ⟨f,0,none⟩)) rfl;have s7:=hb6.at 6 (v:=.int .i64 mi) rfl;have t5:=hb7.at 0 (v:=.pointer (some ⟨f,0,none⟩)) rfl;have t7:=hb7.at 6 (v:=.int .i64 mi) rfl;unfold qC))
  go_wp2_with fail;go_meet;exact⟨((((((hs5.any (fun x=>x=g)).set1 10 _).set1 11 _).set1 12 _).set1 13 _).set1 15 _),hb7.eq rfl⟩
 case rest=>
  obtain⟨hsc,hbc⟩:=hcut;have hgc:=hbc.lt;have hcc:=hbc.all;have hzc:=hbc.fz;have HBc:=aa (ab hsc hbc);clear hsc hbc r0 r6 r0d r6d;by_cases hc0:c=0
  ·subst hc0;go_upto_region 20 with fail;obtain⟨w9,hw9⟩:=ai (wc.setCell ⟨g,14,none⟩ (.bool true));have hb9:Bk w9 g 187 #[.pointer (some ⟨f,0,none⟩),vm,tf,th,tp,tq,.int .i64 mi,sv,em,bv,.int .i64 q0,.int .i64 q1,.bool q2,.bool q3,.bool true,.int .i64 0]:=by rw [←hw9];exact(HBc.out.2.set 14 _).eq rfl
   have k14:=hb9.at 14 (v:=.bool true) rfl;have k15:=hb9.at 15 (v:=.int .i64 0) rfl;have kl:=hb9.lt;have HW9:=aa (ab hw9 hb9);rw [hw9];clear hw9 hb9 hcc hzc;go_quiet (fail);go_wp2_with fail;go_ret2;rw [HE.out];have hs9:Sm (fun x=>x=g) w w9:=by rw [←HW9.out.1];exact(HW1.out.2.2.tt HBc.out.1).set1 14 _
   refine⟨v,rfl,fun _=> ?_,(hs9.mono (fun _ _ e=>Or.inl e)).drewN _,Or.inl rfl⟩;refine bl.no ?_ ((Sm.refl No w9).drewN _);refine HI.out.1.of rfl hs9 (HW9.out.2.eq ?_);have e:=HB1.out.2 (.int .i64 q0) (.int .i64 q1) (.bool q2) (.bool q3) (.int .i64 0);rw [H0.out] at e;exact congrArg (fun a=>a.setIfInBounds 14 (.bool true)) e
  ·have e0:(c==0)=false:=by simp [hc0]
   have HC0:=aa hc0;clear hc0;go_upto_region 20 with fail;obtain⟨w9,hw9⟩:=ai (wc.setCell ⟨g,14,none⟩ (.bool false));have hb9:Bk w9 g 187 #[.pointer (some ⟨f,0,none⟩),vm,tf,th,tp,tq,.int .i64 mi,sv,em,bv,.int .i64 q0,.int .i64 q1,.bool q2,.bool q3,.bool false,.int .i64 c]:=by rw [←hw9];exact(HBc.out.2.set 14 _).eq rfl
   have k14:=hb9.at 14 (v:=.bool false) rfl;have k15:=hb9.at 15 (v:=.int .i64 c) rfl;have kl:=hb9.lt;have HW9:=aa (ab hw9 hb9);rw [hw9];clear hw9 hb9 hcc hzc;go_quiet (fail);go_wp2_with fail;go_ret2;rw [HE.out];exact cO.bad (h':= {h.more 0 with how:=⟨q0,q1,q2,q3⟩,whole:=decide (c=0)}) (decide_eq_false HC0.out) HC0.out (by rw [←HW9.out.1];exact((HW1.out.2.2.tt HBc.out.1).set1 14 _).drewN _)
theorem Ae(w:World)(B g f:Nat)(v:Value)(h:Hd)(s:ByteArray)(hG:G0 w)(hI:bl w B g f v h)(ho:kP h)(hw:h.whole=false)(hs0:h.status=0)(hm:h.started=false→h.minor=0)(hB:B≤w.heap.size):
 Calls Tryz.prog 179 #[.pointer (some ⟨g,0,none⟩),.string s] w (cO w B g f v (bw h (af s))):=by
 by_cases h1:256 < s.size
 ·cases hst:h.started with
  |true=>exact qU w B g f v h s hG hI ho hw hs0 hB hst h1
  |false=>exact oC w B g f v h s hG hI ho hw hs0 hB hst h1
 by_cases h2:1024 < h.bytes+s.size+2
 ·cases hst:h.started with
  |true=>exact qr w B g f v h s hG hI ho hw hs0 hB hst (by omega) h2
  |false=>exact oB w B g f v h s hG hI ho hw hs0 hB hst (by omega) h2
 cases hst:h.started with
 |false=>
  by_cases h0:s.size=0
  ·by_cases h4:4 < h.empty+1
   ·exact Ge w B g f v h s hG hI ho hw hs0 hB hst h0 h2 h4
   ·exact Gg w B g f v h s hG hI ho hw hs0 hB hst h0 h2 h4
  ·exact Cx w B g f v h s hG hI ho hw hs0 hB hst h0 (by omega) h2 (hm hst)
 |true=>
  by_cases h0:s.size=0
  ·exact Et w B g f v h s hG hI ho hw hs0 hst h0 h2
  ·exact E9 w B g f v h s hG hI ho hw hs0 hB hst h0 (by omega) h2
end Go.Proofs.YtadcjgopaadfjaaGreatDoor
