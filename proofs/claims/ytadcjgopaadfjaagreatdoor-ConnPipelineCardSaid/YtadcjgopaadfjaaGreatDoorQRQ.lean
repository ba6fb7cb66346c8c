import Derived.Test.YtadcjgopaadfjaaGreatDoorQRP
import Derived.Test.YtadcjgopaadfjaaGreatDoorQOR
set_option maxHeartbeats 16000000
set_option maxRecDepth 100000
namespace Go.Proofs.YtadcjgopaadfjaaGreatDoor
open Go.RowKit Go.Proofs
def lW(w:World)(bb r0:Nat)(cs:Array Value)(L:ah)(wr:World):Prop:=sD wr (bb+1) bb L∧Bk wr r0 93 cs∧bb+1≤wr.heap.size∧r0 < bb∧w.heap.size≤r0∧Sm No w wr
theorem lW.no{w wr w':World}{bb r0:Nat}{cs:Array Value}{L:ah}(h:lW w bb r0 cs L wr)(hs:Sm No wr w'):lW w bb r0 cs L w':=
 ⟨h.1.no hs,h.2.1.sm hs (fun e=>e),Nat.le_trans h.2.2.1 hs.size,h.2.2.2.1,h.2.2.2.2.1,h.2.2.2.2.2.tt hs⟩
theorem lW.line{w wr w':World}{bb r0:Nat}{cs:Array Value}{L L2:ah}{e:Ending}(h:lW w bb r0 cs L wr)(hp:pT wr (bb+1) bb L2 e w'):e=.returned (.tuple #[])∧lW w bb r0 cs L2 w':=by
 obtain⟨h1,h2,h3⟩:=hp;obtain⟨k1,k2,k3,k4,k5,k6⟩:=h;exact⟨h1,h2,k2.sm h3 (fun e=>by rcases e with e|e<;>omega),Nat.le_trans k3 h3.size,k4,k5,k6.trans h3 (fun b hb e=>by rcases e with e|e<;>omega)⟩
theorem lW.l2{w wr:World}{bb r0:Nat}{cs:Array Value}{L:ah}(h:lW w bb r0 cs L wr)(a b:ByteArray)(hl:L.length+(fJ [a,b]).length≤900000):
 Calls Tryz.prog 106 #[.slice (some ⟨wr.heap.size,0,none⟩) 2 2,.pointer (some ⟨bb,0,none⟩)] (wr.alloc (.cells #[.string a,.string b] 9)) fun e w'=>e=.returned (.tuple #[])∧lW w bb r0 cs (L++(fJ [a,b]++[13,10])) w':=by
 have h2:=h.no ((Sm.refl No wr).alloc (.cells #[.string a,.string b] 9));exact(mG _ (bb+1) bb L wr.heap.size [a,b] h2.1 h2.2.2.1 (Bk.new _ _ _) (by simp) hl).mono (fun _ _ hp=>h2.line hp)
theorem lW.l3{w wr:World}{bb r0:Nat}{cs:Array Value}{L:ah}(h:lW w bb r0 cs L wr)(a b c:ByteArray)(hl:L.length+(fJ [a,b,c]).length≤900000):
 Calls Tryz.prog 106 #[.slice (some ⟨wr.heap.size,0,none⟩) 3 3,.pointer (some ⟨bb,0,none⟩)] (wr.alloc (.cells #[.string a,.string b,.string c] 9)) fun e w'=>e=.returned (.tuple #[])∧lW w bb r0 cs (L++(fJ [a,b,c]++[13,10])) w':=by
 have h2:=h.no ((Sm.refl No wr).alloc (.cells #[.string a,.string b,.string c] 9));exact(mG _ (bb+1) bb L wr.heap.size [a,b,c] h2.1 h2.2.2.1 (Bk.new _ _ _) (by simp) hl).mono (fun _ _ hp=>h2.line hp)
theorem lW.l4{w wr:World}{bb r0:Nat}{cs:Array Value}{L:ah}(h:lW w bb r0 cs L wr)(a b c d:ByteArray)(hl:L.length+(fJ [a,b,c,d]).length≤900000):
 Calls Tryz.prog 106 #[.slice (some ⟨wr.heap.size,0,none⟩) 4 4,.pointer (some ⟨bb,0,none⟩)] (wr.alloc (.cells #[.string a,.string b,.string c,.string d] 9)) fun e w'=>e=.returned (.tuple #[])∧lW w bb r0 cs (L++(fJ [a,b,c,d]++[13,10])) w':=by
 have h2:=h.no ((Sm.refl No wr).alloc (.cells #[.string a,.string b,.string c,.string d] 9));exact(mG _ (bb+1) bb L wr.heap.size [a,b,c,d] h2.1 h2.2.2.1 (Bk.new _ _ _) (by simp) hl).mono (fun _ _ hp=>h2.line hp)
theorem lW.l0{w wr:World}{bb r0:Nat}{cs:Array Value}{L:ah}(h:lW w bb r0 cs L wr)(hl:L.length≤900000):
 Calls Tryz.prog 106 #[.slice none 0 0,.pointer (some ⟨bb,0,none⟩)] wr fun e w'=>e=.returned (.tuple #[])∧lW w bb r0 cs (L++[13,10]) w':=
 (C0 _ (bb+1) bb L h.1 h.2.2.1 hl).mono (fun _ _ hp=>h.line hp)
theorem oE{w:World}{B C:Nat}{v:Value}{l:ah}(h:aG w B v l)(hC:C≤B):aG w C v l:=by
 obtain⟨h1,h2⟩:=h;refine⟨h1,?_⟩;rcases h2 with h2|⟨g,cap,cur,hv,hg,hh⟩
 ·exact Or.inl h2
 ·exact Or.inr ⟨g,cap,cur,hv,Nat.le_trans hC hg,hh⟩
def iJ(w:World)(r:fQ)(head:Bool)(minor:Int)(close:Bool)(e:Ending)(w':World):Prop:=
 ∃ v,e=.returned (.tuple #[v,.int .i64 0])∧aG w' w.heap.size v (gw r head minor close)∧Sm No w w'
theorem yg (w:World) (hg:G1 w) (r:fQ) (A1 A2 A3:Option Addr) (c1 c2 c3:Nat) (hn:hY r) (hp:r.parts=[]) (h1:ec w A1 r.fs) (h2:ax w A2 (aL r.body)) (h2n:A2=none→r.body.length=0∧c2=0)
 (head close:Bool) (minor:Int) (hmi: -1000000≤minor∧minor≤1000000):
 Calls Tryz.prog 70 #[.agg #[.int .i64 r.st,.slice A1 r.fs.length c1,.slice A2 r.body.length c2,.slice A3 0 c3],.bool head,.int .i64 minor,.bool close] w (iJ w r head minor close):=by
 have HOne:=aa (fun W (h:Sm No w W)=>zn W r A1 A2 A3 c1 c2 c3 hn hp (h1.no h));have HI:=aa (ab h1 (ab h2 (ab h2n (ab hn hp))));have HEnc:=aa (show (gw r head minor close).length≤65536 from by
  have h:=hn.enc head close minor;rcases Nat.lt_or_ge 65536 (gw r head minor close).length with h2|h2
  ·rw [FF hn.may h2] at h;cases h
  ·exact h2)
 have hfl:=hn.len;have HG:=aa hg;obtain⟨hst1,hst2⟩:=hn.st;obtain⟨hmi1,hmi2⟩:=hmi;clear h1 h2 h2n hn hp hg;obtain⟨R,hR⟩:=ai r;obtain⟨st,fs,body,parts⟩:=r;have HR:=aa hR;rw [hR] at HOne HI HEnc ⊢;clear hR;have e0:=HR.out;have HR2:=aa (show R.st=st∧R.fs=fs∧R.body=body from by rw [←e0];exact⟨rfl,rfl,rfl⟩);rw [HR2.out.1,HR2.out.2.1,HR2.out.2.2] at HOne ⊢;clear e0;dsimp only at hst1 hst2 hfl;obtain⟨m,hm⟩:=ai body.length;rw [hm] at HOne ⊢;have HBL:=aa hm;clear hm;obtain⟨r0,hr0⟩:=ai w.heap.size;have HR0:=aa hr0;clear hr0;obtain⟨cs,hcs⟩:∃ cs:Array Value,#[.int .i64 st,.slice A1 fs.length c1,.slice A2 m c2,.slice A3 0 c3]=cs:=⟨_,rfl⟩;have HCs:=aa hcs;clear hcs;go_in;go_wp2_with fail;rw [HR0.out];refine(HOne.out _ ((Sm.refl No w).alloc _)).mono ?_;rintro e w2 ⟨rfl,hs2⟩;have hb2:=(Bk.newAt w 93 cs (g:=r0) HR0.out.symm).sm (w':=w2) (S:=No) (by rw [←HCs.out];exact hs2) (fun e=>e);have hw2:=((Sm.refl No w).alloc _).tt hs2;have H2:=aa (ab hb2 hw2);clear hs2 hb2 hw2;go_upto_region 5 with fail;obtain⟨bb,hbb⟩:=ai w2.heap.size;rw [hbb];obtain⟨w3,hw3⟩:∃ w3,w2.alloc (.cells #[.slice none 0 0] 34)=w3:=⟨_,rfl⟩;rw [hw3];have hS3:lW w bb r0 cs [] w3:=by
  rw [←hw3,←hbb];have hs:=H2.out.2.alloc (.cells #[.slice none 0 0] 34);have h5:=H2.out.1.lt;exact⟨⟨.slice none 0 0,Bk.new _ _ _,aG.nil _ _,by simp [Value.ownBlock]⟩,H2.out.1.alloc _,by simp,h5,by rw [HR0.out];exact Nat.le_refl _,hs⟩
 have HS3:=aa hS3;clear hS3 hw3 hbb H2;obtain⟨dB,hdB⟩:=ai ((⟨(Lib.itoa st).toArray⟩:ByteArray));obtain⟨pB,hpB⟩:=ai ((⟨(aE st).toArray⟩:ByteArray));have HDec:=aa (fun (W:World) (h:Sm No w W)=>qW W (HG.out.no h) st (by omega) (by omega));have HPhr:=aa (fun (W:World)=>jP W st);unfold aP at HDec HPhr;rw [hdB] at HDec;rw [hpB] at HPhr;have HT:=aa (show fJ [⟨#[72,84,84,80,47,49,46,49,32]⟩,dB,⟨#[32]⟩,pB]++[13,10]=oy st from by
  rw [←hdB,←hpB];unfold oy fJ;simp [af,nV,cZ])
 clear hdB hpB;have HZ:=aa (show ([]:ah).length+(fJ [⟨#[72,84,84,80,47,49,46,49,32]⟩,dB,⟨#[32]⟩,pB]).length≤900000 from by
  have h1:=Au hst1 (by omega:st≤9223372036854775807);have h2:=congrArg List.length HT.out;rw [List.length_append] at h2;show 0+_≤_;omega)
 have hb3:Bk w3 r0 93 #[.int .i64 st,.slice A1 fs.length c1,.slice A2 m c2,.slice A3 0 c3]:=by rw [HCs.out];exact HS3.out.2.1
 have d0:=hb3.at 0 (v:=.int .i64 st) rfl;have dl:=hb3.lt;have HCell:=aa (show ∀ W,Sm No w3 W→W.cell? ⟨r0,0,none⟩=some (.int .i64 st) from fun W h=>h.cell dl d0);clear hb3
 go_cut [26] from 19 to 27 (fun _ wx=>lW w bb r0 cs (oy st) wx)
 case first=>
  go_region_law
   (first
    |(go_simp;refine(HDec.out _ (HS3.out.2.2.2.2.2.drew)).mono ?_;rintro e w5 ⟨rfl,hs5'⟩;have hs5:=((Sm.refl No w3).drew).tt hs5';have d5:=HCell.out _ hs5;have hS5:=HS3.out.no hs5)
    |(go_simp;refine(HPhr.out _).mono ?_;rintro e wP ⟨rfl,hP⟩;subst hP)
    |(go_simp;refine(hS5.l4 _ _ _ _ HZ.out).mono ?_;rintro e w7 ⟨rfl,hS7⟩)
    |fail)
  all_goals
   go_wp2_with fail;go_meet;rw [List.nil_append,HT.out] at hS7;exact hS7
 case rest=>
  have HB3:=HBL;have HSc:=aa hcut;clear hcut d0 dl;have hb4:Bk wc r0 93 #[.int .i64 st,.slice A1 fs.length c1,.slice A2 m c2,.slice A3 0 c3]:=by rw [HCs.out];exact HSc.out.2.1
  have q1:=hb4.at 1 (v:=.slice A1 fs.length c1) rfl;clear hb4;go_wp2_with fail;clear q1
  go_loopw [31] (fun iv wr=>∃ k:Nat,k≤fs.length∧iv=.int .i64 k∧lW w bb r0 cs (oy st++ci (fs.take k)) wr) (fun iv _=>fs.length-(intOf iv).toNat)
  case atStart=>exact⟨0,Nat.zero_le _,rfl,by simpa [ci] using HSc.out⟩
  case round=>
   obtain⟨k,hk,rfl,hSk⟩:=hrel;have HSk:=aa hSk;clear hSk;by_cases hlt:k < fs.length
   ·obtain⟨xb,off,hAe,hxb,e0,e1⟩:=((HR2.out.2.1 ▸ HI.out.1).no HSk.out.2.2.2.2.2) k hlt;subst hAe;have HST:=aa (vK hlt);have HNf:=aa (HI.out.2.2.2.1.fld fs[k] (by rw [HR2.out.2.1];exact List.getElem_mem hlt));obtain⟨nm,hnm⟩:∃ x,fs[k].1=x:=⟨_,rfl⟩;obtain⟨vl,hvl⟩:∃ x,fs[k].2=x:=⟨_,rfl⟩;rw [hnm] at e0;rw [hvl] at e1;have HT9:=aa (show oy st++ci (fs.take k)++(fJ [nm,⟨#[58,32]⟩,vl]++[13,10])=oy st++ci (fs.take (k+1)) from by
     rw [HST.out];unfold B8 fJ;rw [hnm,hvl];simp [af,cZ])
    have k1:(0:Int)≤(k:Int):=by omega
    have k2:(k:Int) < (fs.length:Int):=by omega
    clear hnm hvl;have HZ9:=aa (show (oy st++ci (fs.take k)).length+(fJ [nm,⟨#[58,32]⟩,vl]).length≤900000 from by
     have h1:=oN ⟨st,fs,body,parts⟩ head close minor (k+1);have h2:=HEnc.out;have h3:=congrArg List.length HT9.out;rw [←HR.out] at h2;simp only [List.length_append] at h1 h3 ⊢;omega)
    go_upto_region 9 with fail;obtain⟨f9,hf9⟩:=ai wr.heap.size;rw [hf9];obtain⟨w8,hw8⟩:∃ w8,wr.alloc (.cells #[.string nm,.string vl] 143)=w8:=⟨_,rfl⟩;rw [hw8];have hb8:Bk w8 f9 143 #[.string nm,.string vl]:=by rw [←hw8,←hf9];exact Bk.new _ _ _
    have HS8:=aa (show lW w bb r0 cs _ w8 from by rw [←hw8];exact HSk.out.no ((Sm.refl _ _).alloc _));have q0:=hb8.at 0 (v:=.string nm) rfl;have q1:=hb8.at 1 (v:=.string vl) rfl;clear hb8 hw8 hf9 e0 e1;go_wp2_with fail;refine(HS8.out.l3 _ _ _ HZ9.out).mono ?_;rintro e w9 ⟨rfl,hS9⟩;rw [HT9.out] at hS9;have HS9:=aa hS9;clear hS9;go_wp2_with fail;exact⟨⟨k+1,by omega,by go_num,HS9.out⟩,by simp [intOf];omega⟩
   ·obtain rfl:k=fs.length:=by omega
    have hS5:=HSk.out;rw [List.take_length] at hS5;have HS5:=aa hS5;clear hS5 HSk;have hb5:Bk wr r0 93 #[.int .i64 st,.slice A1 fs.length c1,.slice A2 m c2,.slice A3 0 c3]:=by rw [HCs.out];exact HS5.out.2.1
    have q3:=hb5.at 3 (v:=.slice A3 0 c3) rfl;have q0:=hb5.at 0 (v:=.int .i64 st) rfl;have q2:=hb5.at 2 (v:=.slice A2 m c2) rfl;clear hb5;go_upto_block 2 with fail;have HCd:=aa (show Ey R minor=false from by unfold Ey;rw [HI.out.2.2.2.2];rfl);have hL5:(oy st++ci fs).length≤65536:=by
     have h1:=oN ⟨st,fs,body,parts⟩ head close minor fs.length;have h2:=HEnc.out;rw [←HR.out] at h2;dsimp only at h1;rw [List.take_length] at h1;omega
    have hL6:(oy st++ci fs++kW R minor).length≤65600:=by
     have h1:=su R minor (by rw [HR2.out.2.2,HBL.out];have:=HI.out.2.2.2.1.body;rw [HR2.out.2.2,HBL.out] at this;omega);rw [List.length_append];omega
    have hm2:m≤2048:=by have:=HI.out.2.2.2.1.body;rw [HR2.out.2.2,HBL.out] at this;exact this
    go_cut [58] (fun _ wx=>lW w bb r0 cs (oy st++ci fs++kW R minor) wx)
    case first=>
     obtain⟨nb,hnb⟩:=ai (bR st);have HNB:=aa hnb;have HN:=aa (gO wr st);rw [hnb] at HN;clear hnb;go_wp2_with fail;refine HN.out.mono ?_;rintro e w5 ⟨rfl,hw5⟩;subst hw5
     cases nb with
     |true=>
      have HE:=aa (show kW R minor=[] from by unfold kW;rw [HR2.out.1,if_pos HNB.out]);go_wp2_with fail;go_meet;rw [HE.out,List.append_nil];exact HS5.out
     |false=>
      obtain⟨lB,hlB⟩:=ai ((⟨(Lib.itoa (m:Int)).toArray⟩:ByteArray));have hlz:=fF (c:=(m:Int)) (by omega) (by omega);have HDm:=aa (fun (W:World) (h:Sm No w W)=>qW W (HG.out.no h) (m:Int) (by omega) (by omega));unfold aP at HDm;rw [hlB] at HDm;have HE:=aa (show fJ [⟨#[67,111,110,116,101,110,116,45,76,101,110,103,116,104]⟩,⟨#[58,32]⟩,lB]++[13,10]=kW R minor from by
       unfold kW;rw [HR2.out.1,if_neg (by rw [HNB.out];decide),if_neg (by rw [HCd.out];decide),HR2.out.2.2,HBL.out,←hlB];simp [fJ,af,FT,cZ])
      have HZ6:=aa (show (oy st++ci fs).length+(fJ [⟨#[67,111,110,116,101,110,116,45,76,101,110,103,116,104]⟩,⟨#[58,32]⟩,lB]).length≤900000 from by
       have h1:=congrArg List.length HE.out;have h2:=hL6;simp only [List.length_append] at h1 h2 hL5 ⊢;omega)
      clear hlB hlz;go_wp2_with fail;refine(HDm.out _ HS5.out.2.2.2.2.2).mono ?_;rintro e w6 ⟨rfl,hs6⟩;have HS6:=aa (HS5.out.no hs6);clear hs6;go_wp2_with fail;refine(HS6.out.l3 _ _ _ HZ6.out).mono ?_;rintro e w7 ⟨rfl,hS7⟩;rw [HE.out] at hS7;have HS7:=aa hS7;clear hS7;go_wp2_with fail;go_meet;exact HS7.out
    case rest=>
     have HS6:=aa hcut;clear hcut q3 q0 q2;obtain⟨w6,rfl⟩:∃ w6:World,w6=wc:=⟨_,rfl⟩;go_upto_block 3 with fail
     go_cut [67] (fun _ wx=>lW w bb r0 cs (oy st++ci fs++kW R minor++nT minor close) wx)
     case first=>
      cases close with
      |true=>
       go_wp2_with fail;refine(HS6.out.l2 _ _ (by have h:(fJ [⟨#[67,111,110,110,101,99,116,105,111,110]⟩,⟨#[58,32,99,108,111,115,101]⟩]).length=17:=rfl;rw [h];omega)).mono ?_;rintro e w7 ⟨rfl,hS7⟩;have HS7:=aa hS7;clear hS7;go_wp2_with fail;go_meet;exact HS7.out
      |false=>
       by_cases hmi:minor < 1
       ·have hmd:decide (minor < 1)=true:=decide_eq_true hmi;have HE:=aa (show nT minor false=F9++cZ from by unfold nT;rw [if_neg (by decide),if_pos hmi]);go_wp2_with fail;refine(HS6.out.l2 _ _ (by have h:(fJ [⟨#[67,111,110,110,101,99,116,105,111,110]⟩,⟨#[58,32,107,101,101,112,45,97,108,105,118,101]⟩]).length=22:=rfl;rw [h];omega)).mono ?_;rintro e w7 ⟨rfl,hS7⟩;have HS7:=aa hS7;clear hS7;go_wp2_with fail;go_meet;rw [HE.out];exact HS7.out
       ·have hmd:decide (minor < 1)=false:=decide_eq_false hmi;have HE:=aa (show nT minor false=[] from by unfold nT;rw [if_neg (by decide),if_neg hmi]);go_wp2_with fail;go_meet;rw [HE.out,List.append_nil];exact HS6.out
     case rest=>
      have HS7:=aa hcut;clear hcut;obtain⟨w7,rfl⟩:∃ w7:World,w7=wc:=⟨_,rfl⟩;have hL7:(oy st++ci fs++kW R minor++nT minor close).length≤66000:=by
       have h1:=sk minor close;rw [List.length_append];omega
      have HHd:=aa (show oy st++ci fs++kW R minor++nT minor close++[13,10]=lE R minor close from by
       unfold lE;rw [HR2.out.1,HR2.out.2.1];simp [cZ])
      go_wp2_with fail;refine(HS7.out.l0 (by omega)).mono ?_;rintro e w8 ⟨rfl,hS8⟩;rw [HHd.out] at hS8;obtain⟨L8,hL8⟩:=ai (lE R minor close);rw [hL8] at hS8;obtain⟨⟨v,hbk,hO,hne⟩,hRk,hz8,h9,h10,hsm8⟩:=hS8;obtain⟨Av,cv,rfl, -⟩:=hO.slice;obtain⟨n8,hn8⟩:=ai L8.length;have hE8:n8+(iL R head minor).length≤65536:=by
       have:=HEnc.out;rw [pC,hL8,hn8] at this;exact this
      rw [hn8] at hbk hO hne;have H8:=aa (ab hbk (ab hO (ab hne (ab hRk (ab hz8 (ab h9 (ab h10 hsm8)))))));have HN8:=aa (ab hL8 hn8);have d8:=hbk.at 0 (v:=.slice Av n8 cv) rfl;have z8:=hbk.fz 0;have hRk2:Bk w8 r0 93 #[.int .i64 st,.slice A1 fs.length c1,.slice A2 m c2,.slice A3 0 c3]:=by rw [HCs.out];exact hRk
      have q0:=hRk2.at 0 (v:=.int .i64 st) rfl;have q2:=hRk2.at 2 (v:=.slice A2 m c2) rfl;clear hL8 hn8 hbk hO hne hRk hz8 h9 h10 hsm8 hRk2;have HPure:=aa (show iL R head minor=[]→iJ w R head minor close (.returned (.tuple #[.slice Av n8 cv,.int .i64 0])) w8 from fun hb=>by
       refine⟨_,rfl,?_,H8.out.2.2.2.2.2.2.2⟩;have h:=H8.out.2.1;unfold gw;rw [hb,List.append_nil,HN8.out.1];exact oE h (by have:=H8.out.2.2.2.2.2.1;have:=H8.out.2.2.2.2.2.2.1;omega))
      have i8:¬(65536:Int) < (n8:Int):=by omega
      cases head with
      |true=>
       have HP:=aa (HPure.out (by unfold iL;rw [if_pos rfl]));go_wp2_with fail;go_ret2;exact HP.out
      |false=>
       obtain⟨nb,hnb⟩:=ai (bR st);have HNB:=aa hnb;have HN:=aa (gO w8 st);rw [hnb] at HN;clear hnb;go_wp2_with fail;refine HN.out.mono ?_;rintro e w9 ⟨rfl,hw9⟩;subst hw9
       cases nb with
       |true=>
        have HP:=aa (HPure.out (by
         have h:=HI.out.2.2.2.1.nob;rw [HR2.out.1,HNB.out] at h;unfold iL;rw [if_neg (by decide),if_neg (by rw [HCd.out];decide)];simpa using h))
        go_wp2_with fail;go_ret2;exact HP.out
       |false=>
        have HA2:=aa (show A2=none→m=0∧c2=0 from fun e=>by have h:=HI.out.2.2.1 e;rw [HR2.out.2.2,HBL.out] at h;exact h);have HRow:=aa (show ax w9 A2 (aL body) from by have h:=HI.out.2.1;rw [HR2.out.2.2] at h;exact h.no H8.out.2.2.2.2.2.2.2);have HBd:=aa (show iL R false minor=body from by
         unfold iL;rw [if_neg (by decide),if_neg (by rw [HCd.out];decide)];exact HR2.out.2.2)
        have hO8:=H8.out.2.1;have hln:(aL body).length=m * 1:=by unfold aL;rw [List.length_map,HBL.out,Nat.mul_one]
        have hE9:n8+m≤65536:=by have h:=hE8;rw [HBd.out,HBL.out] at h;exact h
        have H9:=aa (ab (show w9.ownsRow (bb+1) 5 1 (.slice Av n8 cv) n8 (L8.map aU) from by have h:=hO8;unfold aG at h;rw [HN8.out.2] at h;exact h) hln);clear hO8 hln;go_wp2_with (refine bE rfl _ _ 34 5 rfl Tryz.underlying34 _ 1 1 fC rfl (by decide) (by decide) (bb+1) n8 (.slice Av n8 cv) (L8.map aU) rfl H9.out.1 A2 m c2 (aL body) rfl HA2.out H9.out.2 HRow.out (oQ body) (by omega) H8.out.2.2.2.2.1 ?_;intro v10 w10 hO10 hs10 _;refine RowKit.Hid.out ?_);refine aa ?_;have hbk10:=H8.out.1.sm hs10 H8.out.2.2.1;have hO11:aG w10 (bb+1) v10 (L8++body):=aG.push2 (by rw [HN8.out.2,HBL.out];exact hO10);have hn10:=am hO11 hbk10 (by decide);obtain⟨A10,c10,rfl, -⟩:=hO11.slice;have hl10:(L8++body).length=n8+m:=by rw [List.length_append,HN8.out.2,HBL.out]
        have hO12:=hO11;rw [hl10] at hO11 hn10;rw [hl10];have d10:=hbk10.at 0 (v:=.slice Av n8 cv) rfl;have z10:=hbk10.fz 0;have i10:¬(65536:Int) < ((n8+m:Nat):Int):=by omega
        have HP:=aa (show iJ w R false minor close (.returned (.tuple #[.slice A10 (n8+m) c10,.int .i64 0])) (w10.setCell ⟨bb,0,none⟩ (.slice A10 (n8+m) c10)) from by
         refine⟨_,rfl,?_,?_⟩
         ·refine oE (B:=bb+1) ?_ (by have:=H8.out.2.2.2.2.2.1;have:=H8.out.2.2.2.2.2.2.1;omega);refine ae (S:=fun x=>x=bb) ?_ ((Sm.refl _ w10).set1 0 _) (fun b hb e=> ?_)
          ·have h:=hO11;unfold gw;rw [HBd.out,HN8.out.1];exact h
          ·subst e;exact hn10 hb
         ·have t1:=H8.out.2.2.2.2.2.2.2.trans hs10 (fun b hb e=>by have:=(World.ownsRow.lt H9.out.1 b e).1;have:=H8.out.2.2.2.2.2.1;have:=H8.out.2.2.2.2.2.2.1;omega);exact t1.setN (by have:=H8.out.2.2.2.2.2.1;have:=H8.out.2.2.2.2.2.2.1;omega) 0 _)
        clear hO11 hO12 hn10 hbk10 hs10 hl10;go_wp2_with fail;go_ret2;exact HP.out
theorem nX(w:World):
 Calls Tryz.prog 104 #[] w fun e w'=>∃ v,e=.returned v∧je w' w.heap.size 5 v ic∧Sm No w w':=by
 obtain⟨pB,hpB⟩:=ai ((⟨(aE 100).toArray⟩:ByteArray));have HP:=aa (jP w 100);unfold aP at HP;rw [hpB] at HP;have hz:pB.size=8:=by rw [←hpB];rfl
 have HT:=aa (show (((⟨#[72,84,84,80,47,49,46,49,32,49,48,48,32]⟩++pB)++⟨#[13,10]⟩)++⟨#[13,10]⟩:ByteArray).data.toList=ic from by
  rw [←hpB];rfl)
 have HZ:=aa (show (((⟨#[72,84,84,80,47,49,46,49,32,49,48,48,32]⟩++pB)++⟨#[13,10]⟩)++⟨#[13,10]⟩:ByteArray).size≤maxLen from by
  rw [←hpB];decide)
 have HS:=aa (show (((⟨#[72,84,84,80,47,49,46,49,32,49,48,48,32]⟩++pB)++⟨#[13,10]⟩)++⟨#[13,10]⟩:ByteArray).size=25 from by
  rw [←hpB];rfl)
 clear hpB;go_in;go_wp2_with fail;refine HP.out.mono ?_;rintro e w1 ⟨rfl,hw1⟩;subst hw1;go_wp2_with (refine db rfl 9 34 5 _ rfl (((⟨#[72,84,84,80,47,49,46,49,32,49,48,48,32]⟩++pB)++⟨#[13,10]⟩)++⟨#[13,10]⟩:ByteArray) rfl Tryz.underlying9 Tryz.underlying34 Tryz.underlying5 _ (Nat.le_refl _) HZ.out ?_;intro cB w6 hOB hsB hzB;refine RowKit.Hid.out ?_);refine aa ?_;rw [HT.out] at hOB;have H:=aa (ab hOB hsB);clear hOB hsB hzB;go_wp2_with fail;go_ret;have h:=H.out.1;rw [HS.out] at h;exact⟨_,rfl,h,H.out.2⟩
theorem Dj{w:World}(hg:G1 w){B:Nat}{v:Value}{r:fQ}(h:im w B v r)(hn:hY r)(hp:r.parts=[])(head close:Bool)(minor:Int)(hmi: -1000000≤minor∧minor≤1000000):
 Calls Tryz.prog 70 #[v,.bool head,.int .i64 minor,.bool close] w (iJ w r head minor close):=by
 obtain⟨vF,vB,vP,rfl,h1,h2,h3⟩:=h;obtain⟨A1,c1,rfl,h1,_⟩:=h1.row;obtain⟨A2,c2,rfl,h2,h4,h5⟩:=h2.row;obtain⟨A3,c3,rfl,h3,_⟩:=h3.row;have hz:r.parts.length=0:=by rw [hp];rfl
 rw [hz];exact yg w hg r A1 A2 A3 c1 c2 c3 hn hp h1.frow h2 (fun e=>⟨by have:=h5 e;omega,h5 e⟩) head close minor hmi
end Go.Proofs.YtadcjgopaadfjaaGreatDoor
