import Derived.Test.YtcflkcbogofgbaaGreatDoorQRP
import Derived.Test.YtcflkcbogofgbaaGreatDoorQOR
set_option maxHeartbeats 16000000
set_option maxRecDepth 100000
namespace Go.Proofs.YtcflkcbogofgbaaGreatDoor
open Go.RowKit Go.Proofs
def mS(w:World)(bb r0:Nat)(cs:Array Value)(L:af)(wr:World):Prop:=uZ wr (bb+1) bb L∧Bk wr r0 94 cs∧bb+1≤wr.heap.size∧r0 < bb∧w.heap.size≤r0∧Sm No w wr
theorem mS.no{w wr w':World}{bb r0:Nat}{cs:Array Value}{L:af}(h:mS w bb r0 cs L wr)(hs:Sm No wr w'):mS w bb r0 cs L w':=
 ⟨h.1.no hs,h.2.1.sm hs (fun e=>e),Nat.le_trans h.2.2.1 hs.size,h.2.2.2.1,h.2.2.2.2.1,h.2.2.2.2.2.tt hs⟩
theorem mS.line{w wr w':World}{bb r0:Nat}{cs:Array Value}{L L2:af}{e:Ending}(h:mS w bb r0 cs L wr)(hp:qK wr (bb+1) bb L2 e w'):e=.returned (.tuple #[])∧mS w bb r0 cs L2 w':=by
 obtain⟨h1,h2,h3⟩:=hp;obtain⟨k1,k2,k3,k4,k5,k6⟩:=h;exact⟨h1,h2,k2.sm h3 (fun e=>by rcases e with e|e<;>omega),Nat.le_trans k3 h3.size,k4,k5,k6.trans h3 (fun b hb e=>by rcases e with e|e<;>omega)⟩
theorem mS.l2{w wr:World}{bb r0:Nat}{cs:Array Value}{L:af}(h:mS w bb r0 cs L wr)(a b:ByteArray)(hl:L.length+(gk [a,b]).length≤900000):
 Calls Tryz.prog 62 #[.slice (some ⟨wr.heap.size,0,none⟩) 2 2,.pointer (some ⟨bb,0,none⟩)] (wr.alloc (.cells #[.string a,.string b] 9)) fun e w'=>e=.returned (.tuple #[])∧mS w bb r0 cs (L++(gk [a,b]++[13,10])) w':=by
 have h2:=h.no ((Sm.refl No wr).alloc (.cells #[.string a,.string b] 9));exact(nd _ (bb+1) bb L wr.heap.size [a,b] h2.1 h2.2.2.1 (Bk.new _ _ _) (by simp) hl).mono (fun _ _ hp=>h2.line hp)
theorem mS.l3{w wr:World}{bb r0:Nat}{cs:Array Value}{L:af}(h:mS w bb r0 cs L wr)(a b c:ByteArray)(hl:L.length+(gk [a,b,c]).length≤900000):
 Calls Tryz.prog 62 #[.slice (some ⟨wr.heap.size,0,none⟩) 3 3,.pointer (some ⟨bb,0,none⟩)] (wr.alloc (.cells #[.string a,.string b,.string c] 9)) fun e w'=>e=.returned (.tuple #[])∧mS w bb r0 cs (L++(gk [a,b,c]++[13,10])) w':=by
 have h2:=h.no ((Sm.refl No wr).alloc (.cells #[.string a,.string b,.string c] 9));exact(nd _ (bb+1) bb L wr.heap.size [a,b,c] h2.1 h2.2.2.1 (Bk.new _ _ _) (by simp) hl).mono (fun _ _ hp=>h2.line hp)
theorem mS.l4{w wr:World}{bb r0:Nat}{cs:Array Value}{L:af}(h:mS w bb r0 cs L wr)(a b c d:ByteArray)(hl:L.length+(gk [a,b,c,d]).length≤900000):
 Calls Tryz.prog 62 #[.slice (some ⟨wr.heap.size,0,none⟩) 4 4,.pointer (some ⟨bb,0,none⟩)] (wr.alloc (.cells #[.string a,.string b,.string c,.string d] 9)) fun e w'=>e=.returned (.tuple #[])∧mS w bb r0 cs (L++(gk [a,b,c,d]++[13,10])) w':=by
 have h2:=h.no ((Sm.refl No wr).alloc (.cells #[.string a,.string b,.string c,.string d] 9));exact(nd _ (bb+1) bb L wr.heap.size [a,b,c,d] h2.1 h2.2.2.1 (Bk.new _ _ _) (by simp) hl).mono (fun _ _ hp=>h2.line hp)
theorem mS.l0{w wr:World}{bb r0:Nat}{cs:Array Value}{L:af}(h:mS w bb r0 cs L wr)(hl:L.length≤900000):
 Calls Tryz.prog 62 #[.slice none 0 0,.pointer (some ⟨bb,0,none⟩)] wr fun e w'=>e=.returned (.tuple #[])∧mS w bb r0 cs (L++[13,10]) w':=
 (Ek _ (bb+1) bb L h.1 h.2.2.1 hl).mono (fun _ _ hp=>h.line hp)
theorem gT{w:World}{B C:Nat}{v:Value}{l:af}(h:ay w B v l)(hC:C≤B):ay w C v l:=by
 obtain⟨h1,h2⟩:=h;refine⟨h1,?_⟩;rcases h2 with h2|⟨g,cap,cur,hv,hg,hh⟩
 ·exact Or.inl h2
 ·exact Or.inr ⟨g,cap,cur,hv,Nat.le_trans hC hg,hh⟩
def lA(w:World)(r:gA)(head:Bool)(minor:Int)(close:Bool)(e:Ending)(w':World):Prop:=
 ∃ v,e=.returned (.tuple #[v,.int .i64 0])∧ay w' w.heap.size v (gQ r head minor close)∧Sm No w w'
theorem yI (w:World) (hg:G1 w) (r:gA) (A1 A2 A3:Option Addr) (c1 c2 c3:Nat) (hn:iP r) (hp:r.parts=[]) (h1:dM w A1 r.fs) (h2:ar w A2 (bC r.body)) (h2n:A2=none→r.body.length=0∧c2=0)
 (head close:Bool) (minor:Int) (hmi: -1000000≤minor∧minor≤1000000):
 Calls Tryz.prog 38 #[.agg #[.int .i64 r.st,.slice A1 r.fs.length c1,.slice A2 r.body.length c2,.slice A3 0 c3],.bool head,.int .i64 minor,.bool close] w (lA w r head minor close):=by
 have HOne:=ns (fun W (h:Sm No w W)=>zY W r A1 A2 A3 c1 c2 c3 hn hp (h1.no h));have HI:=ns (BT h1 (BT h2 (BT h2n (BT hn hp))));have HEnc:=ns (show (gQ r head minor close).length≤65536 from by
  have h:=hn.enc head close minor;rcases Nat.lt_or_ge 65536 (gQ r head minor close).length with h2|h2
  ·rw [Dw hn.may h2] at h;cases h
  ·exact h2)
 have hfl:=hn.len;have HG:=ns hg;obtain⟨hst1,hst2⟩:=hn.st;obtain⟨hmi1,hmi2⟩:=hmi;clear h1 h2 h2n hn hp hg;obtain⟨R,hR⟩:=Iu r;obtain⟨st,fs,body,parts⟩:=r;have HR:=ns hR;rw [hR] at HOne HI HEnc ⊢;clear hR;have e0:=HR.out;have HR2:=ns (show R.st=st∧R.fs=fs∧R.body=body from by rw [←e0];exact⟨rfl,rfl,rfl⟩);rw [HR2.out.1,HR2.out.2.1,HR2.out.2.2] at HOne ⊢;clear e0;dsimp only at hst1 hst2 hfl;obtain⟨m,hm⟩:=Iu body.length;rw [hm] at HOne ⊢;have HBL:=ns hm;clear hm;obtain⟨r0,hr0⟩:=Iu w.heap.size;have HR0:=ns hr0;clear hr0;obtain⟨cs,hcs⟩:∃ cs:Array Value,#[.int .i64 st,.slice A1 fs.length c1,.slice A2 m c2,.slice A3 0 c3]=cs:=⟨_,rfl⟩;have HCs:=ns hcs;clear hcs;go_in;go_wp2_with fail;rw [HR0.out];refine(HOne.out _ ((Sm.refl No w).alloc _)).mono ?_;rintro e w2 ⟨rfl,hs2⟩;have hb2:=(Bk.newAt w 94 cs (g:=r0) HR0.out.symm).sm (w':=w2) (S:=No) (by rw [←HCs.out];exact hs2) (fun e=>e);have hw2:=((Sm.refl No w).alloc _).tt hs2;have H2:=ns (BT hb2 hw2);clear hs2 hb2 hw2;go_upto_region 5 with fail;obtain⟨bb,hbb⟩:=Iu w2.heap.size;rw [hbb];obtain⟨w3,hw3⟩:∃ w3,w2.alloc (.cells #[.slice none 0 0] 22)=w3:=⟨_,rfl⟩;rw [hw3];have hS3:mS w bb r0 cs [] w3:=by
  rw [←hw3,←hbb];have hs:=H2.out.2.alloc (.cells #[.slice none 0 0] 22);have h5:=H2.out.1.lt;exact⟨⟨.slice none 0 0,Bk.new _ _ _,ay.nil _ _,by simp [Value.ownBlock]⟩,H2.out.1.alloc _,by simp,h5,by rw [HR0.out];exact Nat.le_refl _,hs⟩
 have HS3:=ns hS3;clear hS3 hw3 hbb H2;obtain⟨dB,hdB⟩:=Iu ((⟨(Lib.itoa st).toArray⟩:ByteArray));obtain⟨pB,hpB⟩:=Iu ((⟨(aQ st).toArray⟩:ByteArray));have HDec:=ns (fun (W:World) (h:Sm No w W)=>sa W (HG.out.no h) st (by omega) (by omega));have HPhr:=ns (fun (W:World)=>pr W st);unfold aX at HDec HPhr;rw [hdB] at HDec;rw [hpB] at HPhr;have HT:=ns (show gk [⟨#[72,84,84,80,47,49,46,49,32]⟩,dB,⟨#[32]⟩,pB]++[13,10]=pL st from by
  rw [←hdB,←hpB];unfold pL gk;simp [ab,zN,dn])
 clear hdB hpB;have HZ:=ns (show ([]:af).length+(gk [⟨#[72,84,84,80,47,49,46,49,32]⟩,dB,⟨#[32]⟩,pB]).length≤900000 from by
  have h1:=yO hst1 (by omega:st≤9223372036854775807);have h2:=congrArg List.length HT.out;rw [List.length_append] at h2;show 0+_≤_;omega)
 have hb3:Bk w3 r0 94 #[.int .i64 st,.slice A1 fs.length c1,.slice A2 m c2,.slice A3 0 c3]:=by rw [HCs.out];exact HS3.out.2.1
 have d0:=hb3.at 0 (v:=.int .i64 st) rfl;have dl:=hb3.lt;have HCell:=ns (show ∀ W,Sm No w3 W→W.cell? ⟨r0,0,none⟩=some (.int .i64 st) from fun W h=>h.cell dl d0);clear hb3
 go_cut [26] from 19 to 27 (fun _ wx=>mS w bb r0 cs (pL st) wx)
 case first=>
  go_region_law
   (first
    |(go_simp;refine(HDec.out _ (HS3.out.2.2.2.2.2.drew)).mono ?_;rintro e w5 ⟨rfl,hs5'⟩;have hs5:=((Sm.refl No w3).drew).tt hs5';have d5:=HCell.out _ hs5;have hS5:=HS3.out.no hs5)
    |(go_simp;refine(HPhr.out _).mono ?_;rintro e wP ⟨rfl,hP⟩;subst hP)
    |(go_simp;refine(hS5.l4 _ _ _ _ HZ.out).mono ?_;rintro e w7 ⟨rfl,hS7⟩)
    |fail)
  all_goals
   go_wp2_with fail;go_meet;rw [List.nil_append,HT.out] at hS7;exact hS7
 case rest=>
  have HB3:=HBL;have HSc:=ns hcut;clear hcut d0 dl;have hb4:Bk wc r0 94 #[.int .i64 st,.slice A1 fs.length c1,.slice A2 m c2,.slice A3 0 c3]:=by rw [HCs.out];exact HSc.out.2.1
  have q1:=hb4.at 1 (v:=.slice A1 fs.length c1) rfl;clear hb4;go_wp2_with fail;clear q1
  go_loopw [31] (fun iv wr=>∃ k:Nat,k≤fs.length∧iv=.int .i64 k∧mS w bb r0 cs (pL st++cE (fs.take k)) wr) (fun iv _=>fs.length-(intOf iv).toNat)
  case atStart=>exact⟨0,Nat.zero_le _,rfl,by simpa [cE] using HSc.out⟩
  case round=>
   obtain⟨k,hk,rfl,hSk⟩:=hrel;have HSk:=ns hSk;clear hSk;by_cases hlt:k < fs.length
   ·obtain⟨xb,off,hAe,hxb,e0,e1⟩:=((HR2.out.2.1 ▸ HI.out.1).no HSk.out.2.2.2.2.2) k hlt;subst hAe;have HST:=ns (wO hlt);have HNf:=ns (HI.out.2.2.2.1.fld fs[k] (by rw [HR2.out.2.1];exact List.getElem_mem hlt));obtain⟨nm,hnm⟩:∃ x,fs[k].1=x:=⟨_,rfl⟩;obtain⟨vl,hvl⟩:∃ x,fs[k].2=x:=⟨_,rfl⟩;rw [hnm] at e0;rw [hvl] at e1;have HT9:=ns (show pL st++cE (fs.take k)++(gk [nm,⟨#[58,32]⟩,vl]++[13,10])=pL st++cE (fs.take (k+1)) from by
     rw [HST.out];unfold CR gk;rw [hnm,hvl];simp [ab,dn])
    have k1:(0:Int)≤(k:Int):=by omega
    have k2:(k:Int) < (fs.length:Int):=by omega
    clear hnm hvl;have HZ9:=ns (show (pL st++cE (fs.take k)).length+(gk [nm,⟨#[58,32]⟩,vl]).length≤900000 from by
     have h1:=qv ⟨st,fs,body,parts⟩ head close minor (k+1);have h2:=HEnc.out;have h3:=congrArg List.length HT9.out;rw [←HR.out] at h2;simp only [List.length_append] at h1 h3 ⊢;omega)
    go_upto_region 9 with fail;obtain⟨f9,hf9⟩:=Iu wr.heap.size;rw [hf9];obtain⟨w8,hw8⟩:∃ w8,wr.alloc (.cells #[.string nm,.string vl] 129)=w8:=⟨_,rfl⟩;rw [hw8];have hb8:Bk w8 f9 129 #[.string nm,.string vl]:=by rw [←hw8,←hf9];exact Bk.new _ _ _
    have HS8:=ns (show mS w bb r0 cs _ w8 from by rw [←hw8];exact HSk.out.no ((Sm.refl _ _).alloc _));have q0:=hb8.at 0 (v:=.string nm) rfl;have q1:=hb8.at 1 (v:=.string vl) rfl;clear hb8 hw8 hf9 e0 e1;go_wp2_with fail;refine(HS8.out.l3 _ _ _ HZ9.out).mono ?_;rintro e w9 ⟨rfl,hS9⟩;rw [HT9.out] at hS9;have HS9:=ns hS9;clear hS9;go_wp2_with fail;exact⟨⟨k+1,by omega,by go_num,HS9.out⟩,by simp [intOf];omega⟩
   ·obtain rfl:k=fs.length:=by omega
    have hS5:=HSk.out;rw [List.take_length] at hS5;have HS5:=ns hS5;clear hS5 HSk;have hb5:Bk wr r0 94 #[.int .i64 st,.slice A1 fs.length c1,.slice A2 m c2,.slice A3 0 c3]:=by rw [HCs.out];exact HS5.out.2.1
    have q3:=hb5.at 3 (v:=.slice A3 0 c3) rfl;have q0:=hb5.at 0 (v:=.int .i64 st) rfl;have q2:=hb5.at 2 (v:=.slice A2 m c2) rfl;clear hb5;go_upto_block 2 with fail;have HCd:=ns (show E6 R minor=false from by unfold E6;rw [HI.out.2.2.2.2];rfl);have hL5:(pL st++cE fs).length≤65536:=by
     have h1:=qv ⟨st,fs,body,parts⟩ head close minor fs.length;have h2:=HEnc.out;rw [←HR.out] at h2;dsimp only at h1;rw [List.take_length] at h1;omega
    have hL6:(pL st++cE fs++lN R minor).length≤65600:=by
     have h1:=ub R minor (by rw [HR2.out.2.2,HBL.out];have:=HI.out.2.2.2.1.body;rw [HR2.out.2.2,HBL.out] at this;omega);rw [List.length_append];omega
    have hm2:m≤2048:=by have:=HI.out.2.2.2.1.body;rw [HR2.out.2.2,HBL.out] at this;exact this
    go_cut [58] (fun _ wx=>mS w bb r0 cs (pL st++cE fs++lN R minor) wx)
    case first=>
     obtain⟨nb,hnb⟩:=Iu (ck st);have HNB:=ns hnb;have HN:=ns (ic wr st);rw [hnb] at HN;clear hnb;go_wp2_with fail;refine HN.out.mono ?_;rintro e w5 ⟨rfl,hw5⟩;subst hw5
     cases nb with
     |true=>
      have HE:=ns (show lN R minor=[] from by unfold lN;rw [HR2.out.1,if_pos HNB.out]);go_wp2_with fail;go_meet;rw [HE.out,List.append_nil];exact HS5.out
     |false=>
      obtain⟨lB,hlB⟩:=Iu ((⟨(Lib.itoa (m:Int)).toArray⟩:ByteArray));have hlz:=fS (c:=(m:Int)) (by omega) (by omega);have HDm:=ns (fun (W:World) (h:Sm No w W)=>sa W (HG.out.no h) (m:Int) (by omega) (by omega));unfold aX at HDm;rw [hlB] at HDm;have HE:=ns (show gk [⟨#[67,111,110,116,101,110,116,45,76,101,110,103,116,104]⟩,⟨#[58,32]⟩,lB]++[13,10]=lN R minor from by
       unfold lN;rw [HR2.out.1,if_neg (by rw [HNB.out];decide),if_neg (by rw [HCd.out];decide),HR2.out.2.2,HBL.out,←hlB];simp [gk,ab,GX,dn])
      have HZ6:=ns (show (pL st++cE fs).length+(gk [⟨#[67,111,110,116,101,110,116,45,76,101,110,103,116,104]⟩,⟨#[58,32]⟩,lB]).length≤900000 from by
       have h1:=congrArg List.length HE.out;have h2:=hL6;simp only [List.length_append] at h1 h2 hL5 ⊢;omega)
      clear hlB hlz;go_wp2_with fail;refine(HDm.out _ HS5.out.2.2.2.2.2).mono ?_;rintro e w6 ⟨rfl,hs6⟩;have HS6:=ns (HS5.out.no hs6);clear hs6;go_wp2_with fail;refine(HS6.out.l3 _ _ _ HZ6.out).mono ?_;rintro e w7 ⟨rfl,hS7⟩;rw [HE.out] at hS7;have HS7:=ns hS7;clear hS7;go_wp2_with fail;go_meet;exact HS7.out
    case rest=>
     have HS6:=ns hcut;clear hcut q3 q0 q2;obtain⟨w6,rfl⟩:∃ w6:World,w6=wc:=⟨_,rfl⟩;go_upto_block 3 with fail
     go_cut [67] (fun _ wx=>mS w bb r0 cs (pL st++cE fs++lN R minor++oc minor close) wx)
     case first=>
      cases close with
      |true=>
       go_wp2_with fail;refine(HS6.out.l2 _ _ (by have h:(gk [⟨#[67,111,110,110,101,99,116,105,111,110]⟩,⟨#[58,32,99,108,111,115,101]⟩]).length=17:=rfl;rw [h];omega)).mono ?_;rintro e w7 ⟨rfl,hS7⟩;have HS7:=ns hS7;clear hS7;go_wp2_with fail;go_meet;exact HS7.out
      |false=>
       by_cases hmi:minor < 1
       ·have hmd:decide (minor < 1)=true:=decide_eq_true hmi;have HE:=ns (show oc minor false=Hx++dn from by unfold oc;rw [if_neg (by decide),if_pos hmi]);go_wp2_with fail;refine(HS6.out.l2 _ _ (by have h:(gk [⟨#[67,111,110,110,101,99,116,105,111,110]⟩,⟨#[58,32,107,101,101,112,45,97,108,105,118,101]⟩]).length=22:=rfl;rw [h];omega)).mono ?_;rintro e w7 ⟨rfl,hS7⟩;have HS7:=ns hS7;clear hS7;go_wp2_with fail;go_meet;rw [HE.out];exact HS7.out
       ·have hmd:decide (minor < 1)=false:=decide_eq_false hmi;have HE:=ns (show oc minor false=[] from by unfold oc;rw [if_neg (by decide),if_neg hmi]);go_wp2_with fail;go_meet;rw [HE.out,List.append_nil];exact HS6.out
     case rest=>
      have HS7:=ns hcut;clear hcut;obtain⟨w7,rfl⟩:∃ w7:World,w7=wc:=⟨_,rfl⟩;have hL7:(pL st++cE fs++lN R minor++oc minor close).length≤66000:=by
       have h1:=ux minor close;rw [List.length_append];omega
      have HHd:=ns (show pL st++cE fs++lN R minor++oc minor close++[13,10]=ml R minor close from by
       unfold ml;rw [HR2.out.1,HR2.out.2.1];simp [dn])
      go_wp2_with fail;refine(HS7.out.l0 (by omega)).mono ?_;rintro e w8 ⟨rfl,hS8⟩;rw [HHd.out] at hS8;obtain⟨L8,hL8⟩:=Iu (ml R minor close);rw [hL8] at hS8;obtain⟨⟨v,hbk,hO,hne⟩,hRk,hz8,h9,h10,hsm8⟩:=hS8;obtain⟨Av,cv,rfl, -⟩:=hO.slice;obtain⟨n8,hn8⟩:=Iu L8.length;have hE8:n8+(jn R head minor).length≤65536:=by
       have:=HEnc.out;rw [qJ,hL8,hn8] at this;exact this
      rw [hn8] at hbk hO hne;have H8:=ns (BT hbk (BT hO (BT hne (BT hRk (BT hz8 (BT h9 (BT h10 hsm8)))))));have HN8:=ns (BT hL8 hn8);have d8:=hbk.at 0 (v:=.slice Av n8 cv) rfl;have z8:=hbk.fz 0;have hRk2:Bk w8 r0 94 #[.int .i64 st,.slice A1 fs.length c1,.slice A2 m c2,.slice A3 0 c3]:=by rw [HCs.out];exact hRk
      have q0:=hRk2.at 0 (v:=.int .i64 st) rfl;have q2:=hRk2.at 2 (v:=.slice A2 m c2) rfl;clear hL8 hn8 hbk hO hne hRk hz8 h9 h10 hsm8 hRk2;have HPure:=ns (show jn R head minor=[]→lA w R head minor close (.returned (.tuple #[.slice Av n8 cv,.int .i64 0])) w8 from fun hb=>by
       refine⟨_,rfl,?_,H8.out.2.2.2.2.2.2.2⟩;have h:=H8.out.2.1;unfold gQ;rw [hb,List.append_nil,HN8.out.1];exact gT h (by have:=H8.out.2.2.2.2.2.1;have:=H8.out.2.2.2.2.2.2.1;omega))
      have i8:¬(65536:Int) < (n8:Int):=by omega
      cases head with
      |true=>
       have HP:=ns (HPure.out (by unfold jn;rw [if_pos rfl]));go_wp2_with fail;go_ret2;exact HP.out
      |false=>
       obtain⟨nb,hnb⟩:=Iu (ck st);have HNB:=ns hnb;have HN:=ns (ic w8 st);rw [hnb] at HN;clear hnb;go_wp2_with fail;refine HN.out.mono ?_;rintro e w9 ⟨rfl,hw9⟩;subst hw9
       cases nb with
       |true=>
        have HP:=ns (HPure.out (by
         have h:=HI.out.2.2.2.1.nob;rw [HR2.out.1,HNB.out] at h;unfold jn;rw [if_neg (by decide),if_neg (by rw [HCd.out];decide)];simpa using h))
        go_wp2_with fail;go_ret2;exact HP.out
       |false=>
        have HA2:=ns (show A2=none→m=0∧c2=0 from fun e=>by have h:=HI.out.2.2.1 e;rw [HR2.out.2.2,HBL.out] at h;exact h);have HRow:=ns (show ar w9 A2 (bC body) from by have h:=HI.out.2.1;rw [HR2.out.2.2] at h;exact h.no H8.out.2.2.2.2.2.2.2);have HBd:=ns (show jn R false minor=body from by
         unfold jn;rw [if_neg (by decide),if_neg (by rw [HCd.out];decide)];exact HR2.out.2.2)
        have hO8:=H8.out.2.1;have hln:(bC body).length=m * 1:=by unfold bC;rw [List.length_map,HBL.out,Nat.mul_one]
        have hE9:n8+m≤65536:=by have h:=hE8;rw [HBd.out,HBL.out] at h;exact h
        have H9:=ns (BT (show w9.ownsRow (bb+1) 5 1 (.slice Av n8 cv) n8 (L8.map aM) from by have h:=hO8;unfold ay at h;rw [HN8.out.2] at h;exact h) hln);clear hO8 hln;go_wp2_with (refine cA rfl _ _ 22 5 rfl Tryz.underlying22 _ 1 1 eE rfl (by decide) (by decide) (bb+1) n8 (.slice Av n8 cv) (L8.map aM) rfl H9.out.1 A2 m c2 (bC body) rfl HA2.out H9.out.2 HRow.out (zD body) (by omega) H8.out.2.2.2.2.1 ?_;intro v10 w10 hO10 hs10 _;refine RowKit.Hid.out ?_);refine ns ?_;have hbk10:=H8.out.1.sm hs10 H8.out.2.2.1;have hO11:ay w10 (bb+1) v10 (L8++body):=ay.push2 (by rw [HN8.out.2,HBL.out];exact hO10);have hn10:=ah hO11 hbk10 (by decide);obtain⟨A10,c10,rfl, -⟩:=hO11.slice;have hl10:(L8++body).length=n8+m:=by rw [List.length_append,HN8.out.2,HBL.out]
        have hO12:=hO11;rw [hl10] at hO11 hn10;rw [hl10];have d10:=hbk10.at 0 (v:=.slice Av n8 cv) rfl;have z10:=hbk10.fz 0;have i10:¬(65536:Int) < ((n8+m:Nat):Int):=by omega
        have HP:=ns (show lA w R false minor close (.returned (.tuple #[.slice A10 (n8+m) c10,.int .i64 0])) (w10.setCell ⟨bb,0,none⟩ (.slice A10 (n8+m) c10)) from by
         refine⟨_,rfl,?_,?_⟩
         ·refine gT (B:=bb+1) ?_ (by have:=H8.out.2.2.2.2.2.1;have:=H8.out.2.2.2.2.2.2.1;omega);refine aa (S:=fun x=>x=bb) ?_ ((Sm.refl _ w10).set1 0 _) (fun b hb e=> ?_)
          ·have h:=hO11;unfold gQ;rw [HBd.out,HN8.out.1];exact h
          ·subst e;exact hn10 hb
         ·have t1:=H8.out.2.2.2.2.2.2.2.trans hs10 (fun b hb e=>by have:=(World.ownsRow.lt H9.out.1 b e).1;have:=H8.out.2.2.2.2.2.1;have:=H8.out.2.2.2.2.2.2.1;omega);exact t1.setN (by have:=H8.out.2.2.2.2.2.1;have:=H8.out.2.2.2.2.2.2.1;omega) 0 _)
        clear hO11 hO12 hn10 hbk10 hs10 hl10;go_wp2_with fail;go_ret2;exact HP.out
theorem Ji(w:World):
 Calls Tryz.prog 32 #[] w fun e w'=>∃ v,e=.returned v∧lO w' w.heap.size 5 v I6∧Sm No w w':=by
 obtain⟨pB,hpB⟩:=Iu ((⟨(aQ 100).toArray⟩:ByteArray));have HP:=ns (pr w 100);unfold aX at HP;rw [hpB] at HP;have hz:pB.size=8:=by rw [←hpB];rfl
 have HT:=ns (show (((⟨#[72,84,84,80,47,49,46,49,32,49,48,48,32]⟩++pB)++⟨#[13,10]⟩)++⟨#[13,10]⟩:ByteArray).data.toList=I6 from by
  rw [←hpB];rfl)
 have HZ:=ns (show (((⟨#[72,84,84,80,47,49,46,49,32,49,48,48,32]⟩++pB)++⟨#[13,10]⟩)++⟨#[13,10]⟩:ByteArray).size≤maxLen from by
  rw [←hpB];decide)
 have HS:=ns (show (((⟨#[72,84,84,80,47,49,46,49,32,49,48,48,32]⟩++pB)++⟨#[13,10]⟩)++⟨#[13,10]⟩:ByteArray).size=25 from by
  rw [←hpB];rfl)
 clear hpB;go_in;go_wp2_with fail;refine HP.out.mono ?_;rintro e w1 ⟨rfl,hw1⟩;subst hw1;go_wp2_with (refine eW rfl 9 22 5 _ rfl (((⟨#[72,84,84,80,47,49,46,49,32,49,48,48,32]⟩++pB)++⟨#[13,10]⟩)++⟨#[13,10]⟩:ByteArray) rfl Tryz.underlying9 Tryz.underlying22 Tryz.underlying5 _ (Nat.le_refl _) HZ.out ?_;intro cB w6 hOB hsB hzB;refine RowKit.Hid.out ?_);refine ns ?_;rw [HT.out] at hOB;have H:=ns (BT hOB hsB);clear hOB hsB hzB;go_wp2_with fail;go_ret;have h:=H.out.1;rw [HS.out] at h;exact⟨_,rfl,h,H.out.2⟩
theorem xV{w:World}(hg:G1 w){B:Nat}{v:Value}{r:gA}(h:jq w B v r)(hn:iP r)(hp:r.parts=[])(head close:Bool)(minor:Int)(hmi: -1000000≤minor∧minor≤1000000):
 Calls Tryz.prog 38 #[v,.bool head,.int .i64 minor,.bool close] w (lA w r head minor close):=by
 obtain⟨vF,vB,vP,rfl,h1,h2,h3⟩:=h;obtain⟨A1,c1,rfl,h1,_⟩:=h1.row;obtain⟨A2,c2,rfl,h2,h4,h5⟩:=h2.row;obtain⟨A3,c3,rfl,h3,_⟩:=h3.row;have hz:r.parts.length=0:=by rw [hp];rfl
 rw [hz];exact yI w hg r A1 A2 A3 c1 c2 c3 hn hp h1.frow h2 (fun e=>⟨by have:=h5 e;omega,h5 e⟩) head close minor hmi
theorem qO(c:Int):(aC c []).parts=[]:=by unfold aC;split<;>rfl
theorem El(w:World)(hg:G1 w)(c:Int)(hc:200≤c∧c≤599):
 Calls Tryz.prog 34 #[.int .i64 c] w fun e w'=>∃ v,e=.returned v∧ay w' w.heap.size v (uN c)∧Sm No w w':=by
 have HC:=ns (show Calls Tryz.prog 50 #[.int .i64 c,.slice none 0 0] w (yc w (aC c [])) from
  eZ w hg c (by omega) (by omega) none 0 [] (fun k hk=>absurd hk (Nat.not_lt_zero _)) (fun _=>⟨rfl,rfl⟩) (by decide))
 have HE:=ns (fun (W:World) (v:Value) (h:Sm No w W) (h2:jq W w.heap.size v (aC c []))=>xV (hg.no h) h2 (ee hc (by decide) (fun x hx=>by cases hx)) (qO c) false true 1 (by decide));clear hg;go_in;go_wp2_with fail;refine HC.out.mono ?_;rintro e w1 ⟨v,rfl,hv,hs⟩;have HE1:=ns (HE.out w1 v hs hv);have HS:=ns hs;clear hv hs;go_wp2_with fail;refine HE1.out.mono ?_;rintro e w2 ⟨v2,rfl,hv2,hs2⟩;have HF:=ns (BT (gT hv2 HS.out.size) (HS.out.tt hs2));clear hv2 hs2;go_wp2_with fail;go_ret;exact⟨_,rfl,HF.out.1,HF.out.2⟩
end Go.Proofs.YtcflkcbogofgbaaGreatDoor
