import Derived.Test.YtadcjgopaadfjaaGreatDoorQCG
set_option maxHeartbeats 32000000
set_option maxRecDepth 100000
namespace Go.Proofs.YtadcjgopaadfjaaGreatDoor
open Go.RowKit Go.Proofs
theorem IJ(body:Bool)(n:Nat)(h:1≤n∧n≤19):∃ s n1,rM G6 (Cn.new 0) (Hh body) 0=some (s,n1)∧Hg (Hn body) n (Hn body-1) 1 s=true:=by
 have h1:=II;unfold It at h1;rw [List.all_eq_true] at h1;have h2:=h1 body (by cases body<;>simp);rw [List.all_eq_true] at h2;have h3:=h2 (n-1) (by rw [List.mem_range];omega);rw [show n-1+1=n by omega] at h3;exact Ea h3
theorem Ij{m n j i:Nat}{s:Cn}(h:Hg m n (j+1) i s=true):∃ s1 s2,IG n i s=some s1∧Hl G6 s1 i=true∧Iq G6 s1 i=some s2∧Hi s2=true∧s2.since+eu G6.C s2.phase=m∧s2.b=[]∧Hg m n j (i+1) s2=true:=by
 unfold Hg at h;obtain⟨s1,e1,h⟩:=Hu h;rw [Bool.and_eq_true] at h;obtain⟨s2,e2,h2⟩:=Hu h.2;simp only [Bool.and_eq_true,decide_eq_true_eq,List.isEmpty_iff] at h2;exact⟨s1,s2,e1,h.1,e2,h2.1,h2.2.1,h2.2.2.1,h2.2.2.2⟩
theorem Iw{m n i:Nat}{s:Cn}(h:Hg m n 0 i s=true):∃ s2,Hl G6 s m=true∧Iq G6 s m=some s2∧s2.phase=3∧s2.since=m∧s2.b.length≤1000000∧s2.b.take (pR s2.b 12)=Hw:=by
 unfold Hg at h;rw [Bool.and_eq_true] at h;obtain⟨s2,e2,h2⟩:=Hu h.2;simp only [Bool.and_eq_true,decide_eq_true_eq,beq_iff_eq] at h2;exact⟨s2,h.1,e2,h2.1,h2.2.1,h2.2.2.1,h2.2.2.2⟩
theorem Iy{K:Kn}{s s1:Cn}{t:ah}{now:Int}(h:IH K s t now=some s1):∃ n,rM K s t now=some (s1,n):=by
 unfold IH at h
 cases e:rM K s t now with
 |none=>rw [e] at h;cases h
 |some x=>rw [e] at h;obtain⟨a,n⟩:=x;injection h with h;subst h;exact⟨n,rfl⟩
theorem Ii(w:World)(hg:G1 w)(body:Bool)(n:Int)(_hz:(Lit.int .i64 n).wf=true):
 Calls Tryz.prog 3 #[.bool body,.int .i64 n] w fun e w'=>e=.returned (.bool true)∧Sm No w w':=by
 have HK:=aa (fun (W:World) (h:Sm No w W)=>ue W (hg.no h));by_cases h1:n < 1
 ·have d1:decide (n < 1)=true:=decide_eq_true h1;clear hg;go_in;go_wp2_with (first|(refine(HK.out _ (Sm.refl _ _)).mono ?_;rintro e w1 ⟨rfl,hs1⟩;have H1:=aa hs1;clear hs1));go_ret;exact⟨rfl,H1.out⟩
 ·have d1:decide (n < 1)=false:=decide_eq_false h1;by_cases h2:19 < n
  ·have d2:decide (19 < n)=true:=decide_eq_true h2;clear hg;go_in;go_wp2_with (first|(refine(HK.out _ (Sm.refl _ _)).mono ?_;rintro e w1 ⟨rfl,hs1⟩;have H1:=aa hs1;clear hs1));go_ret;exact⟨rfl,H1.out⟩
  ·have d2:decide (19 < n)=false:=decide_eq_false h2;obtain⟨n,rfl⟩:∃ k:Nat,n=(k:Int):=⟨n.toNat,by omega⟩;have HP:=aa (lF w);have HSt:=aa (fun (W:World) (h:Sm No w W)=>ud W (hg.no h) 2 256 (by decide) (by decide) (by decide));obtain⟨s1,n1,hrun,hG⟩:=IJ body n (by omega);have HR:=aa (ab hrun hG);clear hg hrun hG;have kc:=fun (w:World) (C:Array Value) (n c:Nat)=>Lib.run_convert_bytes_const (P:=Tryz.prog) w 34 5 C n c Tryz.underlying34 Tryz.underlying5;have kc2:=fun (w:World) (o:Obj)=>kc (w.alloc o);simp only [World.size_alloc] at kc2;go_in;go_wp2_with fail;refine HP.out.mono ?_;rintro e w1 ⟨rfl,hs1⟩;have H1:=aa hs1;clear hs1;go_wp2_with fail;refine(HSt.out w1 H1.out).mono ?_;rintro e w2 ⟨b,c,z,D,x,rfl,hI,hB,hN,hs2⟩;have hb:eG w1 w2 D b c z G6 (Cn.new 0):=⟨hI,⟨_,hB⟩,hN⟩;obtain⟨q0,q1,lb,lc⟩:=hb.cells;have H2:=aa (ab hb (H1.out.tt hs2));clear hI hB hN hs2 hb;go_upto_if 37 with fail
   go_cut [7,8] from 38 to 39 (fun bv mv wx=>∃ g,bv=.slice (some ⟨g,0,none⟩) (Hh body).length (Hh body).length∧mv=.int .i64 (Hn body:Int)∧ax wx (some ⟨g,0,none⟩) (aL (Hh body))∧w2.heap.size≤g∧Sm No w2 wx)
   case first=>
    cases body with
    |true=>
     go_wp2_with fail;go_meet;refine⟨w2.heap.size+1,rfl,rfl,?_,Nat.le_succ _,((Sm.refl No w2).alloc _).alloc _⟩;have h:=oJ (w2.alloc (.cells (aL (Hh false)).toArray 5 (28,29))) (aL (Hh true)).toArray 5 (52,53);rw [World.size_alloc] at h;exact h
    |false=>
     go_wp2_with fail;go_meet;exact⟨w2.heap.size,rfl,rfl,oJ w2 (aL (Hh false)).toArray 5 (28,29),Nat.le_refl _,(Sm.refl No w2).alloc _⟩
   case rest=>
    obtain⟨g,rfl,rfl,hRw,hge,hsc⟩:=hcut;have hb3:=H2.out.1.no hsc;obtain⟨q2,q3,lb3,lc3⟩:=hb3.cells;have hgn:¬ck D g:=fun ⟨k,e⟩=>by have:=H2.out.1.I.reg.lt k _ e;omega
    have HPu:=aa (hb3.push (E1 2 256) HR.out.1 hRw hgn (by cases body<;>decide) (Nat.le_refl _) (by cases body<;>decide));obtain⟨lb1,hlb1⟩:∃ x,(Hh body).length=x:=⟨_,rfl⟩;rw [hlb1] at HPu ⊢;obtain⟨m,hm⟩:∃ x,Hn body=x:=⟨_,rfl⟩;have HG:=aa (show Hg m n (m-1) 1 s1=true∧m≤30∧1≤m from by rw [←hm];exact⟨HR.out.2,by cases body<;>decide,by cases body<;>decide⟩);rw [hm];clear hb3 hgn hRw hge hsc q0 q1 lb lc hlb1 hm;go_wp2_with fail;refine HPu.out.mono ?_;rintro e w3 ⟨rfl,D3,hb3, -⟩;have H3:=aa hb3;clear hb3 q2 q3 lb3 lc3;go_wp2_with fail
    go_loopw [9,10,11] (fun iv _ _ wr=>∃ (j i:Nat) (s:Cn) (D:Nat→Nat→Prop),iv=.int .i64 (i:Int)∧i+j=m∧eG w1 wr D b c z G6 s∧Hg m n j i s=true) (fun iv _ _ _=>m-(intOf iv).toNat)
    case atStart=>exact⟨m-1,1,s1,D3,rfl,by have:=HG.out.2.2;omega,H3.out,HG.out.1⟩
    case round=>
     obtain⟨j,i,s,D4,rfl,hij,hP,hGi⟩:=hrel;obtain⟨q0,q1,lb,lc⟩:=hP.cells;have H4:=aa hP;clear hP;have m30:=HG.out.2.1
     cases j with
     |zero=>
      obtain rfl:i=m:=by omega
      obtain⟨s2,ok,hd,f1,f2,f3,f4⟩:=Iw hGi;have HD:=aa (H4.out.due (E1 2 256) IE ok hd);have HF:=aa (ab f1 (ab f2 (ab f3 f4)));clear hGi ok hd f1 f2 f3 f4 hij;go_wp2_with fail;refine HD.out.mono ?_;rintro e w5 ⟨rfl,D5,hb5, -⟩;obtain⟨q2,q3,lb5,lc5⟩:=hb5.cells;have H5:=aa hb5;clear hb5 q0 q1 lb lc;go_wp2_with fail;refine(H5.out.phase HF.out.1 HF.out.2.1).mono ?_;rintro e w6 ⟨rfl,hs6⟩;have hb6:=H5.out.no hs6;obtain⟨q0,q1,lb,lc⟩:=hb6.cells;have H6:=aa hb6;clear hb6 hs6 q2 q3 lb5 lc5;go_wp2_with fail;refine(H6.out.next HF.out.2.2.1 HF.out.2.2.2).mono ?_;rintro e w7 ⟨A,cp,rfl,hR, -,hs7⟩;have H7:=aa (ab hR (H6.out.sm.tt hs7));clear hR hs7;go_wp2_with fail;refine(wC _ A (some ⟨w7.heap.size,0,none⟩) cp 12 Hw (H7.out.1.no ((Sm.refl No w7).alloc _)) (oJ w7 (aL Hw).toArray 5 (12,13)) (by decide)).mono ?_;rintro e w8 ⟨rfl,hs8⟩;have H8:=aa (H1.out.tt (H7.out.2.trans (((Sm.refl No w7).alloc _).trans hs8 (fun _ _ e=>e)) (fun _ _ e=>e)));clear hs8;go_wp2_with fail;refine(HK.out w8 H8.out).mono ?_;rintro e w9 ⟨rfl,hs9⟩;have H9:=aa (H8.out.tt hs9);clear hs9;go_wp2_with fail;go_ret;exact⟨rfl,H9.out⟩
     |succ j=>
      obtain⟨sa,sb,ht,ok,hd,hal,hat,hbe,hG2⟩:=Ij hGi;obtain⟨q,hq⟩:∃ x,i % n=x:=⟨_,rfl⟩;unfold IG at ht;rw [hq] at ht;have hqn:q < n:=by rw [←hq];exact Nat.mod_lt _ (by omega)
      have i1:Int.tmod (i:Int) (n:Int)=(q:Int):=by rw [←hq];exact(Int.ofNat_tmod i n).symm
      have i2:(n:Int)≠0:=by omega
      have i3:((n:Int)==0)=false:=by simpa using i2
      have i4:IntKind.i64.wrap (q:Int)=(q:Int):=IntWalk.i64_in _ (by omega);have i5:(i:Int) < (m:Int):=by omega
      have HN:=aa (ab ok (ab hd (ab hal (ab hat (ab hbe (ab hG2 hij))))));clear hGi ok hd hal hat hbe hG2 hq hij;go_upto_if 54 with fail
      go_cut [] from 54 to 61 (fun wx=>∃ D5,eG w1 wx D5 b c z G6 sa)
      case first=>
       by_cases hq0:q=0
       ·rw [hq0,if_pos rfl] at ht;obtain⟨n5,hpu⟩:=Iy ht;have k1:((q:Int)==0)=true:=by simpa using hq0
        have HP4:=aa (H4.out.pushN (E1 2 256) hpu (C:=#[.int .u8 120]) (fz:=(0,0)) rfl (by decide));clear ht hpu hq0;go_wp2_with fail;refine HP4.out.mono ?_;rintro e w5 ⟨rfl,D5,hb5, -⟩;have H5:=aa hb5;clear hb5;go_wp2_with fail;go_meet;exact⟨D5,H5.out⟩
       ·rw [if_neg hq0] at ht;injection ht with ht;subst ht;have k1:((q:Int)==0)=false:=by simpa using hq0
        clear hq0;go_wp2_with fail;go_meet;exact⟨_,H4.out⟩
      case rest=>
       obtain⟨D5,hb5⟩:=hcut;obtain⟨q2,q3,lb5,lc5⟩:=hb5.cells;have H5:=aa hb5;clear hb5 q0 q1 lb lc ht;go_wp2_with fail;refine(H5.out.due (E1 2 256) IE HN.out.1 HN.out.2.1).mono ?_;rintro e w6 ⟨rfl,D6,hb6, -⟩;obtain⟨q0,q1,lb,lc⟩:=hb6.cells;have H6:=aa hb6;clear hb6 q2 q3 lb5 lc5;go_wp2_with fail;refine(H6.out.deadline IE HN.out.2.2.1 HN.out.2.2.2.1).mono ?_;rintro e w7 ⟨rfl,hs7⟩;have hb7:=H6.out.no hs7;obtain⟨q2,q3,lb7,lc7⟩:=hb7.cells;have H7:=aa hb7;have HL:=aa (hb7.len);rw [HN.out.2.2.2.2.1] at HL;clear hb7 hs7 q0 q1 lb lc;go_wp2_with fail;refine HL.out.mono ?_;rintro e w8 ⟨rfl,rfl⟩;go_wp2_with fail;exact⟨⟨j,i+1,sb,D6,by go_num,by have:=HN.out.2.2.2.2.2.2;omega,H7.out,HN.out.2.2.2.2.2.1⟩,by simp [intOf];omega⟩
end Go.Proofs.YtadcjgopaadfjaaGreatDoor
