import Derived.Test.YtadcjgopaadfjaaGreatDoorQCnPa
import Derived.Test.YtadcjgopaadfjaaGreatDoorQCnPb
import Derived.Test.YtadcjgopaadfjaaGreatDoorQE
set_option maxHeartbeats 32000000
set_option maxRecDepth 100000
namespace Go.Proofs.YtadcjgopaadfjaaGreatDoor
open Go.RowKit Go.Proofs
theorem JX(p:Nat)(h:1≤p∧p≤20):IT p=true:=by
 obtain rfl|rfl|rfl|rfl|rfl|rfl|rfl|rfl|rfl|rfl|rfl|rfl|rfl|rfl|rfl|rfl|rfl|rfl|rfl|rfl:p=1∨p=2∨p=3∨p=4∨p=5∨p=6∨p=7∨p=8∨p=9∨p=10∨p=11∨p=12∨p=13∨p=14∨p=15∨p=16∨p=17∨p=18∨p=19∨p=20:=by omega
 ·exact Ki
 ·exact Kg
 ·exact Kt
 ·exact Kk
 ·exact Ku
 ·exact Ko
 ·exact Kr
 ·exact Kq
 ·exact Kh
 ·exact J4
 ·exact J7
 ·exact J5
 ·exact J9
 ·exact Kd
 ·exact Ke
 ·exact J3
 ·exact Kc
 ·exact Kb
 ·exact Kf
 ·exact Ka
theorem J8(p n:Nat)(h:1≤p∧p≤20)(hn:1≤n∧n≤30):∃ s,rM (J6 p) (Cn.new 0) (IY n) 0=some (s,n * 28)∧Ji p n n 0 s=true:=by
 have h1:=JX p h;unfold IT at h1;rw [List.all_eq_true] at h1;have h2:=h1 (n-1) (by rw [List.mem_range];omega);rw [show n-1+1=n by omega] at h2;unfold Ks at h2;obtain⟨s,m,e,h3⟩:=Ea h2;simp only [Bool.and_eq_true,decide_eq_true_eq] at h3;obtain⟨rfl,h3⟩:=h3;exact⟨s,e,h3⟩
structure Kv (p n j k wt:Nat) (s:Cn):Prop where
 tk:s.taken=wt
 ld:s.laid=wt
 wh:s.whole=k
 ps:s.ps.length=wt-k
 fw:IR s
 ed:s.ended=false
 en:s.ending=false
 rl:s.r.length < 4096
 go:∃ s2,Ie (J6 p) s ((s.b.length / (wt-k):Nat):Int) k=some s2∧Ji p n j (k+1) s2=true
theorem JV{p n j k wt:Nat}{s:Cn}(h:Ji p n (j+1) k s=true)(hw:min n (k+p)=wt):Kv p n j k wt s:=by
 unfold Ji at h;rw [hw] at h;simp only [Bool.and_eq_true,decide_eq_true_eq,Bool.not_eq_true'] at h;obtain⟨h1,h2,h3,h4,h5,h6,h7,h8,h9⟩:=h;exact⟨h1,h2,h3,h4,I0 h5,h6,h7,h8,Hu h9⟩
theorem Jb:∀ n,(IY n).length=n * 28
 |0=>rfl
 |n+1=>by
  have h:=Jb n;unfold IY at h ⊢;rw [List.replicate_succ,List.flatten_cons,List.length_append,h];show 28+n * 28=_;omega
theorem Jw(n:Nat):IY (n+1)=IY n++I4:=by unfold IY;rw [List.replicate_succ',List.flatten_append,List.flatten_singleton]
theorem I5(w:World)(hg:G1 w)(p n:Int)(_h1:(Lit.int .i64 p).wf=true)(_h2:(Lit.int .i64 n).wf=true):
 Calls Tryz.prog 5 #[.int .i64 p,.int .i64 n] w fun e w'=>e=.returned (.bool true)∧Sm No w w':=by
 have HK:=aa (fun (W:World) (h:Sm No w W)=>ue W (hg.no h));have hfin:p < 1∨(1≤p∧20 < p)∨(1≤p∧p≤20∧n < 1)∨(1≤p∧p≤20∧1≤n∧30 < n)∨(1≤p∧p≤20∧1≤n∧n≤30):=by omega
 rcases hfin with h1|⟨h1,h2⟩|⟨h1,h2,h3⟩|⟨h1,h2,h3,h4⟩|⟨h1,h2,h3,h4⟩
 iterate 4
  ·clear hg;have d1:decide (p < 1)=decide (¬1≤p):=by by_cases e:p < 1<;>simp [e]<;>omega
   go_in;go_wp2_with (first|(go_at_call 9;refine(HK.out _ (Sm.refl No w)).mono ?_;rintro e w1 ⟨rfl,hs1⟩;have H1:=aa hs1;clear hs1));go_ret;exact⟨rfl,H1.out⟩
 ·obtain⟨p,rfl⟩:∃ k:Nat,p=(k:Int):=⟨p.toNat,by omega⟩;obtain⟨n,rfl⟩:∃ k:Nat,n=(k:Int):=⟨n.toNat,by omega⟩;have HP:=aa (fun (W:World)=>lF W);have HSt:=aa (fun (W:World) (h:Sm No w W)=>ud W (hg.no h) p 4096 (by omega) (by decide) (by decide));rw [gR] at HP HSt;obtain⟨s1,e1,e2⟩:=J8 p n (by omega) (by omega);have HQ:=aa (ab e1 e2);have d1:decide ((p:Int) < 1)=false:=decide_eq_false (by omega);have d2:decide (20 < (p:Int))=false:=decide_eq_false (by omega);have d3:decide ((n:Int) < 1)=false:=decide_eq_false (by omega);have d4:decide (30 < (n:Int))=false:=decide_eq_false (by omega);clear hg e1 e2;go_in;go_wp2_with fail;refine(HP.out w).mono ?_;rintro e w1 ⟨rfl,hs1⟩;have H1:=aa hs1;clear hs1;go_upto_region 4 with (refine kS rfl 28 _ _ rfl 16 eN _ rfl _ rfl rfl rfl rfl rfl ?_);go_upto_region 5 with fail;obtain⟨gc,hgc⟩:∃ x,w1.heap.size=x:=⟨_,rfl⟩;rw [hgc];obtain⟨wA,hwA⟩:∃ x,w1.alloc (.cells #[.int .i64 1,.int .i64 1,.int .i64 (p:Int),.int .i64 0,.int .i64 50,.int .i64 20,.int .i64 30,.int .i64 40,.int .i64 10,.int .i64 0,.int .i64 0,.int .i64 0,.int .i64 0,.bool false,.bool false,.slice none 0 0] 28)=x:=⟨_,rfl⟩;rw [hwA];have hbA:Bk wA gc 28 #[.int .i64 1,.int .i64 1,.int .i64 (p:Int),.int .i64 0,.int .i64 50,.int .i64 20,.int .i64 30,.int .i64 40,.int .i64 10,.int .i64 0,.int .i64 0,.int .i64 0,.int .i64 0,.bool false,.bool false,.slice none 0 0]:=by rw [←hwA,←hgc];exact Bk.new w1 _ _
  have hsA:Sm No w1 wA:=by rw [←hwA];exact(Sm.refl No w1).alloc _
  have HA:=aa (ab hbA (H1.out.tt hsA));clear hwA hgc hbA hsA;go_wp2_with (refine bj rfl 28 _ rfl Tryz.underlying28 16 eN _ rfl _ HA.out.1 rfl ?_);refine(HSt.out wA HA.out.2).mono ?_;rintro e w2 ⟨b,c,z,D,x,rfl,hI,hBk,hN,hs2⟩;have hb:eG wA w2 D b c z (J6 p) (Cn.new 0):=⟨hI,⟨_,hBk⟩,hN⟩;have hDl:∀ k x,D k x→x < w2.heap.size:=fun k x e=>hI.reg.lt k x e;obtain⟨q0,q1,lb,lc⟩:=hb.cells;have H2:=aa (ab hb hDl);clear hI hBk hN hs2 hb hDl d1 d2 d3 d4;go_wp2_with fail
  go_loopw [8,9] (fun bv iv wr=>∃ i:Nat,i≤n∧iv=.int .i64 (i:Int)∧aG wr w2.heap.size bv (IY i)∧Sm No w2 wr) (fun _ iv _=>n-(intOf iv).toNat)
  case atStart=>exact⟨0,Nat.zero_le _,rfl,aG.nil _ _,Sm.refl _ _⟩
  case round=>
   obtain⟨i,hi,rfl,hO,hsi⟩:=hrel;have HO:=aa (ab hO hsi);have hBi:w2.heap.size≤wr.heap.size:=hsi.size;have hli:=Jb i;by_cases hin:i < n
   ·clear hO hsi;go_wp2_with (first|(at_builtin;refine JB rfl _ _ rfl w2.heap.size hBi ⟨I4.toArray⟩ _ (IY i) rfl HO.out.1 rfl (by rw [hli];show _+28≤_;omega) ?_;intro v5 w5 hO5 hs5;have H5:=aa (ab hO5 (Jc HO.out.2 HO.out.1 (Nat.le_refl _) hs5));clear hO5 hs5));exact⟨⟨i+1,by omega,by go_num,by rw [Jw];exact H5.out.1,H5.out.2⟩,by simp [intOf];omega⟩
   ·obtain rfl:i=n:=by omega
    obtain⟨A5,c5,rfl, -⟩:=hO.slice;have HPu:=aa ((H2.out.1.no hsi).pushO (E1 p 4096) hO (fun k x e=>H2.out.2 k x e) HQ.out.1 (by rw [hli];omega));obtain⟨q2,q3,lb3,lc3⟩:=H2.out.1.cellsN wr hsi;obtain⟨nl,hnl⟩:∃ x,i * 28=x:=⟨_,rfl⟩;rw [hli,hnl] at HPu;rw [hli,hnl];clear hO hsi q0 q1 lb lc hnl hli;go_wp2_with fail;refine HPu.out.mono ?_;rintro e w6 ⟨rfl,D6,hb6, -⟩;have H6:=aa hb6;clear hb6 q2 q3 lb3 lc3;go_wp2_with fail
    go_loopw [10,11,12,13,14,15,16] (fun kv _ _ _ _ _ _ wr=>∃ (k j:Nat) (s:Cn) (D:Nat→Nat→Prop),kv=.int .i64 (k:Int)∧k+j=i∧eG wA wr D b c z (J6 p) s∧Ji p i j k s=true) (fun kv _ _ _ _ _ _ _=>i-(intOf kv).toNat)
    case atStart=>exact⟨0,i,s1,D6,rfl,by omega,H6.out,HQ.out.2⟩
    case round=>
     obtain⟨k,j,s,D8,rfl,hkj,hP,hG⟩:=hrel;obtain⟨q0,q1,lb,lc⟩:=hP.cells;have H8:=aa hP
     cases j with
     |zero=>
      obtain rfl:k=i:=by omega
      unfold Ji at hG;simp only [Bool.and_eq_true,decide_eq_true_eq,List.isEmpty_iff] at hG;have HE:=aa hG;clear hP hG hkj;go_wp2_with fail;refine(H8.out.phase HE.out.1 rfl).mono ?_;rintro e w10 ⟨rfl,hs10⟩;have H10:=aa (H8.out.no hs10);have HL:=aa H10.out.len;rw [HE.out.2] at HL;clear hs10 q0 q1 lb lc;obtain⟨q0,q1,lb,lc⟩:=H10.out.cells;go_wp2_with fail;refine HL.out.mono ?_;rintro e w11 ⟨rfl,rfl⟩;go_wp2_with fail;refine(HK.out w10 (HA.out.2.tt H10.out.sm)).mono ?_;rintro e w13 ⟨rfl,hs13⟩;have H13:=aa ((HA.out.2.tt H10.out.sm).tt hs13);clear hs13;go_wp2_with fail;go_ret;exact⟨rfl,H13.out⟩
     |succ j=>
      obtain⟨wt,hwt⟩:∃ x,min i (k+p)=x:=⟨_,rfl⟩;have hR:=JV hG hwt;obtain⟨s2,hs2,hG2⟩:=hR.go;obtain⟨m,hm⟩:∃ x,wt-k=x:=⟨_,rfl⟩;have hm0:0 < m:=by omega
      have hmk:wt=k+m:=by omega
      have hps:=hR.ps;rw [hm] at hs2 hps;obtain⟨nb,hnb⟩:∃ x,s.b.length=x:=⟨_,rfl⟩;rw [hnb] at hs2;obtain⟨q,hq⟩:∃ x,nb / m=x:=⟨_,rfl⟩;rw [hq] at hs2;have hqn:q≤nb:=by rw [←hq];exact Nat.div_le_self _ _
      have hnbb:nb≤1000000:=by rw [←hnb];exact hR.fw.b
      have n1:IntKind.i64.wrap ((k:Int)+(p:Int))=((k+p:Nat):Int):=by rw [show (k:Int)+(p:Int)=((k+p:Nat):Int) by omega];exact IntWalk.i64_in _ (by omega)
      obtain⟨kp,hkp⟩:∃ x,k+p=x:=⟨_,rfl⟩;rw [hkp] at n1 hwt;have n2:min (i:Int) (kp:Int)=(wt:Int):=by omega
      have n3:IntKind.i64.wrap ((wt:Int)-(k:Int))=(m:Int):=by rw [show (wt:Int)-(k:Int)=(m:Int) by omega];exact IntWalk.i64_in _ (by omega)
      have n4:Int.tdiv (nb:Int) (m:Int)=(q:Int):=by rw [←hq];exact(Int.ofNat_tdiv nb m).symm
      have n5:(m:Int)≠0:=by omega
      have n6:((m:Int)==0)=false:=by simpa using n5
      have n7:IntKind.i64.wrap (q:Int)=(q:Int):=IntWalk.i64_in _ (by omega);have n8:m≠0:=by omega
      have n9:(nb:Int) / (m:Int)=(q:Int):=by rw [←hq];exact(Int.natCast_ediv nb m).symm
      have i5:(k:Int) < (i:Int):=by omega
      have hw1:(IS (J6 p) s).1=decide ((m:Int) < (p:Int)):=by
       unfold IS;rw [hR.fw.cl,if_neg (by decide)];show (!s.ended&&(s.ending||(decide (s.r.length < 4096)&&decide ((s.ps.length:Int) < (p:Int)))))=_;rw [hR.ed,hR.en,decide_eq_true hR.rl,hps];rfl
      have HCt:=aa (hP.count hR.tk hR.ld hR.wh);have HE:=aa (ab hR (ab hs2 (ab hG2 (ab hw1 (ab hps (ab hnb (ab hmk hkj)))))));have hvv:∀ v:Bool,(v != v)=false:=fun v=>by cases v<;>rfl
      clear hP hG hR hs2 hG2 hw1 hps hnb hkj hq hwt hkp hm hmk;go_wp2_with fail;refine HCt.out.mono ?_;rintro e w10 ⟨rfl,hs10⟩;have H10:=aa (H8.out.no hs10);clear hs10 q0 q1 lb lc;obtain⟨q0,q1,lb,lc⟩:=H10.out.cells;go_wp2_with fail;refine(H10.out.wants (y:=true) HE.out.1.fw.ps HE.out.1.fw.cl (Or.inr ⟨HE.out.1.ed,HE.out.1.en,HE.out.1.rl⟩) HE.out.2.2.2.1 (by
       unfold IS;rw [HE.out.1.fw.cl];show (!s.b.isEmpty)=true
       cases hh:s.b with
       |nil=>exact absurd hh HE.out.1.fw.ne
       |cons a l=>rfl)).mono ?_
      rintro e w11 ⟨rfl,hs11⟩;have H11:=aa (H10.out.no hs11);clear hs11 q0 q1 lb lc;obtain⟨q0,q1,lb,lc⟩:=H11.out.cells;have HLf:=aa (H11.out.left HE.out.1.fw.ps);rw [HE.out.2.2.2.2.1] at HLf;go_wp2_with fail;refine HLf.out.mono ?_;rintro e w12 ⟨A12,c12,rfl,hs12⟩;have H12:=aa (H11.out.no hs12);clear hs12 q0 q1 lb lc;go_upto_region 23 with fail;have Cr:=aa (fun (W:World) (hs:Sm No w12 W)=>show W.cell? ⟨b,0,none⟩=some (.pointer (some ⟨c,0,none⟩))∧W.cell? ⟨c,0,none⟩=some (.pointer (some ⟨z.gq,0,none⟩)) from⟨(H12.out.cellsN W hs).1,(H12.out.cellsN W hs).2.1⟩);have m0:=Cr.out w12 (Sm.refl No w12);have S1:Sm No w12 w12.drew:=(Sm.refl No w12).drew;have m1:=Cr.out w12.drew S1;have HLn:=aa ((H12.out.no S1).len);rw [HE.out.2.2.2.2.2.1] at HLn;have HWr:=aa ((H12.out.no S1).wrote (E1 p 4096) HE.out.1.fw HE.out.2.1)
      go_region_held3 (fun w'=>w'.cell? ⟨b,0,none⟩=some (.pointer (some ⟨c,0,none⟩))∧w'.cell? ⟨c,0,none⟩=some (.pointer (some ⟨z.gq,0,none⟩))) (first|exact m0|exact m1|exact m14)
       (first
        |(go_at_call 15;refine HLn.out.mono ?_;rintro e w13 ⟨rfl,rfl⟩)
        |(go_at_call 20;refine HWr.out.mono ?_;rintro e w14 ⟨rfl,D14,hb14, -⟩;have m14:=ab hb14.cells.1 hb14.cells.2.1;have H14:=aa hb14;clear hb14))
      all_goals
       go_wp2_with fail;exact⟨⟨k+1,j,s2,D14,by go_num,by have:=HE.out.2.2.2.2.2.2.2;omega,H14.out,HE.out.2.2.1⟩,by have:=HE.out.2.2.2.2.2.2.2;simp [intOf];omega⟩
end Go.Proofs.YtadcjgopaadfjaaGreatDoor
