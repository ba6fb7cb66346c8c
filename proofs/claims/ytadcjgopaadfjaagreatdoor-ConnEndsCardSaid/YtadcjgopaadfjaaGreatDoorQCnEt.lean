import Derived.Test.YtadcjgopaadfjaaGreatDoorQCG
import Derived.Test.YtadcjgopaadfjaaGreatDoorQE
import Derived.Test.YtadcjgopaadfjaaGreatDoorQRP
set_option maxHeartbeats 32000000
set_option maxRecDepth 100000
namespace Go.Proofs.YtadcjgopaadfjaaGreatDoor
open Go.RowKit Go.Proofs
theorem I9:∀ n,(IW n).length=n * 32
 |0=>rfl
 |n+1=>by
  have h:=I9 n;unfold IW at h ⊢;rw [List.replicate_succ,List.flatten_cons,List.length_append,h];show 32+n * 32=_;omega
theorem Jx(n:Nat):IW (n+1)=IW n++I8:=by unfold IW;rw [List.replicate_succ',List.flatten_append,List.flatten_singleton]
theorem JL{n j k:Nat}{s:Cn}(h:Ja n (j+1) k s=true):(s.b=[]∧s.phase=5∧k=n∧s.taken=n∧s.laid=n∧s.closed=true)∨(IR s∧s.phase=3∧s.ended=true∧∃ s2,Ie IV s 40 2=some s2∧Ja n j s2.whole s2=true):=by
 unfold Ja at h;split at h
 ·rename_i hb
  simp only [Bool.and_eq_true,decide_eq_true_eq] at h;exact Or.inl ⟨List.isEmpty_iff.1 hb,h⟩
 ·simp only [Bool.and_eq_true,decide_eq_true_eq] at h;obtain⟨h1,h2,h3,h4⟩:=h;obtain⟨s2,e2,h5⟩:=Hu h4;exact Or.inr ⟨I0 h3,h1,h2,s2,e2,h5⟩
def I2:ByteArray:=⟨#[71,69,84,32,47,107,101,121,63,97,32,72,84,84,80,47,49,46,49,13,10]⟩
theorem JG(r:Nat)(h:r≤20):(I2.extract 0 r).size=r∧af (I2.extract 0 r)=I8.take r:=by
 have e:af (I2.extract 0 r)=I8.take r:=by
  rw [bz,List.drop_zero];have e2:I8=af I2++I8.drop 21:=by decide+kernel
  rw [e2,List.take_append_of_le_length (by show r≤21;omega)]
 refine⟨?_,e⟩;have h2:=ag (I2.extract 0 r);rw [e,List.length_take,show I8.length=32 from rfl] at h2;omega
theorem Ju(w:World)(hg:G1 w)(n rest:Int)(_h1:(Lit.int .i64 n).wf=true)(_h2:(Lit.int .i64 rest).wf=true):
 Calls Tryz.prog 7 #[.int .i64 n,.int .i64 rest] w fun e w'=>e=.returned (.bool true)∧Sm No w w':=by
 have HK:=aa (fun (W:World) (h:Sm No w W)=>ue W (hg.no h));have hfin:n < 0∨(0≤n∧10 < n)∨(0≤n∧n≤10∧rest < 0)∨(0≤n∧n≤10∧0≤rest∧20 < rest)∨(0≤n∧n≤10∧0≤rest∧rest≤20):=by omega
 rcases hfin with h1|⟨h1,h2⟩|⟨h1,h2,h3⟩|⟨h1,h2,h3,h4⟩|⟨h1,h2,h3,h4⟩
 iterate 4
  ·clear hg;have d1:decide (n < 0)=decide (¬0≤n):=by by_cases e:n < 0<;>simp [e]<;>omega
   go_in;go_wp2_with (first|(go_at_call 9;refine(HK.out _ (Sm.refl No w)).mono ?_;rintro e w1 ⟨rfl,hs1⟩;have H1:=aa hs1;clear hs1));go_ret;exact⟨rfl,H1.out⟩
 ·obtain⟨n,rfl⟩:∃ k:Nat,n=(k:Int):=⟨n.toNat,by omega⟩;obtain⟨r,rfl⟩:∃ k:Nat,rest=(k:Int):=⟨rest.toNat,by omega⟩;have HP:=aa (fun (W:World)=>lF W);have HSt:=aa (fun (W:World) (h:Sm No w W)=>ud W (hg.no h) 2 4096 (by decide) (by decide) (by decide));have hq:JN n r=true:=by
   have h:=JR;rw [List.all_eq_true] at h;have h5:=h n (by rw [List.mem_range];omega);rw [List.all_eq_true] at h5;exact h5 r (by rw [List.mem_range];omega)
  unfold JN at hq;obtain⟨s1,n1,e1,hq⟩:=Ea hq;obtain⟨s2,e2,hq⟩:=Hu hq;have HQ:=aa (ab e1 (ab e2 hq));have d1:decide ((n:Int) < 0)=false:=decide_eq_false (by omega);have d2:decide (10 < (n:Int))=false:=decide_eq_false (by omega);have d3:decide ((r:Int) < 0)=false:=decide_eq_false (by omega);have d4:decide (20 < (r:Int))=false:=decide_eq_false (by omega);clear hg e1 e2 hq;go_in;go_wp2_with fail;refine(HP.out w).mono ?_;rintro e w1 ⟨rfl,hs1⟩;have H1:=aa hs1;clear hs1;go_wp2_with fail;refine(HSt.out w1 H1.out).mono ?_;rintro e w2 ⟨b,c,z,D,x,rfl,hI,hBk,hN,hs2⟩;have hb:eG w1 w2 D b c z IV (Cn.new 0):=⟨hI,⟨_,hBk⟩,hN⟩;have hDl:∀ k x,D k x→x < w2.heap.size:=fun k x e=>hI.reg.lt k x e;obtain⟨q0,q1,lb,lc⟩:=hb.cells;have H2:=aa (ab hb hDl);clear hI hBk hN hs2 hb hDl d1 d2 d3 d4;go_wp2_with fail
  go_loopw [7,8] (fun bv iv wr=>∃ i:Nat,i≤n∧iv=.int .i64 (i:Int)∧aG wr w2.heap.size bv (IW i)∧Sm No w2 wr) (fun _ iv _=>n-(intOf iv).toNat)
  case atStart=>exact⟨0,Nat.zero_le _,rfl,aG.nil _ _,Sm.refl _ _⟩
  case round=>
   obtain⟨i,hi,rfl,hO,hsi⟩:=hrel;have HO:=aa (ab hO hsi);have hBi:w2.heap.size≤wr.heap.size:=hsi.size;have hli:=I9 i;by_cases hin:i < n
   ·clear hO hsi;go_wp2_with (first|(at_builtin;refine JB rfl _ _ rfl w2.heap.size hBi ⟨I8.toArray⟩ _ (IW i) rfl HO.out.1 rfl (by rw [hli];show _+32≤_;omega) ?_;intro v5 w5 hO5 hs5;have H5:=aa (ab hO5 (Jc HO.out.2 HO.out.1 (Nat.le_refl _) hs5));clear hO5 hs5));exact⟨⟨i+1,by omega,by go_num,by rw [Jx];exact H5.out.1,H5.out.2⟩,by simp [intOf];omega⟩
   ·obtain rfl:i=n:=by omega
    obtain⟨q2,q3,lb3,lc3⟩:=H2.out.1.cellsN wr hsi;have Cr:=aa (fun (W:World) (hs:Sm No w2 W)=>(H2.out.1.cellsN W hs).1);have Cl:=aa (fun (W:World) (hs:Sm No w2 W)=>(H2.out.1.cellsN W hs).2.2.1);have m1:=(H2.out.1.cellsN wr.drew (hsi.trans (Sm.refl No wr).drew (fun _ _ e=>e))).1;have HX:=aa (JG r (by omega));have k0:(0:Int)≤(r:Int):=by omega
    have k1:(r:Int)≤21:=by omega
    have hBd:w2.heap.size≤wr.drew.heap.size:=by rw [World.size_drew];exact hBi
    have HPu:=aa (fun (W:World) (hs:Sm No w2 W) (v:Value) (hO:aG W w2.heap.size v (IW i++I8.take r))=>(H2.out.1.no hs).pushO (E1 2 4096) hO (fun k x e=>H2.out.2 k x e) HQ.out.1 (by rw [List.length_append,List.length_take,hli];omega));have HOd:=aa (HO.out.1.no (Sm.refl No wr).drew);clear hO hsi q0 q1 lb lc;go_upto_region 11 with fail
    go_region_held3 (fun w'=>w'.cell? ⟨b,0,none⟩=some (.pointer (some ⟨c,0,none⟩))) (first|exact q2|exact m1|exact q5|exact m6)
     (first
      |(go_at_call 12;refine(HPu.out w5 H5.out.2 _ H5.out.1).mono ?_;rintro e w6 ⟨rfl,D6,hb6, -⟩;have m6:=hb6.cells.1;have H6:=aa hb6;clear hb6)
      |(refine jX (by rfl) _ _ (by rfl) w2.heap.size hBd (I2.extract 0 r) _ (IW i) (by rfl) HOd.out (by rfl) (by rw [hli,HX.out.1];omega) ?_;intro A5 c5 w5 hO5 hs5;obtain⟨nL,hnL⟩:∃ x,(IW i).length+(I2.extract 0 r).size=x:=⟨_,rfl⟩;rw [hnL] at hO5 ⊢;clear hnL;have t5:=Jc (HO.out.2.trans (Sm.refl No wr).drew (fun _ _ e=>e)) HOd.out (Nat.le_refl _) hs5;have q5:=Cr.out w5 t5;rw [HX.out.2] at hO5;have H5:=aa (ab hO5 t5);clear hO5 hs5 t5))
    all_goals
     obtain⟨q0,q1,lb,lc⟩:=H6.out.cells;clear q2 q3 lb3 lc3 m1;go_wp2_with fail;refine(H6.out.endS (E1 2 4096) HQ.out.2.1).mono ?_;rintro e w7 ⟨rfl,D7,hb7, -⟩;have H7:=aa hb7;obtain⟨q2,q3,lb7,lc7⟩:=hb7.cells;clear hb7 q0 q1 lb lc;go_wp2_with fail
     go_loopw [9,10,11,12,13,14] (fun kv iv _ _ _ _ wr=>∃ (k t j:Nat) (s:Cn) (D:Nat→Nat→Prop),kv=.int .i64 (k:Int)∧iv=.int .i64 (t:Int)∧t+j=100∧eG w1 wr D b c z IV s∧Ja i j k s=true) (fun _ iv _ _ _ _ _=>100-(intOf iv).toNat)
     case atStart=>exact⟨0,0,100,s2,D7,rfl,rfl,rfl,H7.out,HQ.out.2.2⟩
     case round=>
      obtain⟨k,t,j,s,D8,rfl,rfl,htj,hP,hG⟩:=hrel;obtain⟨q0,q1,lb,lc⟩:=hP.cells;have H8:=aa hP;have HL:=aa hP.len;have p1:(t:Int) < 1000:=by omega
      have d1:decide ((t:Int) < 1000)=true:=decide_eq_true p1
      cases j with
      |zero=>cases hG
      |succ j=>
       rcases JL hG with ⟨he,g1,g2,g3,g4,g5⟩|⟨hf,g1,g2,sb,g3,g4⟩
       ·rw [he] at HL;have hrm:Iv IV s=0:=by unfold Iv;rw [g5];rfl
        have HE:=aa (ab g1 (ab g3 (ab g4 hrm)));subst g2;clear hP hG he g1 g3 g4 g5 hrm htj;go_wp2_with fail;refine HL.out.mono ?_;rintro e w9 ⟨rfl,rfl⟩;go_wp2_with fail;refine(H8.out.phase HE.out.1 rfl).mono ?_;rintro e w10 ⟨rfl,hs10⟩;have H10:=aa (H8.out.no hs10);clear hs10 q0 q1 lb lc;obtain⟨q0,q1,lb,lc⟩:=H10.out.cells;go_wp2_with fail;refine(H10.out.count HE.out.2.1 HE.out.2.2.1 rfl).mono ?_;rintro e w11 ⟨rfl,hs11⟩;have H11:=aa (H10.out.no hs11);clear hs11 q0 q1 lb lc;obtain⟨q0,q1,lb,lc⟩:=H11.out.cells;go_wp2_with fail;refine(H11.out.room HE.out.2.2.2).mono ?_;rintro e w12 ⟨rfl,hs12⟩;have H12:=aa (H1.out.tt (H11.out.sm.trans hs12 (fun _ _ e=>e)));clear hs12;go_wp2_with fail;refine(HK.out w12 H12.out).mono ?_;rintro e w13 ⟨rfl,hs13⟩;have H13:=aa (H12.out.tt hs13);clear hs13;go_wp2_with fail;go_ret;exact⟨rfl,H13.out⟩
       ·have hnb:0 < s.b.length:=List.length_pos_iff.2 hf.ne;have hw1:(IS IV s).1=false:=by unfold IS;rw [hf.cl,g2];rfl
        have hw2:(IS IV s).2=true:=by
         unfold IS;rw [hf.cl];show (!s.b.isEmpty)=true
         cases hh:s.b with
         |nil=>exact absurd hh hf.ne
         |cons a l=>rfl
        obtain⟨nb,hnbe⟩:∃ x,s.b.length=x:=⟨_,rfl⟩;rw [hnbe] at HL hnb;have hnb2:(0:Int) < (nb:Int):=by omega
        have HE:=aa (ab hf (ab g1 (ab g2 (ab g3 (ab g4 (ab hw1 (ab hw2 htj)))))));clear hP hG hf g1 g2 g3 g4 hw1 hw2 hnbe htj;go_wp2_with fail;refine HL.out.mono ?_;rintro e w9 ⟨rfl,rfl⟩;go_wp2_with fail;refine(H8.out.phase HE.out.2.1 rfl).mono ?_;rintro e w10 ⟨rfl,hs10⟩;have H10:=aa (H8.out.no hs10);clear hs10 q0 q1 lb lc;obtain⟨q0,q1,lb,lc⟩:=H10.out.cells;go_wp2_with fail;refine(H10.out.wants HE.out.1.ps HE.out.1.cl (Or.inl HE.out.2.2.1) HE.out.2.2.2.2.2.1 HE.out.2.2.2.2.2.2.1).mono ?_;rintro e w11 ⟨rfl,hs11⟩;have H11:=aa (H10.out.no hs11);clear hs11 q0 q1 lb lc;obtain⟨q0,q1,lb,lc⟩:=H11.out.cells;go_wp2_with fail;refine(H11.out.wrote (E1 2 4096) HE.out.1 HE.out.2.2.2.1).mono ?_;rintro e w12 ⟨rfl,D12,hb12, -⟩;have H12:=aa hb12;clear hb12 q0 q1 lb lc;obtain⟨q0,q1,lb,lc⟩:=H12.out.cells;go_wp2_with fail;refine(H12.out.count rfl rfl rfl).mono ?_;rintro e w13 ⟨rfl,hs13⟩;have H13:=aa (H12.out.no hs13);clear hs13 q0 q1 lb lc;go_wp2_with fail;exact⟨⟨sb.whole,t+1,j,sb,D12,rfl,by go_num,by have:=HE.out.2.2.2.2.2.2.2;omega,H13.out,HE.out.2.2.2.2.1⟩,by have:=HE.out.2.2.2.2.2.2.2;simp [intOf];omega⟩
end Go.Proofs.YtadcjgopaadfjaaGreatDoor
