import Derived.Test.YtadcjgopaadfjaaGreatDoorQCG
import Derived.Test.YtadcjgopaadfjaaGreatDoorQE
import Derived.Test.YtadcjgopaadfjaaGreatDoorQG
set_option maxHeartbeats 32000000
set_option maxRecDepth 100000
namespace Go.Proofs.YtadcjgopaadfjaaGreatDoor
open Go.RowKit Go.Proofs
structure Jy (w0 w:World) (D:Nat→Nat→Prop) (b c:Nat) (z:Zn) (K:Kn) (s:Cn) (g:Nat) (L:ah):Prop where
 P:eG w0 w D b c z K s
 R:ax w (some ⟨g,0,none⟩) (aL L)
 N:¬ck D g
 G:g < w.heap.size
section
variable {w0 w w':World} {D D':Nat→Nat→Prop} {b c g:Nat} {z:Zn} {K:Kn} {s s':Cn} {L:ah}
theorem Jy.no(h:Jy w0 w D b c z K s g L)(hs:Sm No w w'):Jy w0 w' D b c z K s g L:=⟨h.P.no hs,h.R.no hs,h.N,Nat.lt_of_lt_of_le h.G hs.size⟩
theorem Jy.go(h:Jy w0 w D b c z K s g L)(hp:eG w0 w' D' b c z K s')(hG:aZ D w D' w'):Jy w0 w' D' b c z K s' g L:=⟨hp,h.R.sm hG.sm (fun a e=>by injection e with e;subst e;exact h.N),hG.far h.G h.N,Nat.lt_of_lt_of_le h.G hG.sm.size⟩
def Km(w0:World)(b c:Nat)(z:Zn)(K:Kn)(s':Cn)(g:Nat)(L:ah)(e:Ending)(w':World):Prop:=e=.returned (.tuple #[])∧∃ D',Jy w0 w' D' b c z K s' g L
theorem Jy.goes(h:Jy w0 w D b c z K s g L){F:FuncId}{args:Array Value}(hc:Calls Tryz.prog F args w (IN w0 w D b c z K s')):Calls Tryz.prog F args w (Km w0 b c z K s' g L):=by
 refine hc.mono ?_;rintro e w' ⟨rfl,D',hp,hG⟩;exact⟨rfl,D',h.go hp hG⟩
theorem Jy.push(h:Jy w0 w D b c z K s g L)(hK:Ed K){f p n k:Nat}{now:Int}{o cp:Nat}(ho:o=f∨p≤f)(hp:rM K s ((L.take p).drop f) now=some (s',n))(hl:((L.take p).drop f).length=k)(hk:k≤100000)(hcp:k≤cp)(hcp2:cp≤9223372036854775807):
 Calls Tryz.prog 12 #[.pointer (some ⟨c,0,none⟩),.slice (some ⟨g,o,none⟩) k cp,.int .i64 now] w fun e w'=>e=.returned (.int .i64 (n:Int))∧∃ D',Jy w0 w' D' b c z K s' g L:=by
 have hR:ax w (some ⟨g,o,none⟩) (aL ((L.take p).drop f)):=by
  rcases ho with rfl|ho
  ·have:=I3 (f:=o) (p:=p) h.R
   rwa [Nat.zero_add] at this
  ·rw [List.drop_eq_nil_of_le (by rw [List.length_take];omega)];exact ax.nil _ _
 rw [←hl];refine(h.P.push hK hp hR h.N (by omega) (by omega) hcp2).mono ?_;rintro e w' ⟨rfl,D',hp,hG⟩;exact⟨rfl,D',h.go hp hG⟩
end
theorem JU{w:World}{A:Option Addr}{T:ah}{cp:Nat}(h:ax w A (aL T))(h0:0 < T.length):∃ bb off,A=some ⟨bb,off,none⟩∧(convert 34 9 (.slice A T.length cp)).run Tryz.prog w=.ok (.string ⟨T.toArray⟩) w:=by
 have e0:(aL T)[0]?=some (.int .u8 (T[0].toNat:Int)):=by simp [aL,h0]
 obtain⟨bb,off,rfl, -⟩:=h 0 _ e0;refine⟨bb,off,rfl,run_convert_bytes_back w 34 9 5 ⟨bb,off,none⟩ cp T Tryz.underlying34 Tryz.underlying5 Tryz.underlying9 (fun j hj=> ?_)⟩;have ej:(aL T)[j]?=some (.int .u8 (T[j].toNat:Int)):=by simp [aL,hj]
 exact h.news rfl j _ ej
theorem Jg(w:World)(hg:G1 w)(cut:Int)(A:Option Addr)(more:List UInt8)(cp:Nat)(_hz:(Lit.int .i64 cut).wf=true)(hB:zS w A more cp):
 Calls Tryz.prog 6 #[.int .i64 cut,.slice A more.length cp] w fun e w'=>e=.returned (.bool true)∧Sm No w w':=by
 have HK:=aa (fun (W:World) (h:Sm No w W)=>ue W (hg.no h));have kc:=fun (w:World) (C:Array Value) (n c:Nat)=>Lib.run_convert_bytes_const (P:=Tryz.prog) w 34 5 C n c Tryz.underlying34 Tryz.underlying5;obtain⟨nm,hnm⟩:∃ x,more.length=x:=⟨_,rfl⟩;rw [hnm];have hfin:cut < 0∨(0≤cut∧28 < cut)∨(0≤cut∧cut≤28∧1000 < nm)∨(0≤cut∧cut≤28∧nm≤1000):=by omega
 have HA:=aa (show Sm No w (w.alloc (.cells (aL I4).toArray 5 (28,29))) from(Sm.refl No w).alloc _);rcases hfin with h1|⟨h1,h2⟩|⟨h1,h2,h3⟩|⟨h1,h2,h3⟩
 iterate 3
  ·have d1:decide (cut < 0)=decide (¬0≤cut):=by by_cases e:cut < 0<;>simp [e]<;>omega
   clear hg hB hnm;go_in;go_wp2_with (first|(go_at_call 9;refine(HK.out _ HA.out).mono ?_;rintro e w1 ⟨rfl,hs1⟩;have H1:=aa (HA.out.tt hs1);clear hs1));go_ret;exact⟨rfl,H1.out⟩
 ·obtain⟨k,rfl⟩:∃ k:Nat,cut=(k:Int):=⟨cut.toNat,by omega⟩;have hk:k≤28:=by omega
  have HP:=aa (fun (W:World)=>lF W);have HSt:=aa (fun (W:World) (h:Sm No w W)=>ud W (hg.no h) 2 4096 (by decide) (by decide) (by decide));have hq:JS k=true:=by
   have h:=JP;rw [List.all_eq_true] at h;exact h k (by rw [List.mem_range];omega)
  unfold JS at hq;obtain⟨s1,n1,e1,hq⟩:=Ea hq;obtain⟨s2,e2,hq⟩:=Hu hq;have HQ:=aa (ab e1 (ab e2 hq));have HB:=aa (ab hB hnm);have HR0:=aa (oJ w (aL I4).toArray 5 (28,29));clear hg hB hnm e1 e2 hq;go_in;go_wp2_with fail;refine(HP.out _).mono ?_;rintro e w1 ⟨rfl,hs1⟩;have H1:=aa (ab (HA.out.tt hs1) (ab (HR0.out.no hs1) (show w.heap.size < w1.heap.size from Nat.lt_of_lt_of_le (by rw [World.size_alloc];exact Nat.lt_succ_self _) hs1.size)));clear hs1;go_wp2_with fail;refine(HSt.out w1 H1.out.1).mono ?_;rintro e w2 ⟨b,c,z,D,x,rfl,hI,hBk,hN,hs2⟩;have hb:Jy w1 w2 D b c z IV (Cn.new 0) w.heap.size I4:=⟨⟨hI,⟨_,hBk⟩,hN⟩,H1.out.2.1.no hs2,fun ⟨j,e⟩=>by have:=hI.reg.ge j _ e;have:=H1.out.2.2;omega,Nat.lt_of_lt_of_le H1.out.2.2 hs2.size⟩;obtain⟨gA,hgA⟩:∃ x,w.heap.size=x:=⟨_,rfl⟩;rw [hgA] at hb ⊢;obtain⟨q0,q1,lb,lc⟩:=hb.P.cells;have H2:=aa hb;clear hI hBk hN hs2 hb hgA;go_upto_region 7 with fail;have k0:(0:Int)≤(k:Int):=by omega
  have k1:(k:Int)≤28:=by omega
  have hlr:I4.length=28:=rfl;have HPu:=aa (H2.out.no (Sm.refl No w2).drew |>.push (f:=0) (p:=k) (o:=0) (cp:=28) (E1 2 4096) (Or.inl rfl) HQ.out.1 (by rw [List.drop_zero,List.length_take,hlr];omega) (by omega) hk (by decide));have C2:=fun (W:World) (hs:Sm No w2 W)=>(H2.out.P.cellsN W hs).1;have C2:=aa C2;have m0:=C2.out w2 (Sm.refl No w2);have m1:=C2.out w2.drew (Sm.refl No w2).drew
  go_region_held3 (fun w'=>w'.cell? ⟨b,0,none⟩=some (.pointer (some ⟨c,0,none⟩))) (first|exact m0|exact m1|exact m3)
   (first|(go_at_call 12;refine HPu.out.mono ?_;rintro e w3 ⟨rfl,D3,hb3⟩;have m3:=hb3.P.cells.1;have H3:=aa hb3;clear hb3))
  all_goals
   obtain⟨q2,q3,lb3,lc3⟩:=H3.out.P.cells;clear q0 q1 lb lc m0 m1;go_wp2_with fail;refine(H3.out.goes (H3.out.P.quit (E1 2 4096) HQ.out.2.1)).mono ?_;rintro e w4 ⟨rfl,D4,hb4⟩;obtain⟨q0,q1,lb,lc⟩:=hb4.P.cells;have H4:=aa hb4;clear hb4 q2 q3 lb3 lc3;go_wp2_with fail;refine(H4.out.P.phase rfl rfl).mono ?_;rintro e w5 ⟨rfl,hs5⟩;have hb5:=H4.out.no hs5;obtain⟨q2,q3,lb5,lc5⟩:=hb5.P.cells;have H5:=aa hb5;clear hb5 hs5 q0 q1 lb lc;by_cases hk0:k=0
   ·have hq:=HQ.out.2.2;rw [if_pos hk0] at hq;simp only [Bool.and_eq_true,decide_eq_true_eq] at hq;obtain⟨p1,p2,hq⟩:=hq;obtain⟨s3,n3,e3,hq⟩:=Ea hq;simp only [Bool.and_eq_true,decide_eq_true_eq,List.isEmpty_iff] at hq;obtain⟨rfl,hbe⟩:=hq;subst hk0;rw [p1,p2];have HPu5:=aa (H5.out.push (f:=0) (p:=28) (k:=28) (o:=0) (cp:=28) (E1 2 4096) (Or.inl rfl) e3 rfl (by decide) (Nat.le_refl _) (by decide));have HE:=aa hbe;clear p1 p2 e3 hbe;go_wp2_with fail;refine HPu5.out.mono ?_;rintro e w6 ⟨rfl,D6,hb6⟩;obtain⟨q0,q1,lb,lc⟩:=hb6.P.cells;have HL:=aa hb6.P.len;rw [HE.out] at HL;have H6:=aa hb6;clear hb6 q2 q3 lb5 lc5;go_wp2_with fail;refine HL.out.mono ?_;rintro e w7 ⟨rfl,rfl⟩;go_wp2_with fail;refine(HK.out w6 (H1.out.1.tt H6.out.P.sm)).mono ?_;rintro e w8 ⟨rfl,hs8⟩;have H8:=aa ((H1.out.1.tt H6.out.P.sm).tt hs8);clear hs8;go_wp2_with fail;go_ret;exact⟨rfl,H8.out⟩
   ·have hk1:((k:Int)==0)=false:=by simp;omega
    have hq:=HQ.out.2.2;rw [if_neg hk0] at hq;obtain⟨s3,n3,e3,hq⟩:=Ea hq;simp only [Bool.and_eq_true,beq_iff_eq] at hq;obtain⟨⟨⟨z1,z2⟩,z3⟩,z4⟩:=hq;obtain⟨s4,e4,z4⟩:=Hu z4;have HZ:=aa (ab e3 (ab z1 (ab z2 (ab (I0 z3) (ab e4 z4)))));clear e3 z1 z2 z3 z4 e4 hq;obtain⟨ph,hph⟩:∃ x,s2.phase=x:=⟨_,rfl⟩;obtain⟨sn,hsn⟩:∃ x,s2.since=x:=⟨_,rfl⟩;rw [hph,hsn];clear hph hsn;go_upto_region 12 with fail;have C5:=aa (fun (W:World) (hs:Sm No w5 W)=>(H5.out.P.cellsN W hs).1);have m0:=C5.out w5 (Sm.refl No w5);have m1:=C5.out w5.drew (Sm.refl No w5).drew;have hol:∃ o,(if 28=k then some (⟨gA,0,none⟩:Addr) else some ⟨gA,k,none⟩)=some ⟨gA,o,none⟩∧(o=k∨28≤k):=by
     by_cases e:28=k
     ·exact⟨0,by rw [if_pos e],Or.inr (by omega)⟩
     ·exact⟨k,by rw [if_neg e],Or.inl rfl⟩
    obtain⟨o6,ho6,ho7⟩:=hol;have HPu6:=aa ((H5.out.no (Sm.refl No w5).drew).push (f:=k) (p:=28) (k:=28-k) (o:=o6) (cp:=28-k) (E1 2 4096) ho7 HZ.out.1 (by rw [List.length_drop,List.length_take,hlr];omega) (by omega) (Nat.le_refl _) (by omega));clear ho7
    go_region_held3 (fun w'=>w'.cell? ⟨b,0,none⟩=some (.pointer (some ⟨c,0,none⟩))) (first|exact m0|exact m1|exact m6)
     (first|(go_at_call 12;refine HPu6.out.mono ?_;rintro e w6 ⟨rfl,D6,hb6⟩;have m6:=hb6.P.cells.1;have H6:=aa hb6;clear hb6))
    all_goals
     obtain⟨q0,q1,lb,lc⟩:=H6.out.P.cells;clear q2 q3 lb5 lc5 m0 m1 ho6;go_upto_if 111 with fail
     go_cut [] from 111 to 117 (fun wx=>∃ D,Jy w1 wx D b c z IV s3 gA I4)
     case first=>
      by_cases hk28:k < 28
      ·have d28:decide ((k:Int) < 28)=true:=decide_eq_true (by omega);have he:s3.ending=true:=by rw [HZ.out.2.1];exact decide_eq_true hk28
       have HN:=aa (H6.out.P.pushNo (A:=A) (n:=nm) (cp:=cp) (now:=3) (by rw [he];rfl));go_wp2_with fail;refine HN.out.mono ?_;rintro e w7 ⟨rfl,hs7⟩;have H7:=aa (H6.out.no hs7);clear hs7;go_wp2_with fail;go_meet;exact⟨_,H7.out⟩
      ·have d28:decide ((k:Int) < 28)=false:=decide_eq_false (by omega);go_wp2_with fail;go_meet;exact⟨_,H6.out⟩
     case rest=>
      obtain⟨D7,hb7⟩:=hcut;have C7:=aa (fun (W:World) (hs:Sm No wc W)=>show W.cell? ⟨b,0,none⟩=some (.pointer (some ⟨c,0,none⟩))∧W.cell? ⟨c,0,none⟩=some (.pointer (some ⟨z.gq,0,none⟩)) from⟨(hb7.P.cellsN W hs).1,(hb7.P.cellsN W hs).2.1⟩);have l7:=hb7.P.cells.2.2;have HNx:=aa (fun (W:World) (hs:Sm No wc W)=>(hb7.P.no hs).next (n:=(s3.b.length:Int)) (T:=s3.b) HZ.out.2.2.2.1.b (by unfold pR;rw [List.take_of_length_le (by omega)]));have HLn:=aa (fun (W:World) (hs:Sm No wc W)=>(hb7.P.no hs).len);have H7:=aa hb7;have hnb0:0 < s3.b.length:=List.length_pos_iff.2 HZ.out.2.2.2.1.ne;have hnb1:=HZ.out.2.2.2.1.b;obtain⟨nb,hnb⟩:∃ x,s3.b.length=x:=⟨_,rfl⟩;rw [hnb] at HNx HLn hnb0 hnb1;have HNb:=aa hnb;clear hb7 q0 q1 lb lc hnb;go_wp2_with fail;have m0:=C7.out wc (Sm.refl No wc);have m1:=C7.out wc.drew (Sm.refl No wc).drew;have S1:Sm No wc wc.drew:=(Sm.refl No wc).drew;obtain⟨x0,x1⟩:=m0;obtain⟨y0,y1⟩:=m1;obtain⟨l8,l9, -⟩:=ab l7.1 (ab l7.2 trivial)
      go_region_law
       (first
        |(go_simp;go_at_call 15;refine(HLn.out wc.drew S1).mono ?_;rintro e w8 ⟨rfl,rfl⟩)
        |(go_simp;go_at_call 18;refine(HNx.out wc.drew S1).mono ?_;rintro e w9 ⟨A9,cp9,rfl,hR9,hc9,hs9⟩;obtain⟨u0,u1⟩:=C7.out w9 (S1.tt hs9);obtain⟨bb9,off9,rfl,hcv⟩:=JU (cp:=cp9) hR9 (by rw [HNb.out];exact hnb0);rw [HNb.out] at hcv;have S9:=aa (S1.tt hs9);clear hR9 hs9)
        |fail)
      all_goals
       go_upto_region 16 with fail;obtain⟨q,hq⟩:∃ x:ByteArray,(⟨s3.b.toArray⟩:ByteArray)=x:=⟨_,rfl⟩;rw [hq];have hqz:q.size=nb:=by rw [←hq,←HNb.out];exact List.size_toArray
       have hqt:q.data.toList=s3.b:=by rw [←hq]
       have H9:=aa (ab (H7.out.no S9.out) (ab hqz hqt));have z1:=H9.out.1.P.cells;clear x0 x1 y0 y1 u0 u1 l7 l8 l9 hcv hq;go_wp2_with fail
       go_loopw [11,12] (fun cv iv wr=>∃ (cb:Bool) (i j:Nat),cv=.bool cb∧iv=.int .i64 (i:Int)∧i+j=nb-16∧(cb||JQ s3.b j i)=JZ s3.b∧wr=w9) (fun _ iv _=>nb-(intOf iv).toNat)
       case atStart=>exact⟨false,0,nb-16,rfl,rfl,by omega,by unfold JZ;rw [HNb.out];rfl,rfl⟩
       case round=>
        obtain⟨cb,i,j,rfl,rfl,hij,hcb,rfl⟩:=hrel;have n1:IntKind.i64.wrap ((i:Int)+17)=((i+17:Nat):Int):=by rw [show (i:Int)+17=((i+17:Nat):Int) by omega];exact IntWalk.i64_in _ (by omega)
        obtain⟨i17,hi17⟩:∃ x,i+17=x:=⟨_,rfl⟩;rw [hi17] at n1;by_cases hlt:i17≤nb
        ·have d1:decide ((i17:Int)≤(nb:Int))=true:=decide_eq_true (by omega);have k2:(0:Int)≤(i:Int):=by omega
         have k3:(i:Int)≤(i17:Int):=by omega
         have k4:(i17:Int)≤(nb:Int):=by omega
         have hqz:=H9.out.2.1;have hex:((q.extract i i17).toList==Kl)=((s3.b.drop i).take 17==Kl):=by
          have e:(q.extract i i17).toList=(s3.b.drop i).take 17:=by
           have h:=bz q i i17;unfold af at h;rw [ByteArray.toList_eq,h,H9.out.2.2,←hi17,List.drop_take,Nat.add_sub_cancel_left]
          rw [e]
         unfold Kl at hex
         cases cb with
         |true=>
          go_wp2_with fail;exact⟨⟨true,i+1,j-1,rfl,by go_num,by omega,by rw [←hcb];simp,trivial⟩,by simp [intOf];omega⟩
         |false=>
          obtain⟨j,rfl⟩:∃ x,j=x+1:=⟨j-1,by omega⟩;go_wp2_with fail;exact⟨⟨_,i+1,j,rfl,by go_num,by omega,by rw [←hcb];simp [JQ,Kl],trivial⟩,by simp [intOf];omega⟩
        ·have d1:decide ((i17:Int)≤(nb:Int))=false:=decide_eq_false (by omega);have hj:j=0:=by omega
         subst hj;have hcc:cb=JZ s3.b:=by rw [←hcb];unfold JQ;simp
         rw [HZ.out.2.2.1] at hcc;obtain⟨v,hv⟩:∃ x,decide (k < 28)=x:=⟨_,rfl⟩;have d28:decide ((k:Int) < 28)=v:=by rw [←hv];by_cases e:k < 28<;>simp [e]<;>omega
         rw [hv] at hcc;subst hcc;have Cr:=aa (fun (W:World) (hs:Sm No wr W)=>show W.cell? ⟨b,0,none⟩=some (.pointer (some ⟨c,0,none⟩))∧W.cell? ⟨c,0,none⟩=some (.pointer (some ⟨z.gq,0,none⟩)) from⟨(H9.out.1.P.cellsN W hs).1,(H9.out.1.P.cellsN W hs).2.1⟩);have m0:=Cr.out wr (Sm.refl No wr);have S1:Sm No wr wr.drew:=(Sm.refl No wr).drew;have m1:=Cr.out wr.drew S1;have HLn:=aa ((H9.out.1.P.no S1).len);have HWr:=aa ((H9.out.1.no S1).goes ((H9.out.1.no S1).P.wrote (E1 2 4096) HZ.out.2.2.2.1 HZ.out.2.2.2.2.1));rw [HNb.out] at HLn HWr;have HV:=aa hv;clear z1 hcb hij hi17 hv;have hvv:(cb != cb)=false:=by cases cb<;>rfl
         go_upto_region 23 with fail
         go_region_held3 (fun w'=>w'.cell? ⟨b,0,none⟩=some (.pointer (some ⟨c,0,none⟩))∧w'.cell? ⟨c,0,none⟩=some (.pointer (some ⟨z.gq,0,none⟩))) (first|exact m0|exact m1|exact m10)
          (first
           |(go_at_call 15;refine HLn.out.mono ?_;rintro e w8 ⟨rfl,rfl⟩)
           |(go_at_call 20;refine HWr.out.mono ?_;rintro e w10 ⟨rfl,D10,hb10⟩;have m10:=ab hb10.P.cells.1 hb10.P.cells.2.1;have H10:=aa hb10;clear hb10))
         all_goals
          go_upto_if 173 with fail
          cases cb with
          |true=>
           have z5:=HZ.out.2.2.2.2.2;have hkk:k < 28:=of_decide_eq_true HV.out;rw [decide_eq_false (show ¬k=28 by omega),Bool.false_or] at z5;simp only [Bool.and_eq_true,decide_eq_true_eq] at z5;have H11:=aa (ab H10.out z5);clear hkk z5 m0 m1;obtain⟨q0,q1,lb,lc⟩:=H11.out.1.P.cells;go_wp2_with fail;refine(H11.out.1.P.phase H11.out.2.1 H11.out.2.2.1).mono ?_;rintro e w12 ⟨rfl,hs12⟩;have H12:=aa (H11.out.1.no hs12);clear q0 q1 lb lc hs12;obtain⟨q0,q1,lb,lc⟩:=H12.out.P.cells;go_wp2_with fail;refine(H12.out.P.count H11.out.2.2.2 rfl rfl).mono ?_;rintro e w13 ⟨rfl,hs13⟩;have H13:=aa (H12.out.no hs13);clear q0 q1 lb lc hs13;obtain⟨q0,q1,lb,lc⟩:=H13.out.P.cells;go_wp2_with fail;refine(H13.out.P.shut (r:=true) (decide_eq_true H11.out.2.1)).mono ?_;rintro e w14 ⟨rfl,hs14⟩;have H14:=aa (H1.out.1.tt (H13.out.P.sm.trans hs14 (fun _ _ e=>e)));clear hs14;go_wp2_with fail;refine(HK.out w14 H14.out).mono ?_;rintro e w15 ⟨rfl,hs15⟩;have H15:=aa (H14.out.tt hs15);clear hs15;go_wp2_with fail;go_ret;exact⟨rfl,H15.out⟩
          |false=>
           go_wp2_with fail;refine(HK.out _ (H1.out.1.tt H10.out.P.sm)).mono ?_;rintro e w15 ⟨rfl,hs15⟩;have H15:=aa ((H1.out.1.tt H10.out.P.sm).tt hs15);clear hs15;go_wp2_with fail;go_ret;exact⟨rfl,H15.out⟩
end Go.Proofs.YtadcjgopaadfjaaGreatDoor
