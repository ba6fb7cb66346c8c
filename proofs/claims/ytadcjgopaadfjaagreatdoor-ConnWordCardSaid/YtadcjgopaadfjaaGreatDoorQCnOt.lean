import Derived.Test.YtadcjgopaadfjaaGreatDoorQCG
import Derived.Test.YtadcjgopaadfjaaGreatDoorQE
import Derived.Test.YtadcjgopaadfjaaGreatDoorQG
import Derived.Test.YtadcjgopaadfjaaGreatDoorQD
set_option maxHeartbeats 32000000
set_option maxRecDepth 100000
namespace Go.Proofs.YtadcjgopaadfjaaGreatDoor
open Go.RowKit Go.Proofs
theorem By.rowC{w:World}{g:Nat}{l:ah}(h:By w g l):ax w (some ⟨g,0,none⟩) (aL l):=fun j u hj=>by
 unfold aL at hj;rw [List.getElem?_map] at hj
 cases e:l[j]? with
 |none=>rw [e] at hj;cases hj
 |some c=>
  rw [e] at hj;injection hj with hj;subst hj;exact⟨g,0,rfl,h.1,by rw [Nat.zero_add];exact h.at e⟩
structure Kj (n:Nat) (s1 s3:Cn) (m:Nat):Prop where
 e1:rM IV (Cn.new 0) (IX n) 0=some (s1,m)
 b1:s1.b=ic
 f1:IR s1
 e3:Ie IV s1 25 1=some s3
 l3:J1 n s3=true
 r3:s3.r=[]
 b3:s3.b=[]
 ps:s3.ps=[]
 la:s3.last≤1000
 ph:s3.phase=2
 sn:s3.since=1
 fa: -1000000≤s3.fed
 fb:s3.fed≤1000000
 q:s3.quitting=false
 en:s3.ending=false
 ed:s3.ended=false
 cl:s3.closed=false
 tk:s3.taken=0
 ld:s3.laid=0
 wh:s3.whole=0
theorem J0(n:Nat)(h:1≤n∧n≤200):∃ s1 s3,Kj n s1 s3 (IX n).length:=by
 have h1:=JM;rw [List.all_eq_true] at h1;have h2:=h1 (n-1) (by rw [List.mem_range];omega);rw [show n-1+1=n by omega] at h2;unfold J2 at h2;obtain⟨s1,m,e,h3⟩:=Ea h2;simp only [Bool.and_eq_true,decide_eq_true_eq,beq_iff_eq] at h3;obtain⟨rfl,g1,g2,g3⟩:=h3;obtain⟨s3,e3,g4⟩:=Hu g3;simp only [Bool.and_eq_true,decide_eq_true_eq,List.isEmpty_iff,Bool.not_eq_true'] at g4;obtain⟨a1,a2,a3,a4,a5,a6,a7,a8,a9,b1,b2,b3,b4,b5,b6,b7⟩:=g4;exact⟨s1,s3,e,g1,I0 g2,e3,a1,a2,a3,a4,a5,a6,a7,a8,a9,b1,b2,b3,b4,b5,b6,b7⟩
theorem Jz(a b:ByteArray):af (a++b)=af a++af b:=by unfold af;rw [ByteArray.data_append,Array.toList_append]
theorem IZ {P:Program} {ops:Array Oper} {rest:List Oper} {o:Oper} {a:Act} {w:World} {Q:Exit→Act→World→Prop} (hgd:o.guard=none) (src dst e:TypeId) (x:Operand) (ho:o.op=.convert src dst x) (s:ByteArray) (hsz:s.size≤maxLen) (hx:a.eval x=.string s)
 (hs:P.underlying src=some .string) (hd:P.underlying dst=some (.slice e)) (he:P.underlying e=some (.int .u8))
 (h:∀ (cap:Nat) w',By w' w.heap.size s.data.toList→s.size≤cap→cap≤maxLen→Sm No w w'→w'.heap.size=w.heap.size+1→wpList P ops Q rest (a.put o.dst (.slice (some ⟨w.heap.size,0,none⟩) s.size cap)) w'):wpList P ops Q (o::rest) a w:=by
 refine wpList_plain hgd fun _ hK=> ?_;unfold Oper.wp execOp;simp only [ho,hx,Sem.run_bind,Sem.run_pure,run_bytes_of_string w src dst e s hs hd he,Result.andThen_ok];refine hK _ _ (h _ _ ⟨by simp,fun j c hj=>⟨?_,?_⟩⟩ ?_ (grownCap_le_maxLen w s.size 0 e hsz) ?_ (by simp))
 ·have hj':j < s.data.size:=by
   have:=List.getElem?_eq_some_iff.mp hj;simpa using this.1
  refine(World.cell?_alloc_mark w.drew _ e _ j).trans ?_;rw [bytesRow_at s _ j hj'];have:s.data[j]=c:=by
   have:=(List.getElem?_eq_some_iff.mp hj).2;simpa using this
  rw [this]
 ·have hj':j < s.data.size:=by
   have:=List.getElem?_eq_some_iff.mp hj;simpa using this.1
  refine(World.frozen?_alloc_mark w.drew _ e _ _ j).trans ?_;have:¬(bytesRow s (grownCap w s.size 0 e)).size≤j:=by
   have hsz:s.size=s.data.size:=rfl;simp only [bytesRow,Array.size_append,Array.size_map,Array.size_replicate];omega
  simp [this]
 ·exact grownCap_ge w s.size 0 e
 ·exact((Sm.refl No w).drew).alloc _
theorem Kp{w:World}{g:Nat}{q:ByteArray}{n:Nat}{dn:ByteArray}(h:af dn=Lib.itoa (n:Int))(hb:By w g (q++dn++⟨#[13,10,13,10]⟩).data.toList)(hq:af q=Jn):By w g (IX n)∧(q++dn++⟨#[13,10,13,10]⟩).size=(IX n).length:=by
 have e:af (q++dn++⟨#[13,10,13,10]⟩)=IX n:=by
  rw [Jz,Jz,h,hq];unfold IX;rw [List.append_assoc];rfl
 have hb2:By w g (af (q++dn++⟨#[13,10,13,10]⟩)):=hb;rw [e] at hb2;exact⟨hb2,by rw [←e];exact(ag _).symm⟩
theorem I1(n:Nat)(h:n≤200):(Lib.itoa (n:Int)).length≤20:=by
 have h1:(List.range 201).all (fun n=>decide ((Lib.itoa (n:Int)).length≤20))=true:=by decide+kernel
 rw [List.all_eq_true] at h1;exact of_decide_eq_true (h1 n (by rw [List.mem_range];omega))
theorem Jq(w:World)(hg:G1 w)(A:Option Addr)(body:List UInt8)(cp:Nat)(hB:zS w A body cp):
 Calls Tryz.prog 4 #[.slice A body.length cp] w fun e w'=>e=.returned (.bool true)∧Sm No w w':=by
 have HK:=aa (fun (W:World) (h:Sm No w W)=>ue W (hg.no h));have kc:=fun (w:World) (C:Array Value) (n c:Nat)=>Lib.run_convert_bytes_const (P:=Tryz.prog) w 34 5 C n c Tryz.underlying34 Tryz.underlying5;obtain⟨n,hn⟩:∃ x,body.length=x:=⟨_,rfl⟩;rw [hn];have hfin:n < 1∨(1≤n∧200 < n)∨(1≤n∧n≤200):=by omega
 rcases hfin with h1|⟨h1,h2⟩|⟨h1,h2⟩
 iterate 2
  ·clear hg hB hn;have d1:decide ((n:Int) < 1)=decide (n < 1):=by by_cases e:n < 1<;>simp [e]<;>omega
   go_in;go_wp2_with (first|(go_at_call 9;refine(HK.out _ (Sm.refl No w)).mono ?_;rintro e w1 ⟨rfl,hs1⟩;have H1:=aa hs1;clear hs1));go_ret;exact⟨rfl,H1.out⟩
 ·have HP:=aa (fun (W:World)=>lF W);have HSt:=aa (fun (W:World) (h:Sm No w W)=>ud W (hg.no h) 2 4096 (by decide) (by decide) (by decide));have HDec:=aa (fun (W:World)=>JO W (n:Int) (by omega) (by omega));obtain⟨s1,s3,hR⟩:=J0 n ⟨h1,h2⟩;obtain⟨hd,s4,hw0,hpu,h41,h42,h43,h44⟩:=JI ⟨h1,h2⟩ hn hR.l3 hR.r3 hR.b3 hR.ps hR.la hR.fa hR.fb hR.q hR.en hR.ed hR.cl hR.tk hR.ld hR.wh;have HR:=aa (ab hR (ab hw0 (ab hpu (ab h41 (ab h42 (ab h43 h44))))));have HB:=aa (ab hB hn);have hit:=I1 n h2;obtain⟨dn,hdn⟩:∃ x:ByteArray,(⟨(Lib.itoa (n:Int)).toArray⟩:ByteArray)=x:=⟨_,rfl⟩;have hdz:dn.size≤20:=by rw [←hdn];exact hit
  have hdt:af dn=Lib.itoa (n:Int):=by rw [←hdn];rfl
  have HDn:=aa hdt;unfold aP at HDec;rw [hdn] at HDec;have d1:decide ((n:Int) < 1)=false:=decide_eq_false (by omega);have d2:decide (200 < (n:Int))=false:=decide_eq_false (by omega);clear hg hB hn hR hw0 hpu h41 h42 h43 h44 hit hdn hdt;go_in;go_wp2_with fail;refine(HP.out w).mono ?_;rintro e w1 ⟨rfl,hs1⟩;have H1:=aa hs1;clear hs1;go_wp2_with fail;refine(HSt.out w1 H1.out).mono ?_;rintro e w2 ⟨b,c,z,D,x,rfl,hI,hBk,hN,hs2⟩;have hb:eG w1 w2 D b c z IV (Cn.new 0):=⟨hI,⟨_,hBk⟩,hN⟩;obtain⟨q0,q1,lb,lc⟩:=hb.cells;have H2:=aa hb;clear hI hBk hN hs2 hb d1 d2;go_wp2_with fail;refine(HDec.out w2).mono ?_;rintro e w3 ⟨rfl,hs3⟩;have H3:=aa (H2.out.no hs3);clear hs3 q0 q1 lb lc;have HBs:=aa (fun (W:World) (hs:Sm No w3 W)=>H3.out.no hs);go_wp2_with (first|(refine IZ rfl 9 34 5 _ rfl _ ?_ rfl Tryz.underlying9 Tryz.underlying34 Tryz.underlying5 fun cap4 w4 hb4 hcap4 hcm4 hs4 hz4=> ?_;(rw [ByteArray.size_append,ByteArray.size_append];show 68+dn.size+4≤9223372036854775807;omega);refine RowKit.Hid.out ?_));refine aa ?_;obtain⟨hw4,hwl⟩:=Kp HDn.out hb4 (by decide+kernel);obtain⟨wl,hwl2⟩:∃ x,(IX n).length=x:=⟨_,rfl⟩;rw [hwl2] at hwl;rw [hwl] at hcap4;have hwl3:68+dn.size+4=wl:=by rw [←hwl,ByteArray.size_append,ByteArray.size_append];rfl
  rw [hwl3];clear hwl3;have hRw:ax w4 (some ⟨w3.heap.size,0,none⟩) (aL (IX n)):=hw4.rowC;have hgn:¬ck D w3.heap.size:=fun ⟨k,e⟩=>by have:=H3.out.I.reg.lt k _ e;omega
  have hwlb:wl≤200:=by
   rw [←hwl2];unfold IX;rw [List.length_append,List.length_append,show Jn.length=68 from rfl];have:=I1 n (by omega);simp;omega
  have HPu4:=aa ((H3.out.no hs4).push (E1 2 4096) HR.out.1.e1 hRw hgn (by omega) (cp:=cap4) (by omega) (show cap4≤9223372036854775807 from hcm4));rw [hwl2] at HPu4;have H4:=aa (H3.out.no hs4);obtain⟨q0,q1,lb,lc⟩:=H4.out.cells;clear hb4 hcap4 hcm4 hs4 hz4 hw4 hwl hwl2 hRw hgn;go_wp2_with fail;refine HPu4.out.mono ?_;rintro e w5 ⟨rfl,D5,hb5, -⟩;have H5:=aa hb5;clear hb5 q0 q1 lb lc;go_upto_region 8 with fail;have C5:=aa (fun (W:World) (hs:Sm No w5 W)=>show W.cell? ⟨b,0,none⟩=some (.pointer (some ⟨c,0,none⟩))∧W.cell? ⟨c,0,none⟩=some (.pointer (some ⟨z.gq,0,none⟩)) from⟨(H5.out.cellsN W hs).1,(H5.out.cellsN W hs).2.1⟩);have S5:Sm No w5 w5.drew:=(Sm.refl No w5).drew;have m0:=C5.out w5 (Sm.refl No w5);have m1:=C5.out w5.drew S5;have HLn:=aa (H5.out.no S5).len;have HNx:=aa ((H5.out.no S5).next HR.out.1.f1.b (n:=25) (T:=ic) (by rw [HR.out.1.b1];rfl));rw [HR.out.1.b1] at HLn
  go_region_held3 (fun w'=>w'.cell? ⟨b,0,none⟩=some (.pointer (some ⟨c,0,none⟩))∧w'.cell? ⟨c,0,none⟩=some (.pointer (some ⟨z.gq,0,none⟩))) (first|exact m0|exact m1|exact m6)
   (first
    |(go_at_call 15;refine HLn.out.mono ?_;rintro e w6 ⟨rfl,rfl⟩)
    |(go_at_call 18;refine HNx.out.mono ?_;rintro e w6 ⟨A6,c6,rfl,hR6,hc6,hs6⟩;have m6:=C5.out w6 (S5.tt hs6);have H6:=aa (ab hR6 (H5.out.no (S5.tt hs6)));clear hR6 hs6 hc6))
  all_goals
   go_wp2_with fail;refine(wC _ A6 (some ⟨w6.heap.size,0,none⟩) c6 25 ic (H6.out.1.no ((Sm.refl No w6).alloc _)) (oJ w6 (aL ic).toArray 5 (25,26)) (by decide)).mono ?_;rintro e w7 ⟨rfl,hs7⟩;have H7:=aa (H6.out.2.no (((Sm.refl No w6).alloc _).tt hs7));clear hs7 m0 m1 m6;obtain⟨q0,q1,lb,lc⟩:=H7.out.cells;go_wp2_with fail;refine(H7.out.wrote (E1 2 4096) HR.out.1.f1 HR.out.1.e3).mono ?_;rintro e w8 ⟨rfl,D8,hb8, -⟩;have H8:=aa hb8;clear hb8 q0 q1 lb lc;obtain⟨q0,q1,lb,lc⟩:=H8.out.cells;go_wp2_with fail;refine(H8.out.phase HR.out.1.ph HR.out.1.sn).mono ?_;rintro e w9 ⟨rfl,hs9⟩;have H9:=aa (H8.out.no hs9);clear hs9 q0 q1 lb lc;obtain⟨q0,q1,lb,lc⟩:=H9.out.cells;go_wp2_with fail;refine(H9.out.count HR.out.1.tk HR.out.1.ld HR.out.1.wh).mono ?_;rintro e w10 ⟨rfl,hs10⟩;have H10:=aa (H9.out.no hs10);clear hs10 q0 q1 lb lc;obtain⟨q0,q1,lb,lc⟩:=H10.out.cells;have HL10:=aa H10.out.len;rw [HR.out.1.b3] at HL10;go_wp2_with fail;refine HL10.out.mono ?_;rintro e w11 ⟨rfl,rfl⟩;have hb0:0 < body.length:=by rw [HB.out.2];exact h1
   obtain⟨bb,off,hA,hbb, -⟩:=HB.out.1.1 0 _ (show (aL body)[0]?=some (.int .u8 (body[0].toNat:Int)) by simp [aL,hb0]);subst hA;have HPb:=aa (H10.out.push (E1 2 4096) HR.out.2.2.1 (HB.out.1.1.no (H1.out.tt H10.out.sm)) (fun ⟨k,e⟩=>by have h5:=H10.out.I.reg.ge k bb e;have h6:=H1.out.size;omega) (by rw [HB.out.2];omega) HB.out.1.2.1 (Nat.le_trans HB.out.1.2.2.1 (by decide)));rw [HB.out.2] at HPb;clear hb0;go_wp2_with fail;refine HPb.out.mono ?_;rintro e w12 ⟨rfl,D12,hb12, -⟩;have H12:=aa hb12;clear hb12 q0 q1 lb lc;go_upto_region 17 with fail;obtain⟨hl,hhl⟩:∃ x,(IU hd n).length=x:=⟨_,rfl⟩;obtain⟨nq,hnq⟩:∃ x,s4.b.length=x:=⟨_,rfl⟩;have hnq2:nq=hl+n:=by rw [←hnq,HR.out.2.2.2.2.2.2,List.length_append,hhl,HB.out.2]
   have hwo:=I6 HR.out.2.1;have hl15:15≤hl:=by
    have e:=congrArg List.length hwo.2.2.2.2.2.2.1;rw [List.length_take,hhl,show B1.length=15 from rfl] at e;omega
   have hlb:hl≤1000:=by rw [←hhl];exact hwo.2.2.2.2.2.2.2
   have C12:=aa (fun (W:World) (hs:Sm No w12 W)=>show W.cell? ⟨b,0,none⟩=some (.pointer (some ⟨c,0,none⟩))∧W.cell? ⟨c,0,none⟩=some (.pointer (some ⟨z.gq,0,none⟩)) from⟨(H12.out.cellsN W hs).1,(H12.out.cellsN W hs).2.1⟩);have S12:Sm No w12 w12.drew:=(Sm.refl No w12).drew;have m0:=C12.out w12 (Sm.refl No w12);have m1:=C12.out w12.drew S12;have HLn:=aa (H12.out.no S12).len;have HNx:=aa ((H12.out.no S12).next (n:=(nq:Int)) (T:=s4.b) (by omega) (by unfold pR;rw [hnq,List.take_of_length_le (by rw [hnq];omega)]));rw [hnq] at HLn HNx;have HF:=aa (ab hhl (ab hnq (ab hwo.2.2.2.2.2.2.1 hnq2)));clear hhl hnq hwo hnq2
   go_region_held3 (fun w'=>w'.cell? ⟨b,0,none⟩=some (.pointer (some ⟨c,0,none⟩))∧w'.cell? ⟨c,0,none⟩=some (.pointer (some ⟨z.gq,0,none⟩))) (first|exact m0|exact m1|exact m14)
    (first
     |(go_at_call 15;refine HLn.out.mono ?_;rintro e w13 ⟨rfl,rfl⟩)
     |(go_at_call 18;refine HNx.out.mono ?_;rintro e w14 ⟨A14,c14,rfl,hR14,hc14,hs14⟩;have m14:=C12.out w14 (S12.tt hs14);have H14:=aa (ab hR14 (ab (H12.out.no (S12.tt hs14)) hc14));clear hR14 hs14))
   all_goals
    have hq0:0 < s4.b.length:=by rw [HF.out.2.1,HF.out.2.2.2];omega
    obtain⟨b9,o9,hA, -, -⟩:=H14.out.1 0 _ (show (aL s4.b)[0]?=some (.int .u8 (s4.b[0].toNat:Int)) by simp [aL,hq0]);subst hA;have hcn:nq≤c14:=H14.out.2.2;have hdr:(IU hd n++body).drop hl=body:=by rw [←HF.out.1,List.drop_left]
    have hsub:∀ W,Sm No w14 W→ax W (some ⟨b9,o9+hl,none⟩) (aL body)∧ax W (some ⟨b9,o9,none⟩) (aL B1)∧ax W (some ⟨bb,off,none⟩) (aL body):=fun W hs=>by
     have hr:=H14.out.1.no hs;refine⟨?_,?_,HB.out.1.1.no ((H1.out.tt H14.out.2.1.sm).tt hs)⟩
     ·have h5:=I3 (f:=hl) (p:=nq) hr
      rwa [List.take_of_length_le (by rw [HF.out.2.1];exact Nat.le_refl _),HR.out.2.2.2.2.2.2,hdr] at h5
     ·have h5:=I3 (f:=0) (p:=15) hr;rw [List.drop_zero,HR.out.2.2.2.2.2.2,List.take_append_of_le_length (by rw [HF.out.1];omega),HF.out.2.2.1] at h5;exact h5
    have HSb:=aa hsub;have HSa:=aa (fun (W:World) (hs:Sm No w14 W)=>wC W (some ⟨b9,o9+hl,none⟩) (some ⟨bb,off,none⟩) (c14-hl) cp body (HSb.out W hs).1 (HSb.out W hs).2.2 (by rw [HB.out.2];omega));rw [HB.out.2] at HSa;have hnq2:=HF.out.2.2.2;have n1:IntKind.i64.wrap ((nq:Int)-(n:Int))=(hl:Int):=by rw [show (nq:Int)-(n:Int)=(hl:Int) by omega];exact IntWalk.i64_in _ (by omega)
    have n2:nq-hl=n:=by omega
    have n3:¬c14=hl:=by omega
    have n4:(0:Int)≤(hl:Int):=by omega
    have n5:(hl:Int)≤(nq:Int):=by omega
    have n6:(n:Int) < (nq:Int):=by omega
    have n7:(nq:Int)≤(c14:Int):=by omega
    have n8:(15:Int)≤(c14:Int):=by omega
    have n9:15≤c14:=by omega
    clear hq0 hsub m0 m1 m14 hc14 hnq2 hdr;obtain⟨q0,q1,lb,lc⟩:=H14.out.2.1.cells;go_wp2_with fail;refine(H14.out.2.1.count HR.out.2.2.2.1 HR.out.2.2.2.2.1 HR.out.2.2.2.2.2.1).mono ?_;rintro e w15 ⟨rfl,hs15⟩;have H15:=aa (ab hs15 (H14.out.2.1.no hs15));clear hs15 q0 q1 lb lc;go_wp2_with fail;refine(HSa.out w15 H15.out.1).mono ?_;rintro e w16 ⟨rfl,hs16⟩;have H16:=aa (ab (H15.out.1.tt hs16) (H15.out.2.no hs16));clear hs16;go_wp2_with fail;refine(wC _ (some ⟨b9,o9,none⟩) (some ⟨w16.heap.size,0,none⟩) c14 15 B1 ((HSb.out w16 H16.out.1).2.1.no ((Sm.refl No w16).alloc _)) (oJ w16 (aL B1).toArray 5 (15,16)) (by decide)).mono ?_;rintro e w17 ⟨rfl,hs17⟩;have H17:=aa (H1.out.tt ((H16.out.2.sm.trans ((Sm.refl No w16).alloc _) (fun _ _ e=>e)).trans hs17 (fun _ _ e=>e)));clear hs17;go_wp2_with fail;refine(HK.out w17 H17.out).mono ?_;rintro e w18 ⟨rfl,hs18⟩;have H18:=aa (H17.out.tt hs18);clear hs18;go_wp2_with fail;go_ret;exact⟨rfl,H18.out⟩
end Go.Proofs.YtadcjgopaadfjaaGreatDoor
