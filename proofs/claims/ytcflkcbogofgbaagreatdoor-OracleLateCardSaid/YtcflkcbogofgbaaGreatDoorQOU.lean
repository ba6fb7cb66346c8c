import Derived.Test.YtcflkcbogofgbaaGreatDoorQRQ
import Derived.Test.YtcflkcbogofgbaaGreatDoorQOS
import Derived.Test.YtcflkcbogofgbaaGreatDoorQGA
import Derived.Test.YtcflkcbogofgbaaGreatDoorQOT
import Derived.Test.YtcflkcbogofgbaaGreatDoorQOR
import Derived.Lib.SlBytesConst
set_option maxHeartbeats 16000000
set_option maxRecDepth 100000
namespace Go.Proofs.YtcflkcbogofgbaaGreatDoor
open Go.RowKit Go.Proofs
theorem nC(w:World)(A B:Option Addr)(c d:Nat)(l:List UInt8)(hA:ar w A (bC l))(hB:ar w B (bC l))(hl:l.length≤1000000):
 Calls Tryz.prog 15 #[.slice A l.length c,.slice B l.length d] w fun e w'=>e=.returned (.bool true)∧Sm No w w':=by
 have HA:=ns (BT hA hB);clear hA hB;go_in;go_wp2_with fail
 go_loopw [5] (fun i wr=>uJ w l.length i wr) (fun i _=>l.length-(intOf i).toNat)
 case atStart=>exact⟨0,Nat.zero_le _,rfl,Sm.refl _ _⟩
 case round=>
  obtain⟨k,hk,rfl,hs⟩:=hrel;have HS:=ns hs;clear hs;by_cases hlt:k < l.length
  ·have e1:(bC l)[k]?=some (.int .u8 (l[k].toNat:Int)):=by simp [bC,hlt]
   obtain⟨b1,o1,hA1,hb1,r0⟩:=(HA.out.1.no HS.out).at e1;obtain⟨b2,o2,hA2,hb2,r1⟩:=(HA.out.2.no HS.out).at e1;subst hA1 hA2;obtain⟨nm,hnm⟩:∃ x,(l[k].toNat:Int)=x:=⟨_,rfl⟩;rw [hnm] at r0 r1;have k1:(0:Int)≤(k:Int):=by omega
   have k2:(k:Int) < (l.length:Int):=by omega
   clear hnm e1;go_wp2_with fail;go_quiet (fail);go_wp2_with fail;exact⟨⟨k+1,by omega,by go_num,HS.out.drewN _⟩,by simp [intOf];omega⟩
  ·go_wp2_with fail;go_ret;exact⟨rfl,HS.out⟩
theorem D1{w:World}{A:Option Addr}{ms:List mL}{k:Nat}(h:ar w A (ms.map mL.cell))(hk:k < ms.length):∃ bb off,A=some ⟨bb,off,none⟩∧bb < w.heap.size∧w.cell? ⟨bb,off+k,none⟩=some (.slice ms[k].a ms[k].t.length ms[k].c):=
 h k _ (by rw [List.getElem?_map,List.getElem?_eq_getElem hk];rfl)
def iX(A:Option Addr)(n c:Nat):oa:=⟨4,4,2,4,50,20,30,40,10,0,0,2,16,false,false,A,n,c⟩
theorem my(w:World)(A:Option Addr)(n c:Nat):
 Calls Tryz.prog 7 #[.slice A n c] w fun e w'=>e=.returned (.agg (iX A n c).vals)∧Sm No w w':=by
 have HS:=ns (((Sm.refl No w).alloc (.cells (iX A n c).vals 25)));go_in;go_wp2_with fail;exact bodyPost_ret (xa Tryz.results7 _ w.heap.size rfl (Bk.new w _ _) Tryz.underlying25 js rfl) rfl ⟨rfl,HS.out⟩
theorem ar.pre{w:World}{A:Option Addr}{a b:List Value}(h:ar w A (a++b)):ar w A a:=fun j u hj=>h j u (by
 rw [List.getElem?_append_left (List.getElem?_eq_some_iff.1 hj).1];exact hj)
theorem oY:dJ []=0:=by decide+kernel
def G5:af:=[72,84,84,80,47,49,46,49,32,52,48,48]
theorem F8:∃ r,uN 400=G5++(32::r):=by
 obtain⟨_,r,e⟩:=Db (c:=400) (by decide+kernel);refine⟨r,?_⟩;rw [e,show tS 400=[52,48,48] from by decide+kernel];rfl
theorem Gi:(iW [] false EE).length=2∧(iW [] false EE)[1]?=some (uN 400)∧gc EE=true:=by
 obtain⟨h1,h2,h3⟩:=EM;refine⟨?_,?_,?_⟩
 ·unfold iW tC;rw [if_pos h2,List.length_append,List.length_map,h1];rfl
 ·unfold iW tC;rw [if_pos h2,h3,List.getElem?_append_right (by rw [List.length_map,h1];exact Nat.le_refl _),List.length_map,h1];rfl
 ·unfold gc;rw [h2];rfl
theorem qt(w:World)(C:Array Value)(t:TypeId)(fz:Nat × Nat):ar (w.alloc (.cells C t fz)) (some ⟨w.heap.size,0,none⟩) C.toList:=by
 intro j u hj;refine⟨w.heap.size,0,rfl,by simp,?_⟩;rw [Nat.zero_add];exact(cell_of_row _ w.heap.size j C t fz (heap_alloc_new w _)).trans (by simpa using hj)
def IR:Array Value:=(bC EE).toArray
theorem uh(w:World)(hg:G1 w):Calls Tryz.prog 11 #[] w fun e w'=>e=.returned (.bool true)∧Sm No w w':=by
 have HP:=ns (my w none 0 0);have HAn:=ns (fun (W:World) (h:Sm No w W) (b:Nat) (hr:ar W (some ⟨b,0,none⟩) (bC EE))=>show Calls Tryz.prog 8 #[.agg (iX none 0 0).vals,.slice (some ⟨b,0,none⟩) 35 35] W (mW W [] EE) from
  li W (hg.no h) (iX none 0 0) rfl [] rfl (ar.nil _ _) (fun _=>⟨rfl,rfl⟩) (by decide) (fun x hx=>by cases hx) oY (fun x hx=>by cases hx) (some ⟨b,0,none⟩) 35 EE hr (fun e=>by cases e) (by decide) (by decide) (by decide))
 clear hg;have kc:=fun (w:World) (C:Array Value) (n c:Nat)=>Lib.run_convert_bytes_const (P:=Tryz.prog) w 22 5 C n c Tryz.underlying22 Tryz.underlying5;go_in;go_wp2_with fail;refine HP.out.mono ?_;rintro e w1 ⟨rfl,hs1⟩;have H1:=ns hs1;clear hs1;go_wp2_with fail;have h2:=H1.out.alloc (.cells IR 5 (35,36));refine(HAn.out _ h2 _ (qt w1 IR 5 (35,36))).mono ?_;rintro e w3 ⟨v,ms,R,rfl,hmt,hrows, -,hs3⟩;obtain⟨e1,e2,e3⟩:=Gi;rw [e3];have hml:ms.length=2:=by have:=congrArg List.length hmt;rw [List.length_map,e1] at this;exact this
 obtain⟨A',c',rfl,hrow, -⟩:=ak hrows.own;have hm1:1 < ms.length:=by omega
 obtain⟨bb,off,rfl,hbb,r1⟩:=D1 hrow hm1;have ht1:ms[1].t=uN 400:=by
  have:=congrArg (·[1]?) hmt;simp only [List.getElem?_map,List.getElem?_eq_getElem hm1,Option.map_some,e2,Option.some.injEq] at this;exact this
 have hmi:=hrows.ok _ (List.getElem_mem hm1);obtain⟨a1,ha1⟩:∃ a,ms[1].a=a:=⟨_,rfl⟩;obtain⟨n1,hn1⟩:∃ a,ms[1].t.length=a:=⟨_,rfl⟩;obtain⟨c1,hc1⟩:∃ a,ms[1].c=a:=⟨_,rfl⟩;obtain⟨rest,hre⟩:=F8;have hr1:=hmi.r;rw [ht1,hre,ky] at hr1;rw [ha1] at hr1 r1;obtain⟨b1,o1,rfl, -, -⟩:=hr1.pre.at (j:=0) rfl;have hle:=hmi.le;rw [hn1,hc1] at hle r1;have hn12:12 < n1:=by rw [←hn1,ht1,hre,List.length_append,List.length_cons];show 12 < 12+_;omega
 rw [hml];have H3:=ns (BT (h2.tt hs3) hr1.pre);have j1:(12:Int) < (n1:Int):=by omega
 have j2:(12:Int)≤(n1:Int):=by omega
 have j3:(12:Int)≤(c1:Int):=by omega
 have j4:¬c1=12:=by omega
 clear h2 hmt hrows hs3 e1 e2 e3 hml hrow hm1 ht1 hmi ha1 hn1 hc1 hre hr1 hle;go_wp2_with fail;refine(nC _ (some ⟨b1,o1,none⟩) (some ⟨w3.heap.size,0,none⟩) c1 12 G5 (H3.out.2.no ((Sm.refl No w3).alloc _)) (qt w3 (bC G5).toArray 5 (12,13)) (by decide)).mono ?_;rintro e w4 ⟨rfl,hs4⟩;have H4:=ns ((H3.out.1.alloc _).tt hs4);clear hs4;go_wp2_with fail;go_ret;exact⟨rfl,H4.out⟩
end Go.Proofs.YtcflkcbogofgbaaGreatDoor
