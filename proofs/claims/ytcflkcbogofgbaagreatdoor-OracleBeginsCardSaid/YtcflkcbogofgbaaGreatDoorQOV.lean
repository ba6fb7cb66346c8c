import Derived.Laws.BitsLemmas
import Derived.WalkKit
import Derived.Test.YtcflkcbogofgbaaGreatDoorQOU
import Derived.Test.YtcflkcbogofgbaaGreatDoorQOR
import Derived.Test.YtcflkcbogofgbaaGreatDoorQSpcB
import Derived.Test.YtcflkcbogofgbaaGreatDoorQG
set_option maxHeartbeats 32000000
set_option maxRecDepth 100000
namespace Go.Proofs.YtcflkcbogofgbaaGreatDoor
open Go.Proofs
theorem Ga(x:Int)(m:Nat)(hm:m < 4611686018427387904):∃ k:Nat,k≤m∧bits .and .i64 x m=k:=by
 have h1:(BitVec.ofInt 64 x&&& BitVec.ofInt 64 (m:Int)).toNat≤m:=by
  rw [BitVec.toNat_and];refine Nat.le_trans Nat.and_le_right ?_;simp;omega
 refine⟨(BitVec.ofInt 64 x&&& BitVec.ofInt 64 (m:Int)).toNat,h1,?_⟩;show IntKind.i64.wrap _=_;rw [IntKind.wrap_i64];have:(((BitVec.ofInt 64 x&&& BitVec.ofInt 64 (m:Int)).toNat:Nat):Int)≤m:=by exact_mod_cast h1
 show ((((BitVec.ofInt 64 x&&& BitVec.ofInt 64 (m:Int)).toNat:Nat):Int)+9223372036854775808) % 18446744073709551616-9223372036854775808=_;omega
end Go.Proofs.YtcflkcbogofgbaaGreatDoor
namespace Go.Proofs.YtcflkcbogofgbaaGreatDoor
open Go.RowKit Go.Proofs
theorem gx:(iX none 0 0).vals=#[.int .i64 4,.int .i64 4,.int .i64 2,.int .i64 4,.int .i64 50,.int .i64 20,.int .i64 30,.int .i64 40,.int .i64 10,.int .i64 0,.int .i64 0,.int .i64 2,.int .i64 16,.bool false,.bool false,.slice none 0 0]:=rfl
theorem Di(T:List bE)(q:Bool)(t:af):(iW T q t).length≤t.length+1:=by
 unfold iW tC;have:=oq t;split<;>simp<;>omega
theorem wU(T:List bE)(q:Bool)(t:af)(hT:dJ T=0):∀ a∈iW T q t,a.length≤1000000:=by
 intro a ha;unfold iW at ha;have key:∀ (r:gA) (hd cl:Bool) (mi:Int),iP r→(gQ r hd mi cl).length≤1000000:=fun r hd cl mi hn=>by
  have h:=hn.enc hd cl mi;rcases Nat.lt_or_ge 65536 (gQ r hd mi cl).length with h2|h2
  ·rw [Dw hn.may h2] at h;cases h
  ·omega
 rcases List.mem_append.1 ha with ha|ha
 ·obtain⟨x,hx,rfl⟩:=List.mem_map.1 ha;exact key _ _ _ _ (qE hT ((sC t).1 x hx))
 ·unfold tC at ha;split at ha
  ·rename_i hp
   rw [List.mem_singleton] at ha;subst ha;have h4:om (ap t).2.2≠0:=fun e=>kV.1 e hp;have h5:=rL h4;rw [h5.2.2];exact key _ _ _ _ (ee (yD _ h5.1) (by decide) (fun x hx=>by cases hx))
  ·cases ha
theorem sN{w:World}{A:Option Addr}{l:af}(h:ar w A (l.map aM))(k:Nat):ar w A ((l.take k).map aM):=by
 intro j u hj;rw [List.map_take,List.getElem?_take] at hj;split at hj
 ·exact h j u hj
 ·cases hj
theorem Dm{w:World}{A:Option Addr}{l:List Value}(h:ar w A l)(k:Nat):ar w A (l.take k):=by
 intro j u hj;rw [List.getElem?_take] at hj;split at hj
 ·exact h j u hj
 ·cases hj
theorem rg(w:World)(hg:G1 w)(A:Option Addr)(b:List UInt8)(c:Nat)(z:Int)(hB:AP w A b c)(_hz:(Lit.int .i64 z).wf=true):
 Calls Tryz.prog 3 #[.slice A b.length c,.int .i64 z] w fun e w'=>e=.returned (.bool true)∧Sm No w w':=by
 have hbl:(b.length:Int)≤140737488351232:=by have:=hB.2.1;have:=hB.2.2.1;omega
 by_cases hbig:4000 < b.length
 ·have i1:(4000:Int) < (b.length:Int):=by omega
  clear hB hg;go_in;go_wp2_with fail;go_ret;exact⟨rfl,Sm.refl _ _⟩
 ·have i1:¬(4000:Int) < (b.length:Int):=by omega
  have HP:=Lib.hid (my w none 0 0);have HK:=Lib.hid (fun (W:World) (h:Sm No w W)=>uh W (hg.no h));have HAn:=Lib.hid (fun (W:World) (h:Sm No w W) (k:Nat) (hk:k≤b.length)=>show Calls Tryz.prog 8 #[.agg (iX none 0 0).vals,.slice A k c] W (mW W [] (b.take k)) from by
   have e:=li W (hg.no h) (iX none 0 0) rfl [] rfl (ar.nil _ _) (fun _=>⟨rfl,rfl⟩) (by decide) (fun x hx=>by cases hx) oY (fun x hx=>by cases hx) A c (b.take k) (sN (hB.1.no h) k) (fun e=>by have h1:=hB.2.2.2 e;have h2:=hB.2.1;rw [List.length_take];omega) (by rw [List.length_take];have:=hB.2.1;omega) (by rw [List.length_take];omega) hB.2.2.1
   rwa [List.length_take,Nat.min_eq_left hk] at e)
  have HRd:=Lib.hid (fun (W:World) (h:Sm No w W) (k:Nat) (hk:k≤b.length)=>show Calls Tryz.prog 9 #[.slice A k c] W (nV W (b.take k)) from by
   have e:=Ak W A c (b.take k) (sN (hB.1.no h) k) (fun e=>by have h1:=hB.2.2.2 e;have h2:=hB.2.1;rw [List.length_take];omega) (by rw [List.length_take];have:=hB.2.1;omega) (by rw [List.length_take];omega) hB.2.2.1
   rwa [List.length_take,Nat.min_eq_left hk] at e)
  obtain⟨n,hn⟩:∃ n,b.length=n:=⟨_,rfl⟩;have HN:=Lib.hid (And.intro hn hB.2.1);have hc1:(n:Int)≤(c:Int):=by have:=hB.2.1;omega
  have hnA:=hB.2.2.2;rw [hn] at hbl i1 HAn HRd ⊢;obtain⟨wk,hwk,hbits⟩:=Ga z 65535 (by decide);have hbits:bits .and .i64 z (65535:Int)=(wk:Int):=hbits;obtain⟨k,hk⟩:∃ k,wk % (n+1)=k:=⟨_,rfl⟩;have hkl:k≤n:=by rw [←hk];have:=Nat.mod_lt wk (show 0 < n+1 by omega);omega
  have hrem:Int.tmod (wk:Int) ((n:Int)+1)=(k:Int):=by rw [←hk];rfl
  have hrem2:(wk:Int) % ((n:Int)+1)=(k:Int):=by rw [←hk];rfl
  have k1:(0:Int)≤(k:Int):=by omega
  have k2:(k:Int)≤(n:Int):=by omega
  have k3:(k:Int)≤(c:Int):=by omega
  have i2:¬((n:Int)+1)=0:=by omega
  have HKl:=Lib.hid hkl;clear hB hg hn hk hkl hbig;go_in;go_wp2_with fail;refine HP.out.mono ?_;rintro e w1 ⟨rfl,hs1⟩;have H1:=Lib.hid hs1;clear hs1;rw [gx];go_upto_region 5 with fail;obtain⟨b5,hb5⟩:∃ b,w1.heap.size=b:=⟨_,rfl⟩;obtain⟨w2,hw2⟩:∃ w2,w1.alloc (.cells #[.int .i64 4,.int .i64 4,.int .i64 2,.int .i64 4,.int .i64 50,.int .i64 20,.int .i64 30,.int .i64 40,.int .i64 10,.int .i64 0,.int .i64 0,.int .i64 2,.int .i64 16,.bool false,.bool false,.slice none 0 0] 25)=w2:=⟨_,rfl⟩;have hb2:Bk w2 b5 25 (iX none 0 0).vals:=by rw [←hw2,←hb5,gx];exact Bk.new _ _ _
  have hs2:Sm No w w2:=by rw [←hw2];exact H1.out.alloc _
  rw [hw2,hb5];have hz2:b5 < w2.heap.size:=hb2.lt;have H2:=Lib.hid (And.intro hs2 hb2);obtain⟨f0,f1,f2,f3,f4,f5,f6,f7,f8,f9,f10,f11,f12,f13,f14,f15⟩:=Ah hb2;clear hw2 hb5 hs2 hb2;have HA1:=Lib.hid (HAn.out w2.drew H2.out.1.drew k HKl.out);rw [gx] at HA1
  go_region_law
   (first
    |(go_simp;refine HA1.out.mono ?_;rintro e w3 ⟨v3,ms3,R3,rfl,hm3,hr3,hb3,hs3⟩;have H3:=Lib.hid (And.intro hm3 (And.intro hr3 (And.intro hb3 hs3)));clear hm3 hr3 hb3 hs3)
    |fail)
  all_goals
   have hs23:Sm No w2 w3:=(Sm.refl No w2).drew.trans H3.out.2.2.2 (fun _ _ e=>e);have hb3:=Lib.hid (H2.out.2.sm hs23 (fun e=>e));have hw3:=H2.out.1.trans hs23 (fun _ _ e=>e);obtain⟨A3,c3,rfl,hrow3, -, -⟩:=ak H3.out.2.1.own;have HA2:=Lib.hid (HAn.out w3 hw3 n (Nat.le_refl _));rw [gx] at HA2;have HW3:=Lib.hid (And.intro hw3 hrow3);have hbt:b.take n=b:=List.take_of_length_le (by rw [HN.out.1];exact Nat.le_refl _);rw [hbt] at HA2;clear f0 f1 f2 f3 f4 f5 f6 f7 f8 f9 f10 f11 f12 f13 f14 f15 hs23 hw3 hrow3 hbt HA1;go_wp2_with (refine bF rfl 25 _ rfl Tryz.underlying25 16 js _ rfl _ hb3.out rfl ?_);refine HA2.out.mono ?_;rintro e w4 ⟨v4,ms4,R4,rfl,hm4,hr4,hb4,hs4⟩;obtain⟨A4,c4,rfl,hrow4,hc4, -⟩:=ak hr4.own;have HR1:=Lib.hid (HRd.out w4 (HW3.out.1.trans hs4 (fun _ _ e=>e)) k HKl.out);have H4:=Lib.hid (And.intro hm4 (And.intro hr4 (And.intro hs4 (And.intro hrow4 hc4))));clear hm4 hr4 hb4 hs4 hrow4 hc4;go_wp2_with fail;refine HR1.out.mono ?_;rintro e w5 ⟨v5,qs,R5,rfl, -, -, -,hs5⟩;unfold ul;have H5:=Lib.hid (And.intro hs5 (HW3.out.1.trans (H4.out.2.2.1.trans hs5 (fun _ _ e=>e)) (fun _ _ e=>e)));clear hs5;obtain⟨sn,hsn⟩:∃ x,(ap (b.take k)).2.1=x:=⟨_,rfl⟩;obtain⟨ph,hph⟩:∃ x,(ap (b.take k)).2.2.phase=x:=⟨_,rfl⟩;obtain⟨st,hst⟩:∃ x,(ap (b.take k)).2.2.status=x:=⟨_,rfl⟩;obtain⟨x,hx⟩:∃ x,gc (b.take k)=x:=⟨_,rfl⟩;obtain⟨y,hy⟩:∃ x,gc b=x:=⟨_,rfl⟩;obtain⟨la,hla⟩:∃ x,ms3.length=x:=⟨_,rfl⟩;obtain⟨lb,hlb⟩:∃ x,ms4.length=x:=⟨_,rfl⟩;have hle:ms3.map (·.t) <+:ms4.map (·.t):=by rw [H3.out.1,H4.out.1];exact(sh [] false b k).1
   have hab:la≤lb:=by have:=hle.length_le;rw [List.length_map,List.length_map] at this;omega
   have hmt:ms3.map (·.t)=(ms4.take la).map (·.t):=by
    rw [List.map_take,←hla,←List.length_map (·.t)];exact List.prefix_iff_eq_take.1 hle
   have hcase:(x=true∧y=true∧lb=la)∨(x=false∧ph≠4):=by
    cases x with
    |true=>
     obtain⟨e1,e2⟩:=(sh [] false b k).2 hx;refine Or.inl ⟨rfl,by rw [←hy,e2],?_⟩;rw [←H3.out.1,←H4.out.1] at e1;have:=congrArg List.length e1;rw [List.length_map,List.length_map] at this;omega
    |false=>exact Or.inr ⟨rfl,fun e=>by rw [pN (hph.trans e)] at hx;cases hx⟩
   have hla0:la≤1000000:=by
    have h1:=Di [] false (b.take k);rw [←H3.out.1,List.length_map,List.length_take] at h1;have:=HN.out.1;omega
   have HRw:=Lib.hid (fun (W:World) (hW:Sm No w5 W)=>show Calls Tryz.prog 10 #[.slice A3 la c3,.slice A4 la c4] W (fun e w'=>e=.returned (.bool true)∧Sm No W w') from by
    have h45:=H4.out.2.2.1.trans (H5.out.1.trans hW (fun _ _ e=>e)) (fun _ _ e=>e);have e:=wX W A3 A4 c3 c4 ms3 (ms4.take la) (HW3.out.2.no h45) (by rw [List.map_take];exact Dm (H4.out.2.2.2.1.no (H5.out.1.trans hW (fun _ _ e=>e))) la) (fun m hm=>((H3.out.2.1.ok m hm).sm h45 (fun _ _ e=>e)).r) (fun m hm=>((H4.out.2.1.ok m (List.mem_of_mem_take hm)).sm (H5.out.1.trans hW (fun _ _ e=>e)) (fun _ _ e=>e)).r) hmt (by omega) (fun m hm=>wU [] false (b.take k) oY m.t (by rw [←H3.out.1];exact List.mem_map.2 ⟨m,hm,rfl⟩))
    rwa [hla] at e)
   have l1:¬(lb:Int) < (la:Int):=by omega
   have l2:decide ((lb:Int) < (la:Int))=false:=decide_eq_false l1;have l3:(la:Int)≤(lb:Int):=by omega
   have hc4:lb≤c4:=by have:=H4.out.2.2.2.2;omega
   have l4:(la:Int)≤(c4:Int):=by omega
   have l5:(0:Int)≤(la:Int):=by omega
   have HLe:=Lib.hid hab;rw [hla,hlb,hsn,hph,hst,hx,hy];clear hsn hph hst hx hy hla hlb hle hab hmt hla0 hc4;go_upto_region 8 with fail;obtain⟨b6,hb6⟩:∃ b,w5.heap.size=b:=⟨_,rfl⟩;obtain⟨w6,hw6⟩:∃ x,w5.alloc (.cells #[.int .i64 sn,.int .i64 ph,.int .i64 st] 32)=x:=⟨_,rfl⟩;have hs6:Sm No w5 w6:=by rw [←hw6];exact(Sm.refl No w5).alloc _
   have hbk6:Bk w6 b6 32 #[.int .i64 sn,.int .i64 ph,.int .i64 st]:=by rw [←hw6,←hb6];exact Bk.new _ _ _
   rw [hw6,hb6];have H6:=Lib.hid (And.intro hs6 (And.intro hbk6 (H5.out.2.trans hs6 (fun _ _ e=>e))));clear hw6 hb6 hs6 hbk6;rcases hcase with ⟨rfl,rfl,rfl⟩|⟨rfl,hp⟩
   ·by_cases hp:ph=4
    ·subst hp;go_wp2_with fail;refine(HRw.out _ H6.out.1).mono ?_;rintro e w7 ⟨rfl,hs7⟩;have hb7:=H6.out.2.1.sm hs7 (fun e=>e);have d1:=hb7.at 1 (v:=.int .i64 4) rfl;have dl:=hb7.lt;have H7:=Lib.hid (H6.out.2.2.trans hs7 (fun _ _ e=>e));clear hb7 hs7;go_wp2_with fail;refine(HK.out w7 H7.out).mono ?_;rintro e w8 ⟨rfl,hs8⟩;have H8:=Lib.hid (H7.out.trans hs8 (fun _ _ e=>e));clear hs8;go_wp2_with fail;go_ret;exact⟨rfl,H8.out⟩
    ·have hpd:(ph != 4)=true:=by simp [hp]
     clear hp;go_wp2_with fail;refine(HRw.out _ H6.out.1).mono ?_;rintro e w7 ⟨rfl,hs7⟩;have hb7:=H6.out.2.1.sm hs7 (fun e=>e);have d1:=hb7.at 1 (v:=.int .i64 ph) rfl;have dl:=hb7.lt;have H7:=Lib.hid (H6.out.2.2.trans hs7 (fun _ _ e=>e));clear hb7 hs7;go_wp2_with fail;refine(HK.out w7 H7.out).mono ?_;rintro e w8 ⟨rfl,hs8⟩;have H8:=Lib.hid (H7.out.trans hs8 (fun _ _ e=>e));clear hs8;go_wp2_with fail;go_ret;exact⟨rfl,H8.out⟩
   ·have hpd:(ph != 4)=true:=by simp [hp]
    clear hp;go_wp2_with fail;refine(HRw.out _ H6.out.1).mono ?_;rintro e w7 ⟨rfl,hs7⟩;have hb7:=H6.out.2.1.sm hs7 (fun e=>e);have d1:=hb7.at 1 (v:=.int .i64 ph) rfl;have dl:=hb7.lt;have H7:=Lib.hid (H6.out.2.2.trans hs7 (fun _ _ e=>e));clear hb7 hs7;go_wp2_with fail;refine(HK.out w7 H7.out).mono ?_;rintro e w8 ⟨rfl,hs8⟩;have H8:=Lib.hid (H7.out.trans hs8 (fun _ _ e=>e));clear hs8;go_wp2_with fail;go_ret;exact⟨rfl,H8.out⟩
end Go.Proofs.YtcflkcbogofgbaaGreatDoor
