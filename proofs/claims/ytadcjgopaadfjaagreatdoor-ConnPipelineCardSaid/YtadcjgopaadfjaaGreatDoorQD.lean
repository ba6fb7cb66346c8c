import Derived.Test.YtadcjgopaadfjaaGreatDoorQO
import Derived.Lib.ItoaNum
import Derived.Test.YtadcjgopaadfjaaGreatDoorQShelf
import Derived.Lib.ItoaMem
import Derived.Lib.SmallJoins
import Derived.Test.YtadcjgopaadfjaaGreatDoorQN
import Derived.Test.YtadcjgopaadfjaaGreatDoorQB
import Derived.Test.YtadcjgopaadfjaaGreatDoorQR
import Derived.Lib.ItoaLen
set_option maxHeartbeats 4000000
set_option maxRecDepth 100000
namespace Go.Proofs.YtadcjgopaadfjaaGreatDoor
open Go.RowKit Go.Proofs
def GR:ByteArray:=⟨#[48,49,50,51,52,53,54,55,56,57,97,98,99,100,101,102]⟩
def BZ(k:Nat):UInt8:=GR.data.toList.getD k 0
def tm(b m:Nat):List UInt8:=if _h:m < b∨b < 2 then [BZ m] else tm b (m / b)++[BZ (m % b)]
termination_by m
decreasing_by exact Nat.div_lt_self (by omega) (by omega)
theorem wj{b m:Nat}(h:m < b):tm b m=[BZ m]:=by rw [tm,dif_pos (Or.inl h)]
theorem yp{b m:Nat}(h:¬m < b)(hb:2≤b):tm b m=tm b (m / b)++[BZ (m % b)]:=by rw [tm,dif_neg (by omega)]
theorem Jk{k:Nat}(h:k < 10):BZ k=UInt8.ofNat (48+k):=by
 match k,h with
 |0,_|1,_|2,_|3,_|4,_|5,_|6,_|7,_|8,_|9,_=>rfl
theorem JW(m:Nat):tm 10 m=Lib.decDigits m:=by
 induction m using Nat.strongRecOn with
 |_ m ih=>
  by_cases h:m < 10
  ·rw [wj h,Lib.decDigits_one h,Jk h]
  ·rw [yp h (by omega),Lib.decDigits,dif_neg h,ih (m / 10) (by omega),Jk (by omega)]
def Je(b N m:Nat)(s:List UInt8):Prop:=(s=[]∧m=N)∨(0 < m∧m * 2 ^ s.length≤N∧tm b N=tm b m++s)
theorem JE{b N m:Nat}{s:List UInt8}(hN:N≤9223372036854775807)(h:Je b N m s):s.length≤63:=by
 rcases h with ⟨rfl,_⟩|⟨h0,h1,_⟩
 ·simp
 ·rcases Nat.lt_or_ge s.length 64 with h|h
  ·omega
  ·have h2:2 ^ 64≤2 ^ s.length:=Nat.pow_le_pow_right (by omega) h;have h3:1 * 2 ^ s.length≤m * 2 ^ s.length:=Nat.mul_le_mul_right _ h0;have h4:(2:Nat) ^ 64=18446744073709551616:=by decide
   omega
theorem Jv{b N m:Nat}{s:List UInt8}(hb:2≤b)(h:Je b N m s)(h0:0 < m / b):Je b N (m / b) (BZ (m % b)::s):=by
 have hlt:¬m < b:=fun e=>by rw [Nat.div_eq_of_lt e] at h0;omega
 have h2:m / b * 2≤m:=Nat.le_trans (Nat.mul_le_mul_left _ hb) (Nat.div_mul_le_self m b);rcases h with ⟨rfl,rfl⟩|⟨_,h1,h⟩
 ·exact Or.inr ⟨h0,by simpa using h2,yp hlt hb⟩
 ·refine Or.inr ⟨h0,?_,by rw [h,yp hlt hb,List.append_assoc];rfl⟩;rw [List.length_cons,Nat.pow_succ,Nat.mul_comm (2 ^ s.length) 2,←Nat.mul_assoc];exact Nat.le_trans (Nat.mul_le_mul_right _ h2) h1
theorem JD{b N m:Nat}{s:List UInt8}(hb:2≤b)(h:Je b N m s)(h0:m / b=0):BZ (m % b)::s=tm b N:=by
 have hlt:m < b:=by
  rcases Nat.lt_or_ge m b with h|h
  ·exact h
  ·have:=Nat.div_pos h (by omega);omega
 rw [Nat.mod_eq_of_lt hlt];rcases h with ⟨rfl,rfl⟩|⟨_,_,h⟩
 ·rw [wj hlt]
 ·rw [h,wj hlt];rfl
theorem Jd(c:UInt8)(s:List UInt8):(⟨#[c]⟩++⟨s.toArray⟩:ByteArray)=⟨(c::s).toArray⟩:=by
 apply ByteArray.ext;simp
def Kw(w:World)(b N:Nat)(nv sv:Value)(wr:World):Prop:=∃ (m:Nat) (s:List UInt8),nv=.int .i64 m∧sv=aP s∧m≤N∧Je b N m s∧Sm No w wr
theorem JC(w:World)(n:Int)(b:Nat)(hb:b=10∨b=16)(h0: -9223372036854775808≤n)(h1:n≤9223372036854775807):
 Calls Tryz.prog 44 #[.int .i64 n,.int .i64 b] w fun e w'=>e=.returned (aP (tm b (max 0 n).toNat))∧Sm No w w':=by
 obtain⟨N,hN⟩:∃ N:Nat,max 0 n=(N:Int):=⟨(max 0 n).toNat,by omega⟩;have hN1:(N:Int)≤9223372036854775807:=by omega
 rw [hN,Int.toNat_natCast];have HN:=aa hN;clear hN;have hb0:2≤b:=by omega
 have hb1:b≤16:=by omega
 go_in;go_wp2_with fail;rw [HN.out]
 go_loopw [0,5] (fun nv sv wr=>Kw w b N nv sv wr) (fun nv _ _=>(intOf nv).toNat)
 case atStart=>exact⟨N,[],rfl,rfl,Nat.le_refl _,Or.inl ⟨rfl,rfl⟩,Sm.refl _ _⟩
 case round=>
  obtain⟨m,s,rfl,rfl,hm,hI,hsm⟩:=hrel;have hs:=JE (by omega) hI;obtain⟨r,hr⟩:=ai (m % b);obtain⟨q,hq⟩:=ai (m / b);have hr16:r < 16:=by rw [←hr];exact Nat.lt_of_lt_of_le (Nat.mod_lt _ (by omega)) hb1
  have e1:(m:Int) % (b:Int)=(r:Int):=by rw [←hr];exact(Int.natCast_emod m b).symm
  have e2:(m:Int) / (b:Int)=(q:Int):=by rw [←hq];exact(Int.natCast_ediv m b).symm
  have r0:(0:Int)≤(r:Int):=by omega
  have r1:(r:Int) < 16:=by omega
  have q0:(0:Int)≤(q:Int):=by omega
  have hqm:q≤m:=by rw [←hq];exact Nat.div_le_self _ _
  have q1:(q:Int)≤9223372036854775807:=by omega
  have HR:=aa (ab hr (ab hq hI));have HS:=aa hsm;clear hr hq hI hsm;obtain⟨c,hcx⟩:∃ c,(⟨#[48,49,50,51,52,53,54,55,56,57,97,98,99,100,101,102]⟩:ByteArray)[r]'(by simp [ByteArray.size];omega)=c:=⟨_,rfl⟩;have hx:c=BZ r:=by
   rw [←hcx]
   match r,hr16 with
   |0,_|1,_|2,_|3,_|4,_|5,_|6,_|7,_|8,_|9,_|10,_|11,_|12,_|13,_|14,_|15,_=>rfl
   |n+16,h=>omega
  have HX:=aa hx;clear hx;unfold aP;have hb:=Bk.new wr 5 #[.int .u8 c.toNat];have hby:By (wr.alloc (.cells #[.int .u8 c.toNat] 5)) wr.heap.size [c]:=⟨hb.lt,fun j d hj=>by
   match j,hj with
   |0,hj=>
    have:c=d:=by simpa using hj
    subst this;exact⟨hb.at 0 rfl,hb.fz 0⟩⟩
  have HB:=aa hby;clear hb hby;go_wp2_with (refine aV rfl 34 9 5 (.tmp 12) rfl wr.heap.size 1 1 [c] rfl Tryz.underlying34 Tryz.underlying5 Tryz.underlying9 HB.out rfl ?_)
  ·obtain⟨g1,g2,g3⟩:=HR.out;have hq0:q=0:=by simpa using ‹((q:Int)==0)=true›
   go_ret;refine⟨?_,HS.out.alloc _⟩;rw [Jd,HX.out,←g1,JD hb0 g3 (by omega)];rfl
  ·obtain⟨g1,g2,g3⟩:=HR.out;have hq0:q≠0:=fun e=>by subst e;simp at *
   have hlt:q < m:=by rw [←g2];exact Nat.div_lt_self (by omega) (by omega)
   refine⟨⟨q,c::s,rfl,by rw [Jd];rfl,by omega,?_,HS.out.alloc _⟩,by simp [intOf];omega⟩;rw [HX.out,←g1,←g2];exact Jv hb0 g3 (by omega)
theorem JO(w:World)(n:Int)(h0:0≤n)(h1:n≤9223372036854775807):
 Calls Tryz.prog 19 #[.int .i64 n] w fun e w'=>e=.returned (aP (Lib.itoa n))∧Sm No w w':=by
 have e:tm 10 (max 0 n).toNat=Lib.itoa n:=by
  rw [JW];unfold Lib.itoa;rw [if_neg (by omega)];congr 1;omega
 have HT:=aa (e ▸ JC w n 10 (Or.inl rfl) (by omega) h1);clear e;go_in;go_wp2_with fail;refine HT.out.mono ?_;rintro e w1 ⟨rfl,hs⟩;have HS:=aa hs;clear hs;go_wp2_with fail;go_ret;exact⟨rfl,HS.out⟩
def G1(w:World):Prop:=G0 w∧Lib.TabIs Tryz.prog w "internal/strconv.uint64pow10" .u64 Lib.pow10Tab
theorem G1.no{w w':World}(h:G1 w)(hs:Sm No w w'):G1 w':=⟨h.1.no hs,Joins.tab_stays (B:=w.heap.size) (by kernel_rfl:Tryz.prog.globalNamed "internal/strconv.uint64pow10"=some 1) h.2 hs.bel (Nat.le_refl _)⟩
theorem Sm.grow{w:World}(k:Nat)(os:Array Obj):Sm No w (Sort.grow (w.drewN k) os):=by
 refine⟨rfl,rfl,rfl,?_,fun b hb _=> ?_⟩
 ·simp [Sort.grow]
 ·show (w.heap++os)[b]?=_;rw [Array.getElem?_append_left hb]
theorem qW(w:World)(hg:G1 w)(n:Int)(h0:0≤n)(h1:n≤9223372036854775807):
 Calls Tryz.prog 74 #[.int .i64 n] w fun e w'=>e=.returned (aP (Lib.itoa n))∧Sm No w w':=by
 have HT:=aa (Tryz.strconv_Itoa n (by omega) h1 w hg.2);clear hg;have e:max 0 n=n:=by omega
 go_in;go_wp2_with fail;refine HT.out.mono ?_;rintro e w1 ⟨rfl,k,os,hw⟩;have hs:Sm No w w1:=hw ▸ Sm.grow k os;have HS:=aa hs;clear hs hw;go_wp2_with fail;go_ret;exact⟨rfl,HS.out⟩
def aE(c:Int):List UInt8:=
 if c=100 then [67,111,110,116,105,110,117,101]
 else if c=200 then [79,75]
 else if c=204 then [78,111,32,67,111,110,116,101,110,116]
 else if c=304 then [78,111,116,32,77,111,100,105,102,105,101,100]
 else if c=400 then [66,97,100,32,82,101,113,117,101,115,116]
 else if c=404 then [78,111,116,32,70,111,117,110,100]
 else if c=405 then [77,101,116,104,111,100,32,78,111,116,32,65,108,108,111,119,101,100]
 else if c=408 then [82,101,113,117,101,115,116,32,84,105,109,101,111,117,116]
 else if c=413 then [67,111,110,116,101,110,116,32,84,111,111,32,76,97,114,103,101]
 else if c=414 then [85,82,73,32,84,111,111,32,76,111,110,103]
 else if c=417 then [69,120,112,101,99,116,97,116,105,111,110,32,70,97,105,108,101,100]
 else if c=431 then [82,101,113,117,101,115,116,32,72,101,97,100,101,114,32,70,105,101,108,100,115,32,84,111,111,32,76,97,114,103,101]
 else if c=501 then [78,111,116,32,73,109,112,108,101,109,101,110,116,101,100]
 else if c=503 then [83,101,114,118,105,99,101,32,85,110,97,118,97,105,108,97,98,108,101]
 else if c=505 then [72,84,84,80,32,86,101,114,115,105,111,110,32,78,111,116,32,83,117,112,112,111,114,116,101,100]
 else [83,116,97,116,117,115]
theorem uO:aE 100=[67,111,110,116,105,110,117,101]:=by decide
theorem vQ:aE 200=[79,75]:=by decide
theorem uS:aE 204=[78,111,32,67,111,110,116,101,110,116]:=by decide
theorem wL:aE 304=[78,111,116,32,77,111,100,105,102,105,101,100]:=by decide
theorem wg:aE 400=[66,97,100,32,82,101,113,117,101,115,116]:=by decide
theorem vh:aE 404=[78,111,116,32,70,111,117,110,100]:=by decide
theorem uJ:aE 405=[77,101,116,104,111,100,32,78,111,116,32,65,108,108,111,119,101,100]:=by decide
theorem ul:aE 408=[82,101,113,117,101,115,116,32,84,105,109,101,111,117,116]:=by decide
theorem vj:aE 413=[67,111,110,116,101,110,116,32,84,111,111,32,76,97,114,103,101]:=by decide
theorem us:aE 414=[85,82,73,32,84,111,111,32,76,111,110,103]:=by decide
theorem wi:aE 417=[69,120,112,101,99,116,97,116,105,111,110,32,70,97,105,108,101,100]:=by decide
theorem vd:aE 431=[82,101,113,117,101,115,116,32,72,101,97,100,101,114,32,70,105,101,108,100,115,32,84,111,111,32,76,97,114,103,101]:=by decide
theorem vn:aE 501=[78,111,116,32,73,109,112,108,101,109,101,110,116,101,100]:=by decide
theorem ux:aE 503=[83,101,114,118,105,99,101,32,85,110,97,118,97,105,108,97,98,108,101]:=by decide
theorem uT:aE 505=[72,84,84,80,32,86,101,114,115,105,111,110,32,78,111,116,32,83,117,112,112,111,114,116,101,100]:=by decide
theorem sO{c:Int}(h100:c≠100)(h200:c≠200)(h204:c≠204)(h304:c≠304)(h400:c≠400)(h404:c≠404)(h405:c≠405)(h408:c≠408)(h413:c≠413)(h414:c≠414)(h417:c≠417)(h431:c≠431)(h501:c≠501)(h503:c≠503)(h505:c≠505):aE c=[83,116,97,116,117,115]:=by
 unfold aE;rw [if_neg h100,if_neg h200,if_neg h204,if_neg h304,if_neg h400,if_neg h404,if_neg h405,if_neg h408,if_neg h413,if_neg h414,if_neg h417,if_neg h431,if_neg h501,if_neg h503,if_neg h505]
theorem eR(c:Int):(aE c).length≤31:=by
 have h:∀ (p:Prop) [Decidable p] (a b:List UInt8),a.length≤31→b.length≤31→(if p then a else b).length≤31:=fun p _ a b ha hb=>by split<;>assumption
 unfold aE
 iterate 15 refine h _ _ _ (by decide) ?_
 decide
theorem jP(w:World)(c:Int):Calls Tryz.prog 75 #[.int .i64 c] w fun e w'=>e=.returned (aP (aE c))∧w'=w:=by
 by_cases h100:c=100
 ·subst h100;rw [uO];go_in;go_wp2_with fail;go_ret;exact⟨rfl,rfl⟩
 by_cases h200:c=200
 ·subst h200;rw [vQ];go_in;go_wp2_with fail;go_ret;exact⟨rfl,rfl⟩
 by_cases h204:c=204
 ·subst h204;rw [uS];go_in;go_wp2_with fail;go_ret;exact⟨rfl,rfl⟩
 by_cases h304:c=304
 ·subst h304;rw [wL];go_in;go_wp2_with fail;go_ret;exact⟨rfl,rfl⟩
 by_cases h400:c=400
 ·subst h400;rw [wg];go_in;go_wp2_with fail;go_ret;exact⟨rfl,rfl⟩
 by_cases h404:c=404
 ·subst h404;rw [vh];go_in;go_wp2_with fail;go_ret;exact⟨rfl,rfl⟩
 by_cases h405:c=405
 ·subst h405;rw [uJ];go_in;go_wp2_with fail;go_ret;exact⟨rfl,rfl⟩
 by_cases h408:c=408
 ·subst h408;rw [ul];go_in;go_wp2_with fail;go_ret;exact⟨rfl,rfl⟩
 by_cases h413:c=413
 ·subst h413;rw [vj];go_in;go_wp2_with fail;go_ret;exact⟨rfl,rfl⟩
 by_cases h414:c=414
 ·subst h414;rw [us];go_in;go_wp2_with fail;go_ret;exact⟨rfl,rfl⟩
 by_cases h417:c=417
 ·subst h417;rw [wi];go_in;go_wp2_with fail;go_ret;exact⟨rfl,rfl⟩
 by_cases h431:c=431
 ·subst h431;rw [vd];go_in;go_wp2_with fail;go_ret;exact⟨rfl,rfl⟩
 by_cases h501:c=501
 ·subst h501;rw [vn];go_in;go_wp2_with fail;go_ret;exact⟨rfl,rfl⟩
 by_cases h503:c=503
 ·subst h503;rw [ux];go_in;go_wp2_with fail;go_ret;exact⟨rfl,rfl⟩
 by_cases h505:c=505
 ·subst h505;rw [uT];go_in;go_wp2_with fail;go_ret;exact⟨rfl,rfl⟩
 rw [sO h100 h200 h204 h304 h400 h404 h405 h408 h413 h414 h417 h431 h501 h503 h505];have e100:(c==100)=false:=by simp [h100]
 have e200:(c==200)=false:=by simp [h200]
 have e204:(c==204)=false:=by simp [h204]
 have e304:(c==304)=false:=by simp [h304]
 have e400:(c==400)=false:=by simp [h400]
 have e404:(c==404)=false:=by simp [h404]
 have e405:(c==405)=false:=by simp [h405]
 have e408:(c==408)=false:=by simp [h408]
 have e413:(c==413)=false:=by simp [h413]
 have e414:(c==414)=false:=by simp [h414]
 have e417:(c==417)=false:=by simp [h417]
 have e431:(c==431)=false:=by simp [h431]
 have e501:(c==501)=false:=by simp [h501]
 have e503:(c==503)=false:=by simp [h503]
 have e505:(c==505)=false:=by simp [h505]
 clear h100 h200 h204 h304 h400 h404 h405 h408 h413 h414 h417 h431 h501 h503 h505;go_in;go_wp2_with fail;go_ret;exact⟨rfl,rfl⟩
def bR(c:Int):Bool:=decide (c=204)||(decide (c=304)||(decide (100≤c)&&decide (c≤199)))
theorem gO(w:World)(c:Int):Calls Tryz.prog 72 #[.int .i64 c] w fun e w'=>e=.returned (.bool (bR c))∧w'=w:=by
 by_cases h1:c=204
 ·subst h1;go_in;go_wp2_with fail;go_ret;exact⟨rfl,rfl⟩
 by_cases h2:c=304
 ·subst h2;go_in;go_wp2_with fail;go_ret;exact⟨rfl,rfl⟩
 have e1:(c==204)=false:=by simp [h1]
 have e2:(c==304)=false:=by simp [h2]
 have e:bR c=(decide (100≤c)&&decide (c≤199)):=by unfold bR;simp [h1,h2]
 rw [e];clear h1 h2 e;by_cases h3:100≤c
 ·by_cases h4:c≤199
  ·rw [decide_eq_true h3,decide_eq_true h4];go_in;go_wp2_with fail;go_ret;exact⟨rfl,rfl⟩
  ·rw [decide_eq_true h3,decide_eq_false h4];go_in;go_wp2_with fail;go_ret;exact⟨rfl,rfl⟩
 ·rw [decide_eq_false h3,Bool.false_and];go_in;go_wp2_with fail;go_ret;exact⟨rfl,rfl⟩
structure fQ where
 st:Int
 fs:List aM
 body:List UInt8
 parts:List Nat
def lA(l:List Nat):List Value:=l.map fun (n:Nat)=>.int .i64 n
def im(w:World)(B:Nat)(v:Value)(r:fQ):Prop:=
 ∃ vF vB vP,v=.agg #[.int .i64 r.st,vF,vB,vP]∧aH w B 143 2 vF r.fs.length (av r.fs)∧je w B 5 vB r.body∧aH w B 3 1 vP r.parts.length (lA r.parts)
theorem im.sm{S:Nat→Prop}{w w':World}{B:Nat}{v:Value}{r:fQ}(h:im w B v r)(hs:Sm S w w')(hS:∀ b,S b→b < B):im w' B v r:=by
 obtain⟨vF,vB,vP,h1,h2,h3,h4⟩:=h;exact⟨vF,vB,vP,h1,h2.sm hs (fun b hb hs=>by have:=(h2.lt b hb).1;have:=hS b hs;omega),h3.sm hs (fun b hb hs=>by have:=(h3.lt b hb).1;have:=hS b hs;omega),h4.sm hs (fun b hb hs=>by have:=(h4.lt b hb).1;have:=hS b hs;omega)⟩
theorem im.no{w w':World}{B:Nat}{v:Value}{r:fQ}(h:im w B v r)(hs:Sm No w w'):im w' B v r:=h.sm hs (fun _ h=>h.elim)
theorem im.base{w:World}{B C:Nat}{v:Value}{r:fQ}(h:im w B v r)(hC:C≤B):im w C v r:=by
 obtain⟨vF,vB,vP,h1,h2,h3,h4⟩:=h;exact⟨vF,vB,vP,h1,h2.base (fun b hb=>Nat.le_trans hC (h2.lt b hb).1),h3.base (fun b hb=>Nat.le_trans hC (h3.lt b hb).1),h4.base (fun b hb=>Nat.le_trans hC (h4.lt b hb).1)⟩
def xn(w:World)(r:fQ)(e:Ending)(w':World):Prop:=∃ v,e=.returned v∧im w' w.heap.size v r∧Sm No w w'
def bS(l:List UInt8):ByteArray:=⟨l.toArray⟩
def kQ:List UInt8:=[67,111,110,116,101,110,116,45,84,121,112,101]
def cw:List UInt8:=[116,101,120,116,47,112,108,97,105,110]
def lR(kind:List UInt8):aM:=(bS kQ,bS kind)
theorem fF{c:Int}(h0:0≤c)(h1:c≤9223372036854775807):(Lib.itoa c).length≤20:=by
 unfold Lib.itoa;rw [if_neg (by omega),Lib.decDigits_length];exact Lib.nDigits_le20 _ (by omega)
theorem sN{c:Int}(h0:0≤c)(h1:c≤9223372036854775807):(⟨(Lib.itoa c++32::(aE c++[10])).toArray⟩:ByteArray).size≤maxLen:=by
 show (Lib.itoa c++32::(aE c++[10])).toArray.size≤_;rw [List.size_toArray,List.length_append,List.length_cons,List.length_append];have:=fF h0 h1;have:=eR c;unfold maxLen;simp only [List.length_cons,List.length_nil];omega
theorem iT(xs:List (List UInt8)):Lib.join xs []=xs.flatten:=by
 cases xs with
 |nil=>rfl
 |cons x r=>
  rw [Lib.join_cons,List.flatten_cons];congr 1
  induction r with
  |nil=>rfl
  |cons y r ih=>simp [Lib.joinTail]
theorem Bn(w:World)(a b c d:List UInt8)(ha:a.length≤1000)(hb:b.length≤1000)(hc:c.length≤1000)(hd:d.length≤1000):
 Calls Tryz.prog 73 #[.slice (some ⟨w.heap.size,0,none⟩) 4 4] (w.alloc (.cells #[.string ⟨a.toArray⟩,.string ⟨b.toArray⟩,.string ⟨c.toArray⟩,.string ⟨d.toArray⟩] 9)) fun e w'=>e=.returned (.string ⟨(a++(b++(c++d))).toArray⟩)∧Sm No (w.alloc (.cells #[.string ⟨a.toArray⟩,.string ⟨b.toArray⟩,.string ⟨c.toArray⟩,.string ⟨d.toArray⟩] 9)) w':=by
 have hB:=Bk.new w 9 #[.string ⟨a.toArray⟩,.string ⟨b.toArray⟩,.string ⟨c.toArray⟩,.string ⟨d.toArray⟩];have hJ:=Tryz.strings_Join w.heap.size 0 4 [⟨a.toArray⟩,⟨b.toArray⟩,⟨c.toArray⟩,⟨d.toArray⟩] ⟨#[]⟩ _ (fun j x hj=>by
  rw [Nat.zero_add];refine hB.at j ?_
  match j,hj with
  |0,hj|1,hj|2,hj|3,hj=>simpa using congrArg (Option.map Value.string) hj) hB.lt (by simp) (by simp) (by
  simp only [List.map_cons,List.map_nil];rw [iT];simp;omega)
 simp only [List.map_cons,List.map_nil] at hJ;rw [iT] at hJ;have HJ:=aa hJ;clear hJ hB;go_in;go_wp2_with fail;refine HJ.out.mono ?_;rintro e w2 ⟨rfl,hb2⟩;have HS:=aa (Sm.of_below hb2 No);clear hb2;go_wp2_with fail;go_ret;exact⟨by simp,HS.out⟩
def aD(c:Int)(more:List aM):fQ:=
 if bR c=true then ⟨c,more,[],[]⟩ else ⟨c,lR cw::more,Lib.itoa c++32::(aE c++[10]),[]⟩
theorem uq:(Tryz.prog.info? 143).map (fun i=>(i.zero,i.size,i.bytes))=some (some (.agg #[.string ⟨#[]⟩,.string ⟨#[]⟩]),2,32):=by kernel_rfl
theorem kO{w:World}{B C size size' n m:Nat}{t t':TypeId}{v v':Value}{xs ys:List Value}(h:w.ownsRow B t size v n xs)(h2:aH w C t' size' v' m ys)(ht:t≠t'){b:Nat}(hb:v.ownBlock=some b)(hb2:v'.ownBlock=some b):(0:Nat)≠0:=by
 obtain⟨cur,hc⟩:=az h hb;rcases h2.2 with ⟨rfl,_⟩|⟨g,cap,cur2,fz,rfl,_,hh,_⟩
 ·cases hb2
 ·have:g=b:=by simpa [Value.ownBlock] using hb2
  subst this;rw [hc] at hh;injection hh with hh;injection hh with _ hh;exact absurd hh ht
theorem eF(w:World)(hg:G1 w)(c:Int)(hc0:0≤c)(hc1:c≤9223372036854775807)(A:Option Addr)(cap:Nat)(more:List aM)(hA:ec w A more)(hn:A=none→more.length=0∧cap=0)(hm:more.length≤100000):
 Calls Tryz.prog 52 #[.int .i64 c,.slice A more.length cap] w (xn w (aD c more)):=by
 obtain⟨b,hb⟩:=ai (bR c);have HNB:=aa (show ∀ W,Calls Tryz.prog 72 #[.int .i64 c] W fun e w'=>e=.returned (.bool b)∧w'=W from fun W=>hb ▸ gO W c);have HB:=aa hb;have HA:=aa (ab hA.rowC hn);have HG:=aa hg;clear hb hA hn hg;obtain⟨R,hR⟩:=ai (aD c more);rw [hR];have HR:=aa hR;clear hR;go_in;go_wp2_with fail;refine(HNB.out _).mono ?_;rintro e w1 ⟨rfl,hw1⟩;obtain⟨r0,hr0⟩:=ai w.heap.size;have hs1:Sm No w w1:=by rw [hw1];exact((Sm.refl _ _).alloc _).alloc _
 have b0:Bk w1 r0 93 #[.int .i64 0,.slice none 0 0,.slice none 0 0,.slice none 0 0]:=by rw [hw1,←hr0];exact(Bk.new w _ _).alloc _
 have b1:Bk w1 (r0+1) 93 #[.int .i64 c,.slice none 0 0,.slice none 0 0,.slice none 0 0]:=by rw [hw1,←hr0];exact Bk.newAt _ _ _ (by simp)
 have hz1:w1.heap.size=r0+2:=by rw [hw1,←hr0];simp
 rw [hr0];have c11:=b1.at 1 (v:=.slice none 0 0) rfl;have hl1:=b1.lt;have H1:=aa (ab hs1 (ab b0 (ab b1 (ab hz1 hr0))));clear hs1 b0 b1 hz1 hw1 hr0
 cases b with
 |true=>
  have hRs:aD c more=⟨c,[]++more,[],[]⟩:=by unfold aD;rw [if_pos HB.out];rfl
  have HRs:=aa hRs;have HW:=aa (ab H1.out.2.1 (ab H1.out.2.2.1 (ab H1.out.1 (ab (show je w1 (r0+2) 5 (.slice none 0 0) [] from aH.nil _ _ _ _) (by rw [H1.out.2.2.2.1];exact Nat.le_refl (r0+2):r0+2≤w1.heap.size)))));clear hRs;go_wp2_with (refine bE rfl _ _ 91 143 rfl Tryz.underlying91 _ 2 32 uq rfl (by decide) (by decide) (r0+2) ([]:List aM).length (.slice none 0 0) (av []) rfl (World.ownsRow_nil w1 (r0+2) 143 2) A more.length cap (av more) rfl HA.out.2 (fh _) (HA.out.1.no HW.out.2.2.1) (ib _) (by simp;omega) HW.out.2.2.2.2 ?_;intro v9 w9 hown9 hs9 hb9;refine RowKit.Hid.out ?_);refine aa ?_;obtain⟨A9,c9,hv9,_⟩:=au hown9;obtain⟨n9,hn9⟩:=ai (([]:List aM).length+more.length);rw [hn9] at hv9 hown9;subst hv9;have HN9:=aa hn9;clear hn9;have hge:∀ b,Value.ownBlock (.slice none 0 0)=some b→r0+2≤b:=fun b e=>(World.ownsRow.lt (World.ownsRow_nil w1 (r0+2) 143 2) b e).1;have b0:=HW.out.1.sm hs9 (fun e=>by have:=hge _ e;omega);have b1:=HW.out.2.1.sm hs9 (fun e=>by have:=hge _ e;omega);have hsw:Sm No w w9:=HW.out.2.2.1.trans hs9 (fun b hb e=>by have:=hge b e;have:=H1.out.2.2.2.2;omega);have hB9:=HW.out.2.2.2.1.sm hs9 (fun b e1 e2=>absurd rfl (kO (World.ownsRow_nil w1 (r0+2) 143 2) (HW.out.2.2.2.1) (by decide) e2 e1));have c10:=b1.at 0 (v:=.int .i64 c) rfl;have c11:=b1.at 1 (v:=(.slice none 0 0)) rfl;have c12:=b1.at 2 (v:=(.slice none 0 0)) rfl;have c13:=b1.at 3 (v:=.slice none 0 0) rfl;have c00:=b0.at 0 (v:=.int .i64 0) rfl;have c01:=b0.at 1 (v:=.slice none 0 0) rfl;have c02:=b0.at 2 (v:=.slice none 0 0) rfl;have c03:=b0.at 3 (v:=.slice none 0 0) rfl;have f11:=b1.fz 1;have f00:=b0.fz 0;have f01:=b0.fz 1;have f02:=b0.fz 2;have f03:=b0.fz 3;have hl9:=b1.lt;have hl0:=b0.lt;have H9:=aa (ab hown9 (ab hsw hB9));clear hown9 hs9 hb9 b0 b1 hsw hB9 hge;go_wp2_with fail;have hr0:=H1.out.2.2.2.2;have hS:Sm (fun b=>b=r0∨b=r0+1) w9 _:=((((((Sm.refl _ w9).setS (Or.inr rfl) 1 (.slice A9 n9 c9)).setS (Or.inl rfl) 0 (.int .i64 c)).setS (Or.inl rfl) 1 (.slice A9 n9 c9)).setS (Or.inl rfl) 2 (.slice none 0 0)).setS (Or.inl rfl) 3 (.slice none 0 0));exact bodyPost_ret (v:=.agg #[.int .i64 c,.slice A9 n9 c9,(.slice none 0 0),.slice none 0 0]) (by simp [results,Tryz.results52,go_sem,c00,c01,c02,c03]) rfl
   (by
    rw [←HR.out];refine⟨_,rfl,⟨.slice A9 n9 c9,(.slice none 0 0),.slice none 0 0,?_,?_,?_,?_⟩,H9.out.2.1.trans hS (fun b hb e=>by omega)⟩
    ·rw [HRs.out]
    ·rw [HRs.out];show aH _ _ _ 2 (.slice A9 n9 c9) ([]++more:List aM).length (av ([]++more));rw [List.length_append,HN9.out,show av ([]++more)=av []++av more from by simp [av]];exact((aH.of H9.out.1).sm hS (fun b e1 e2=>by have:=(World.ownsRow.lt H9.out.1 b e1).1;omega)).base (fun b e1=>by have:=(World.ownsRow.lt H9.out.1 b e1).1;omega)
    ·rw [HRs.out];exact(H9.out.2.2.sm hS (fun b e1 e2=>by have:=(H9.out.2.2.lt b e1).1;omega)).base (fun b e1=>by have:=(H9.out.2.2.lt b e1).1;omega)
    ·rw [HRs.out];exact aH.nil _ _ _ _)
 |false=>
  have hRs:aD c more=⟨c,[lR cw]++more,Lib.itoa c++32::(aE c++[10]),[]⟩:=by unfold aD;rw [if_neg (by rw [HB.out];decide)];rfl
  have HRs:=aa hRs;clear hRs;go_wp2_with (refine aY rfl _ _ 91 143 rfl Tryz.underlying91 _ 2 32 uq rfl (by decide) (by decide) (r0+2) 0 (.slice none 0 0) [] rfl (World.ownsRow_nil _ _ _ _) w1.heap.size #[.string (bS kQ),.string (bS cw)] rfl (Bk.new w1 _ _) rfl (by simp [Value.oneCell']) (by omega) (by rw [←H1.out.2.2.2.1];simp) ?_;intro v2 w2 hown2 hs2 hb2;refine RowKit.Hid.out ?_);refine aa ?_;obtain⟨A2,c2,rfl,_⟩:=au hown2;have hge:∀ b,(Value.slice A2 (0+1) c2).ownBlock=some b→r0+2≤b:=fun b e=>(World.ownsRow.lt hown2 b e).1;have hs12:Sm No w1 w2:=((Sm.refl No w1).alloc _).trans hs2 (fun _ _ h=>by cases h);have b0:=H1.out.2.1.sm hs12 (fun h=>h);have b1:=H1.out.2.2.1.sm hs12 (fun h=>h);have hl2:=b1.lt;have c11:=b1.at 1 (v:=.slice none 0 0) rfl;have f11:=b1.fz 1;have hs3:=(Sm.refl (fun b=>b=r0+1) w2).set1 1 (.slice A2 (0+1) c2);have b03:=b0.sm hs3 (fun e=>by omega);have b13:=(b1.set 1 (.slice A2 (0+1) c2)).eq (by rfl:_=#[.int .i64 c,.slice A2 (0+1) c2,.slice none 0 0,.slice none 0 0]);have hown3:=ae hown2 hs3 (fun b e1 e2=>by have:=hge b e1;omega);have hsw3:Sm No w (w2.setCell ⟨r0+1,1,none⟩ (.slice A2 (0+1) c2)):=(H1.out.1.tt hs12).setN (by have:=H1.out.2.2.2.2;omega) _ _;have H3:=aa (ab b03 (ab b13 (ab hown3 (ab hsw3 hge))));clear hown2 hs2 hb2 hs12 b0 b1 hs3 b03 b13 hown3 hsw3 hge;go_wp2_with fail;refine(qW _ (HG.out.no H3.out.2.2.2.1) c hc0 hc1).mono ?_;rintro e w4 ⟨rfl,hs4⟩;unfold aP;have H4:=aa (ab (H3.out.1.sm hs4 (fun h=>h)) (ab (H3.out.2.1.sm hs4 (fun h=>h)) (ab (ae H3.out.2.2.1 hs4 (fun _ _ h=>h)) (H3.out.2.2.2.1.tt hs4))));clear hs4 c11 f11;go_wp2_with fail;refine(jP _ c).mono ?_;rintro e w5 ⟨rfl,rfl⟩;unfold aP;go_wp2_with fail;refine(Bn w5 (Lib.itoa c) [32] (aE c) [10] (Nat.le_trans (fF hc0 hc1) (by decide)) (by decide) (Nat.le_trans (eR c) (by decide)) (by decide)).mono ?_;rintro e w5b ⟨rfl,hs5⟩;have hs5:=((Sm.refl No w5).alloc (.cells #[.string ⟨(Lib.itoa c).toArray⟩,.string ⟨#[32]⟩,.string ⟨(aE c).toArray⟩,.string ⟨#[10]⟩] 9)).tt hs5;have H5:=aa (ab (H4.out.1.sm hs5 (fun h=>h)) (ab (H4.out.2.1.sm hs5 (fun h=>h)) (ab (ae H4.out.2.2.1 hs5 (fun _ _ h=>h)) (H4.out.2.2.2.tt hs5))));clear hs5;go_wp2_with (refine db rfl 9 34 5 _ rfl _ rfl Tryz.underlying9 Tryz.underlying34 Tryz.underlying5 (r0+2) (by have:=H5.out.2.1.lt;omega) (sN hc0 hc1) ?_;intro cB w6 hOB hsB hzB;refine RowKit.Hid.out ?_);refine aa ?_;obtain⟨gB,hgB⟩:=ai w5b.heap.size;rw [hgB] at hOB ⊢;clear hzB hgB;have hsz:(⟨(Lib.itoa c++32::(aE c++[10])).toArray⟩:ByteArray).size=(Lib.itoa c).length+((aE c).length+1+1):=by simp [ByteArray.size]
  obtain⟨nB,hnB⟩:=ai ((Lib.itoa c).length+((aE c).length+1+1));rw [hsz,hnB] at hOB;rw [hnB];clear hnB hsz;have b0:=H5.out.1.sm hsB (fun h=>h);have b1:=H5.out.2.1.sm hsB (fun h=>h);have hl5:=b1.lt;have c12:=b1.at 2 (v:=.slice none 0 0) rfl;have f12:=b1.fz 2;have hs6:=(Sm.refl (fun b=>b=r0+1) w6).set1 2 (.slice (some ⟨gB,0,none⟩) nB cB);have b06:=b0.sm hs6 (fun e=>by omega);have b16:=(b1.set 2 (.slice (some ⟨gB,0,none⟩) nB cB)).eq (by rfl:_=#[.int .i64 c,.slice A2 (0+1) c2,.slice (some ⟨gB,0,none⟩) nB cB,.slice none 0 0]);have hown6:=ae (ae H5.out.2.2.1 hsB (fun _ _ h=>h)) hs6 (fun b e1 e2=>by have:=H3.out.2.2.2.2 b e1;omega);have hB6:=hOB.sm hs6 (fun b e1 e2=>by have:=(hOB.lt b e1).1;omega);have hsw6:Sm No w (w6.setCell ⟨r0+1,2,none⟩ (.slice (some ⟨gB,0,none⟩) nB cB)):=(H5.out.2.2.2.tt hsB).setN (by have:=H1.out.2.2.2.2;omega) _ _;have c11:=b16.at 1 (v:=.slice A2 (0+1) c2) rfl;have hz6:r0+2≤(w6.setCell ⟨r0+1,2,none⟩ (.slice (some ⟨gB,0,none⟩) nB cB)).heap.size:=by have:=b16.lt;omega
  have HW:=aa (ab b06 (ab b16 (ab hsw6 (ab hB6 hz6))));have H8:=aa (ab trivial hown6);clear hsB b0 b1 hs6 b06 b16 hown6 hB6 hsw6 hOB hz6;go_wp2_with (refine bE rfl _ _ 91 143 rfl Tryz.underlying91 _ 2 32 uq rfl (by decide) (by decide) (r0+2) ([lR cw]:List aM).length (.slice A2 (0+1) c2) (av [lR cw]) rfl H8.out.2 A more.length cap (av more) rfl HA.out.2 (fh _) (HA.out.1.no HW.out.2.2.1) (ib _) (by simp;omega) HW.out.2.2.2.2 ?_;intro v9 w9 hown9 hs9 hb9;refine RowKit.Hid.out ?_);refine aa ?_;obtain⟨A9,c9,hv9,_⟩:=au hown9;obtain⟨n9,hn9⟩:=ai (([lR cw]:List aM).length+more.length);rw [hn9] at hv9 hown9;subst hv9;have HN9:=aa hn9;clear hn9;have hge:∀ b,Value.ownBlock (.slice A2 (0+1) c2)=some b→r0+2≤b:=fun b e=>(World.ownsRow.lt H8.out.2 b e).1;have b0:=HW.out.1.sm hs9 (fun e=>by have:=hge _ e;omega);have b1:=HW.out.2.1.sm hs9 (fun e=>by have:=hge _ e;omega);have hsw:Sm No w w9:=HW.out.2.2.1.trans hs9 (fun b hb e=>by have:=hge b e;have:=H1.out.2.2.2.2;omega);have hB9:=HW.out.2.2.2.1.sm hs9 (fun b e1 e2=>absurd rfl (kO H8.out.2 (HW.out.2.2.2.1) (by decide) e2 e1));have c10:=b1.at 0 (v:=.int .i64 c) rfl;have c11:=b1.at 1 (v:=(.slice A2 (0+1) c2)) rfl;have c12:=b1.at 2 (v:=(.slice (some ⟨gB,0,none⟩) nB cB)) rfl;have c13:=b1.at 3 (v:=.slice none 0 0) rfl;have c00:=b0.at 0 (v:=.int .i64 0) rfl;have c01:=b0.at 1 (v:=.slice none 0 0) rfl;have c02:=b0.at 2 (v:=.slice none 0 0) rfl;have c03:=b0.at 3 (v:=.slice none 0 0) rfl;have f11:=b1.fz 1;have f00:=b0.fz 0;have f01:=b0.fz 1;have f02:=b0.fz 2;have f03:=b0.fz 3;have hl9:=b1.lt;have hl0:=b0.lt;have H9:=aa (ab hown9 (ab hsw hB9));clear hown9 hs9 hb9 b0 b1 hsw hB9 hge;go_wp2_with fail;have hr0:=H1.out.2.2.2.2;have hS:Sm (fun b=>b=r0∨b=r0+1) w9 _:=((((((Sm.refl _ w9).setS (Or.inr rfl) 1 (.slice A9 n9 c9)).setS (Or.inl rfl) 0 (.int .i64 c)).setS (Or.inl rfl) 1 (.slice A9 n9 c9)).setS (Or.inl rfl) 2 (.slice (some ⟨gB,0,none⟩) nB cB)).setS (Or.inl rfl) 3 (.slice none 0 0));exact bodyPost_ret (v:=.agg #[.int .i64 c,.slice A9 n9 c9,(.slice (some ⟨gB,0,none⟩) nB cB),.slice none 0 0]) (by simp [results,Tryz.results52,go_sem,c00,c01,c02,c03]) rfl
   (by
    rw [←HR.out];refine⟨_,rfl,⟨.slice A9 n9 c9,(.slice (some ⟨gB,0,none⟩) nB cB),.slice none 0 0,?_,?_,?_,?_⟩,H9.out.2.1.trans hS (fun b hb e=>by omega)⟩
    ·rw [HRs.out]
    ·rw [HRs.out];show aH _ _ _ 2 (.slice A9 n9 c9) ([lR cw]++more:List aM).length (av ([lR cw]++more));rw [List.length_append,HN9.out,show av ([lR cw]++more)=av [lR cw]++av more from by simp [av]];exact((aH.of H9.out.1).sm hS (fun b e1 e2=>by have:=(World.ownsRow.lt H9.out.1 b e1).1;omega)).base (fun b e1=>by have:=(World.ownsRow.lt H9.out.1 b e1).1;omega)
    ·rw [HRs.out];exact(H9.out.2.2.sm hS (fun b e1 e2=>by have:=(H9.out.2.2.lt b e1).1;omega)).base (fun b e1=>by have:=(H9.out.2.2.lt b e1).1;omega)
    ·rw [HRs.out];exact aH.nil _ _ _ _)
end Go.Proofs.YtadcjgopaadfjaaGreatDoor
