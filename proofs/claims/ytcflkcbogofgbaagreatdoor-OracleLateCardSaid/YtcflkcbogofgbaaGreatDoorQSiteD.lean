import Derived.Test.YtcflkcbogofgbaaGreatDoorQS
import Derived.IntWalk
set_option maxHeartbeats 8000000
set_option maxRecDepth 100000
namespace Go.Proofs.YtcflkcbogofgbaaGreatDoor
open Go.RowKit Go.Proofs
theorem tO{x:bE}{b:Bool}(hb:Hid (jg x=b))(w:World)(hg:G0 w)(hp:x.path.size≤800000)(ht:x.type.size≤800000)(hd:x.data.size≤800000):
 Calls Tryz.prog 52 #[.agg #[.string x.path,.string x.type,.string x.data]] w fun e w'=>e=.returned (.bool b)∧Sm No w w':=by
 rw [←hb.out];exact uL w hg x (by omega) (by omega) (by omega)
theorem Ce:ef [] ⟨ab ⟨#[47,101,99,104,111]⟩,1,[[80,79,83,84]]⟩=0:=by decide+kernel
theorem D2:ef [⟨fA,1,[px]⟩] ⟨ab ⟨#[47,107,101,121]⟩,2,[[71,69,84]]⟩=0:=by decide+kernel
theorem DJ:ef [⟨fA,1,[px]⟩,⟨jH,2,[na]⟩] ⟨ab ⟨#[47,115,116,97,116,117,115]⟩,3,[[71,69,84]]⟩=0:=by decide+kernel
theorem GG:iJ [] ⟨ab ⟨#[47,101,99,104,111]⟩,1,[[80,79,83,84]]⟩=[⟨fA,1,[px]⟩]:=by unfold iJ;rw [if_pos Ce];rfl
theorem GE:iJ [⟨fA,1,[px]⟩] ⟨ab ⟨#[47,107,101,121]⟩,2,[[71,69,84]]⟩=[⟨fA,1,[px]⟩,⟨jH,2,[na]⟩]:=by unfold iJ;rw [if_pos D2];rfl
theorem GQ:iJ [⟨fA,1,[px]⟩,⟨jH,2,[na]⟩] ⟨ab ⟨#[47,115,116,97,116,117,115]⟩,3,[[71,69,84]]⟩=am []:=by unfold iJ;rw [if_pos DJ];rfl
theorem qp{T:List bE}{w w':World}(h:cM T=false)(hs:Sm No w w'):rO w T (.returned (.tuple #[.pointer none,.int .i64 1])) w':=by
 have e:dJ T=1:=by unfold dJ;rw [if_neg (by rw [h];decide)]
 exact Or.inr ⟨by rw [e];decide,by rw [e],hs⟩
theorem od{T:List bE}{w w':World}(h:cM T=true)(h2:fx T=false)(hs:Sm No w w'):rO w T (.returned (.tuple #[.pointer none,.int .i64 11])) w':=by
 have e:dJ T=11:=by unfold dJ;rw [if_pos h,if_neg (by rw [h2];decide)]
 exact Or.inr ⟨by rw [e];decide,by rw [e],hs⟩
theorem Ay{T:List bE}{x:bE}(hx:x∈T)(h:jg x=false):cM T=false:=by
 cases ht:cM T with
 |false=>rfl
 |true=>rw [qf ht hx] at h;cases h
theorem C7{T:List bE}(hl:T.length≤40)(h:∀ x∈T,jg x=true):cM T=true:=by
 unfold cM;rw [Bool.and_eq_true,decide_eq_true_eq];exact⟨hl,List.all_eq_true.2 h⟩
theorem md{α:Type}{l:List α}{p:α→Prop}{k:Nat}{x:α}(h:∀ y∈l.take k,p y)(hk:l[k]?=some x)(hp:p x):∀ y∈l.take (k+1),p y:=by
 intro y hy;rw [List.take_add_one,hk] at hy;rcases List.mem_append.1 hy with hy|hy
 ·exact h y hy
 ·have:y=x:=by simpa using hy
  rw [this];exact hp
theorem uo{w w1:World}{K:Nat→Prop}{r k b:Nat}{T:List bE}{x:bE}{cd:Int}{L':List Lt}(hc:Hid (ef (am T) (cX k x)=cd))(hS:Hid (iJ (am T) (cX k x)=L'))(h:jG w w1 K r (am T))(hg:G0 w)(hT:T.length≤40)(hs:x.path.size≤800000)(hb:Bk w1 b 9 #[.string ⟨#[71,69,84]⟩]):
 Calls Tryz.prog 55 #[.pointer (some ⟨r,0,none⟩),.string x.path,.int .i64 (10+(k:Int)),.slice (some ⟨b,0,none⟩) 1 1] w1 fun e w2=>e=.returned (.int .i64 cd)∧jG w w2 K r L'∧Sm (fun b=>¬K b) w1 w2:=by
 have e:(⟨ab x.path,10+(k:Int),[[71,69,84]]⟩:Lt)=cX k x:=by
  unfold cX;congr 1
 have:=kN (w:=w) (A:=some ⟨b,0,none⟩) (c:=1) (s:=x.path) (id:=10+(k:Int)) (ms:=[[71,69,84]]) h hg (mo hT) hs (io hb) (fun e=>by cases e) (by decide) (by decide);rw [e,hc.out,hS.out] at this;exact this
def IG(w:World)(T:List bE)(i:Value)(wr:World):Prop:=∃ k:Nat,k≤T.length∧i=.int .i64 k∧(∀ x∈T.take k,jg x=true)∧Sm No w wr
def IJ(w:World)(T:List bE)(i:Value)(wr:World):Prop:=∃ k:Nat,k≤T.length∧i=.int .i64 k∧(∀ x∈T.take k,ab x.path≠fA)∧Sm No w wr
def It(w:World)(T:List bE)(r s:Nat)(AT:Option Addr)(cT:Nat)(i:Value)(wr:World):Prop:=
 ∃ k:Nat,k≤T.length∧i=.int .i64 k∧jG w wr (fun b=>b=s∨(Value.slice AT T.length cT).ownBlock=some b) r (am (T.take k))∧Bk wr s 118 #[.pointer (some ⟨r,0,none⟩),.slice AT T.length cT]∧World.ownsRow wr 0 50 3 (.slice AT T.length cT) T.length (cD T)∧Gs T k
theorem Cr(w:World)(hg:G0 w)(A:Option Addr)(c:Nat)(T:List bE)(hA:ar w A (cD T))(h0:A=none→T.length=0∧c=0)(hl:T.length≤1000000)(hsm:lZ T):
 Calls Tryz.prog 36 #[.slice A T.length c] w (rO w T):=by
 have HA:=ns (BT hA (BT h0 (BT hsm hg)));clear hA h0 hsm hg;by_cases h40:40 < T.length
 ·have HE:=ns (qp (w:=w) (w':=w) (T:=T) (by
   cases ht:cM T with
   |false=>rfl
   |true=>have:=Aj ht;omega) (Sm.refl _ _))
  go_in;go_wp2_with fail;go_ret2;exact HE.out
 ·go_in;go_wp2_with fail
  go_loopw [17] (fun i wr=>IG w T i wr) (fun i _=>T.length-(intOf i).toNat)
  case atStart=>exact⟨0,Nat.zero_le _,rfl,by simp,Sm.refl _ _⟩
  case round=>
   obtain⟨k,hk,rfl,hall,hs⟩:=hrel;have HS:=ns (BT hs hall);clear hs hall;by_cases hlt:k < T.length
   ·obtain⟨x,hx⟩:∃ x,T[k]?=some x:=⟨_,List.getElem?_eq_getElem hlt⟩;obtain⟨t1,t2,t3⟩:=fj hx;obtain⟨bb,off,hAe,hbb,r0⟩:=(HA.out.1.no HS.out.1).at t1;subst hAe;obtain⟨_,_,hA1,_,r1⟩:=(HA.out.1.no HS.out.1).at t2;injection hA1 with hA1;injection hA1 with e1 e2;subst e1 e2;obtain⟨_,_,hA1,_,r2⟩:=(HA.out.1.no HS.out.1).at t3;injection hA1 with hA1;injection hA1 with e1 e2;subst e1 e2;rw [show off+(k * 3+1)=off+k * 3+1 by omega] at r1;rw [show off+(k * 3+2)=off+k * 3+2 by omega] at r2;have k1:(0:Int)≤(k:Int):=by omega
    have k2:(k:Int) < (T.length:Int):=by omega
    obtain⟨s1,s2,s3⟩:=HA.out.2.2.1 x (List.mem_of_getElem? hx);obtain⟨b,hb⟩:=Iu (jg x);have HB:=ns hb;have HX:=ns hx;clear hx t1 t2 t3 hb;go_wp2_with fail;refine(tO HB _ (HA.out.2.2.2.no (HS.out.1.alloc _)) s1 s2 s3).mono ?_;rintro e w4 ⟨rfl,hs4⟩;have HS4:=ns ((HS.out.1.alloc (.cells #[.string x.path,.string x.type,.string x.data] 50)).tt hs4);clear hs4 r0 r1 r2
    cases b with
    |true=>
     go_wp2_with fail;exact⟨⟨k+1,by omega,by go_num,md HS.out.2 HX.out HB.out,HS4.out⟩,by simp [intOf];omega⟩
    |false=>
     have HE:=ns (qp (w:=w) (Ay (List.mem_of_getElem? HX.out) HB.out) HS4.out);go_wp2_with fail;go_ret2;exact HE.out
   ·obtain rfl:k=T.length:=by omega
    have ht:=HS.out.2;rw [List.take_length] at ht;have HT:=ns (C7 (by omega) ht);clear ht;go_wp2_with fail;refine(EH wr).mono ?_;rintro e w1 ⟨r,O,rfl,hR,hs1,hO⟩;have hOR:jG w w1 No r []:=⟨O,hR,HS.out.1.tt hs1,fun b hb=>Nat.le_trans HS.out.1.size (hO b hb),fun b hb=>hb.elim⟩;have H1:=ns hOR;clear hR hs1 hO hOR;go_wp2_with fail;refine(xK w1 A c T (HA.out.1.no H1.out.sm) hl HA.out.2.1).mono ?_;rintro e w2 ⟨vT,rfl,hvT,hs2⟩;obtain⟨AT,cT,rfl,_⟩:=ak hvT;obtain⟨s,hse⟩:=Iu w2.heap.size;obtain⟨w3,hw3⟩:∃ w3,w2.alloc (.cells #[.pointer (some ⟨r,0,none⟩),.slice AT T.length cT] 118)=w3:=⟨_,rfl⟩;have hs3:Sm No w2 w3:=by rw [←hw3];exact(Sm.refl _ _).alloc _
    have hB3:Bk w3 s 118 #[.pointer (some ⟨r,0,none⟩),.slice AT T.length cT]:=by rw [←hw3,←hse];exact Bk.new w2 _ _
    have hvT3:CF w3 0 (.slice AT T.length cT) T:=bc (aa hvT hs3 (fun _ _ h=>h)) (fun b _=>Nat.zero_le b);have hws:w.heap.size≤s:=by rw [←hse];exact Nat.le_trans H1.out.sm.size hs2.size
    have hvTw:∀ b,(Value.slice AT T.length cT).ownBlock=some b→w.heap.size≤b:=fun b hb=>Nat.le_trans H1.out.sm.size (World.ownsRow.lt hvT b hb).1;have hR3:jG w w3 (fun b=>b=s∨(Value.slice AT T.length cT).ownBlock=some b) r []:=H1.out.more (hs2.tt hs3) (fun b hb=>by
     rcases hb with rfl|hb
     ·exact⟨Or.inr (by rw [←hse];exact hs2.size),hB3.lt⟩
     ·exact⟨Or.inr (World.ownsRow.lt hvT b hb).1,jh hvT3 hb⟩)
    have c0:=hB3.at 0 (v:=.pointer (some ⟨r,0,none⟩)) rfl;have hsl:=hB3.lt;have H3:=ns (BT hR3 (BT hB3 (BT hvT3 (BT hws (BT hvTw (World.ownsRow.lt hvT))))));have HW3:=ns (BT hw3 hse);clear hs2 hvT hse hw3 hs3 hB3 hvT3 hws hvTw hR3;go_wp2_with fail;rw [HW3.out.1,HW3.out.2];have H4:=ns (BT H3.out.1 (BT H3.out.2.1 H3.out.2.2.1));have hz3:w3.heap.size=s+1:=by rw [←HW3.out.1,←HW3.out.2];simp
    have HZ3:=ns hz3;clear hz3;refine(kN (w:=w) (A:=some ⟨s+1,0,none⟩) (c:=1) (s:=⟨#[47,101,99,104,111]⟩) (id:=1) (ms:=[[80,79,83,84]]) (H4.out.1.no ((Sm.refl No w3).alloc (.cells #[.string ⟨#[80,79,83,84]⟩] 9))) HA.out.2.2.2 tN.nil (by decide) (io (Bk.newAt w3 9 #[.string ⟨#[80,79,83,84]⟩] HZ3.out.symm)) (fun e=>by cases e) (by decide) (by decide)).mono ?_;rintro e w5 ⟨rfl,hR,hs⟩;rw [Ce];rw [GG] at hR;have hB:=(H4.out.2.1.alloc (.cells #[.string ⟨#[80,79,83,84]⟩] 9)).sm hs (fun h=>h (Or.inl rfl));have hv:=aa (World.ownsRow.alloc H4.out.2.2 (.cells #[.string ⟨#[80,79,83,84]⟩] 9)) hs (fun b hb h=>h (Or.inr hb));have c0:=hB.at 0 (v:=.pointer (some ⟨r,0,none⟩)) rfl;have hsl:=hB.lt;have H5:=ns (BT hR (BT hB hv));clear hR hs hB hv;go_wp2_with fail;refine(kN (w:=w) (A:=some ⟨w5.heap.size,0,none⟩) (c:=1) (s:=⟨#[47,107,101,121]⟩) (id:=2) (ms:=[[71,69,84]]) (H5.out.1.no ((Sm.refl No w5).alloc (.cells #[.string ⟨#[71,69,84]⟩] 9))) HA.out.2.2.2 ⟨by decide,by decide⟩ (by decide) (io (Bk.new w5 9 #[.string ⟨#[71,69,84]⟩])) (fun e=>by cases e) (by decide) (by decide)).mono ?_;rintro e w6 ⟨rfl,hR,hs⟩;rw [D2];rw [GE] at hR;have hB:=(H5.out.2.1.alloc (.cells #[.string ⟨#[71,69,84]⟩] 9)).sm hs (fun h=>h (Or.inl rfl));have hv:=aa (World.ownsRow.alloc H5.out.2.2 (.cells #[.string ⟨#[71,69,84]⟩] 9)) hs (fun b hb h=>h (Or.inr hb));have c0:=hB.at 0 (v:=.pointer (some ⟨r,0,none⟩)) rfl;have hsl:=hB.lt;have H6:=ns (BT hR (BT hB hv));clear hR hs hB hv;go_wp2_with fail;refine(kN (w:=w) (A:=some ⟨w6.heap.size,0,none⟩) (c:=1) (s:=⟨#[47,115,116,97,116,117,115]⟩) (id:=3) (ms:=[[71,69,84]]) (H6.out.1.no ((Sm.refl No w6).alloc (.cells #[.string ⟨#[71,69,84]⟩] 9))) HA.out.2.2.2 ⟨by decide,by decide⟩ (by decide) (io (Bk.new w6 9 #[.string ⟨#[71,69,84]⟩])) (fun e=>by cases e) (by decide) (by decide)).mono ?_;rintro e w7 ⟨rfl,hR,hs⟩;rw [DJ];rw [GQ] at hR;have hB:=(H6.out.2.1.alloc (.cells #[.string ⟨#[71,69,84]⟩] 9)).sm hs (fun h=>h (Or.inl rfl));have hv:=aa (World.ownsRow.alloc H6.out.2.2 (.cells #[.string ⟨#[71,69,84]⟩] 9)) hs (fun b hb h=>h (Or.inr hb));have c0:=hB.at 0 (v:=.pointer (some ⟨r,0,none⟩)) rfl;have hsl:=hB.lt;have H7:=ns (BT hR (BT hB hv));clear hR hs hB hv;go_wp2_with fail
    go_loopw [50] (fun i wr=>It w T r s AT cT i wr) (fun i _=>T.length-(intOf i).toNat)
    case atStart=>exact⟨0,Nat.zero_le _,rfl,by rw [List.take_zero];exact H7.out.1,H7.out.2.1,H7.out.2.2,DC T⟩
    case round=>
     obtain⟨k,hk,rfl,hR,hB,hv,hap⟩:=hrel;have c0:=hB.at 0 (v:=.pointer (some ⟨r,0,none⟩)) rfl;have hsl:=hB.lt;have H8:=ns (BT hR (BT hB (BT hv hap)));clear hR hB hv hap;by_cases hlt:k < T.length
     ·obtain⟨x,hx⟩:∃ x,T[k]?=some x:=⟨_,List.getElem?_eq_getElem hlt⟩;obtain⟨t1,t2,t3⟩:=fj hx;obtain⟨bb,off,hAe,hbb,r0⟩:=(HA.out.1.no H8.out.1.sm).at t1;subst hAe;obtain⟨_,_,hA1,_,r1⟩:=(HA.out.1.no H8.out.1.sm).at t2;injection hA1 with hA1;injection hA1 with e1 e2;subst e1 e2;obtain⟨_,_,hA1,_,r2⟩:=(HA.out.1.no H8.out.1.sm).at t3;injection hA1 with hA1;injection hA1 with e1 e2;subst e1 e2;rw [show off+(k * 3+1)=off+k * 3+1 by omega] at r1;rw [show off+(k * 3+2)=off+k * 3+2 by omega] at r2;have k1:(0:Int)≤(k:Int):=by omega
      have k2:(k:Int) < (T.length:Int):=by omega
      obtain⟨s1,s2,s3⟩:=HA.out.2.2.1 x (List.mem_of_getElem? hx);have hk40:k < 40:=by omega
      have hadd:=E1 (T:=T.take k) (qf HT.out (List.mem_of_getElem? hx)) (by rw [List.length_take];omega) k;have hap1:=CA hx;have hlaid:=D0 (i:=k) hx;have HX:=ns (BT hx (BT hadd (BT hap1 hlaid)));clear hx t1 t2 t3 hadd hap1 hlaid;have i3:IntKind.i64.wrap (10+(k:Int))=10+(k:Int):=IntWalk.i64_in _ (by omega);have hs2:Sm No wr (((wr.alloc (.cells #[.string x.path,.string x.type,.string x.data] 50)).alloc (.cells #[.string ⟨#[71,69,84]⟩] 9)).drew):=(((Sm.refl No wr).alloc _).alloc _).drew;have hbM:Bk (((wr.alloc (.cells #[.string x.path,.string x.type,.string x.data] 50)).alloc (.cells #[.string ⟨#[71,69,84]⟩] 9)).drew) (wr.heap.size+1) 9 #[.string ⟨#[71,69,84]⟩]:=(Bk.newAt _ _ _ (by simp)).drew;have hbX:Bk (((wr.alloc (.cells #[.string x.path,.string x.type,.string x.data] 50)).alloc (.cells #[.string ⟨#[71,69,84]⟩] 9)).drew) wr.heap.size 50 #[.string x.path,.string x.type,.string x.data]:=((Bk.new wr _ _).alloc _).drew;have hR2:jG w (((wr.alloc (.cells #[.string x.path,.string x.type,.string x.data] 50)).alloc (.cells #[.string ⟨#[71,69,84]⟩] 9)).drew) (fun b=>(b=s∨(Value.slice AT T.length cT).ownBlock=some b)∨b=wr.heap.size) r (am (T.take k)):=H8.out.1.more hs2 (fun b hb=>by
       rcases hb with hb|rfl
       ·refine⟨Or.inl hb,Nat.lt_of_lt_of_le ?_ hs2.size⟩;obtain⟨_,_,_,_,h4⟩:=H8.out.1;exact(h4 b hb).1
       ·exact⟨Or.inr (Nat.le_refl _),hbX.lt⟩)
      have HN:=ns (BT hs2 (BT hbM (BT hbX hR2)));have hTk:(T.take k).length≤40:=by rw [List.length_take];omega
      clear hs2 hbM hbX hR2;by_cases hm:ab x.path∈jH::gO::dE (T.take k)
      ·have HC:=ns (HX.out.2.1.trans (if_pos hm));have HE:=ns (BD HX.out.1 (List.mem_cons_of_mem _ hm));obtain⟨L',hL'⟩:=Iu (iJ (am (T.take k)) (cX k x));have HS':=ns hL';clear hm hL';go_wp2_with fail
       go_region_held3 (fun w'=>w'.cell? ⟨s,0,none⟩=some (.pointer (some ⟨r,0,none⟩))∧w'.cell? ⟨wr.heap.size,0,none⟩=some (.string x.path)) (first|exact⟨hB9.at 0 rfl,hX9.at 0 rfl⟩|go_keep)
        ((go_at_call 55;(with_reducible refine(uo HC HS' HN.out.2.2.2 HA.out.2.2.2 hTk s1 HN.out.2.1).mono ?_);rintro e w9 ⟨rfl,hR9,hs9⟩;have hB9:=(H8.out.2.1.sm HN.out.1 (fun h=>h)).sm hs9 (fun h=>h (Or.inl (Or.inl rfl)));have hX9:=HN.out.2.2.1.sm hs9 (fun h=>h (Or.inr rfl))))
       all_goals
        have HF:=ns (od (w:=w) HT.out HE.out hR9.sm);go_wp2_with fail;go_ret2;exact HF.out
      ·have HC:=ns (HX.out.2.1.trans (if_neg hm));have HS':=ns (HX.out.2.2.2 HC.out);have HAp:=ns (HX.out.2.2.1.2 ⟨H8.out.2.2.2,hm⟩);clear hm;go_wp2_with fail
       go_region_held3 (fun w'=>w'.cell? ⟨s,0,none⟩=some (.pointer (some ⟨r,0,none⟩))∧w'.cell? ⟨wr.heap.size,0,none⟩=some (.string x.path)) (first|exact⟨hB9.at 0 rfl,hX9.at 0 rfl⟩|go_keep)
        ((go_at_call 55;(with_reducible refine(uo HC HS' HN.out.2.2.2 HA.out.2.2.2 hTk s1 HN.out.2.1).mono ?_);rintro e w9 ⟨rfl,hR9,hs9⟩;have hB9:=(H8.out.2.1.sm HN.out.1 (fun h=>h)).sm hs9 (fun h=>h (Or.inl (Or.inl rfl)));have hX9:=HN.out.2.2.1.sm hs9 (fun h=>h (Or.inr rfl))))
       all_goals
        have HF:=ns (BT (hR9.more (K2:=fun b=>b=s∨(Value.slice AT T.length cT).ownBlock=some b) (Sm.refl No w9) (fun b hb=>⟨Or.inl (Or.inl hb),by obtain⟨_,_,_,_,h4⟩:=hR9;exact(h4 b (Or.inl hb)).1⟩)) (BT hB9 (aa (aa H8.out.2.2.1 HN.out.1 (fun _ _ h=>h)) hs9 (fun b hb h=>h (Or.inl (Or.inr hb))))));clear hR9 hs9 hB9;go_wp2_with fail;exact⟨⟨k+1,by omega,by go_num,HF.out.1,HF.out.2.1,HF.out.2.2,HAp.out⟩,by simp [intOf];omega⟩
     ·obtain rfl:k=T.length:=by omega
      have hR:=H8.out.1;have hap:=H8.out.2.2.2;rw [List.take_length] at hR;have H9:=ns (BT hR (BT H8.out.2.1 (BT H8.out.2.2.1 hap)));clear hR hap;obtain⟨wb,rfl⟩:∃ wb:World,wb=wr:=⟨_,rfl⟩;go_wp2_with fail
      go_loopw [70] (fun i wr'=>IJ wb T i wr') (fun i _=>T.length-(intOf i).toNat)
      case atStart=>exact⟨0,Nat.zero_le _,rfl,by simp,Sm.refl _ _⟩
      case round=>
       obtain⟨k,hk,rfl,hne,hs⟩:=hrel;have HS3:=ns (BT hs hne);clear hs hne;by_cases hlt:k < T.length
       ·obtain⟨x,hx⟩:∃ x,T[k]?=some x:=⟨_,List.getElem?_eq_getElem hlt⟩;obtain⟨t1,t2,t3⟩:=fj hx;obtain⟨bb,off,hAe,hbb,r0⟩:=((HA.out.1.no H9.out.1.sm).no HS3.out.1).at t1;subst hAe;obtain⟨_,_,hA1,_,r1⟩:=((HA.out.1.no H9.out.1.sm).no HS3.out.1).at t2;injection hA1 with hA1;injection hA1 with e1 e2;subst e1 e2;obtain⟨_,_,hA1,_,r2⟩:=((HA.out.1.no H9.out.1.sm).no HS3.out.1).at t3;injection hA1 with hA1;injection hA1 with e1 e2;subst e1 e2;rw [show off+(k * 3+1)=off+k * 3+1 by omega] at r1;rw [show off+(k * 3+2)=off+k * 3+2 by omega] at r2;have k1:(0:Int)≤(k:Int):=by omega
        have k2:(k:Int) < (T.length:Int):=by omega
        have HX:=ns hx;clear hx t1 t2 t3;by_cases he:ab x.path=fA
        ·have e1:(x.path.toList==[47,101,99,104,111])=true:=by rw [dQ];exact decide_eq_true he
         have HE:=ns (od (w:=w) HT.out (Dg (List.mem_of_getElem? HX.out) he) ((H9.out.1.sm.tt HS3.out.1).alloc (.cells #[.string x.path,.string x.type,.string x.data] 50)));have e2:x.path.toList=[47,101,99,104,111]:=by simpa using e1
         clear he;go_wp2_with fail;go_ret2;exact HE.out
        ·have e1:(x.path.toList==[47,101,99,104,111])=false:=by rw [dQ];exact decide_eq_false he
         have e2:¬x.path.toList=[47,101,99,104,111]:=by simpa using e1
         have HN:=ns (md (p:=fun x=>ab x.path≠fA) HS3.out.2 HX.out he);clear he;go_wp2_with fail;exact⟨⟨k+1,by omega,by go_num,HN.out,HS3.out.1.alloc _⟩,by simp [intOf];omega⟩
       ·obtain rfl:k=T.length:=by omega
        have hne:=HS3.out.2;rw [List.take_length] at hne;have hap:dJ T=0:=by unfold dJ;rw [if_pos HT.out,if_pos (Eg H9.out.2.2.2 hne)]
        have HAp:=ns hap;clear hne hap;go_wp2_with fail;go_ret2;obtain⟨Q,g1,g2,g3,g4⟩:=H9.out.1;have hB:=(H9.out.2.1.sm HS3.out.1 (fun h=>h));have hv:=aa H9.out.2.2.1 HS3.out.1 (fun _ _ h=>h);refine Or.inl ⟨HAp.out,s,fun b=>Q b∨b=s∨(Value.slice AT T.length cT).ownBlock=some b,rfl,⟨Q,r,_,g1.no HS3.out.1,hB,hv,fun b hb=>hb,fun b hb=> ?_⟩,g2.tt HS3.out.1,fun b hb=> ?_⟩
        ·rcases hb with hb|rfl|hb
         ·exact(g1.no HS3.out.1).ltO b hb
         ·exact hB.lt
         ·exact jh hv hb
        ·rcases hb with hb|rfl|hb
         ·exact g3 b hb
         ·exact H3.out.2.2.2.1
         ·exact H3.out.2.2.2.2.1 b hb
end Go.Proofs.YtcflkcbogofgbaaGreatDoor
