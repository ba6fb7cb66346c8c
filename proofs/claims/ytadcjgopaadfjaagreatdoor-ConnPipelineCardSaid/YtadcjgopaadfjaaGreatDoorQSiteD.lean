import Derived.Test.YtadcjgopaadfjaaGreatDoorQS
import Derived.IntWalk
set_option maxHeartbeats 8000000
set_option maxRecDepth 100000
namespace Go.Proofs.YtadcjgopaadfjaaGreatDoor
open Go.RowKit Go.Proofs
theorem sS{x:br}{b:Bool}(hb:Hid (fZ x=b))(w:World)(hg:G0 w)(hp:x.path.size≤800000)(ht:x.type.size≤800000)(hd:x.data.size≤800000):
 Calls Tryz.prog 56 #[.agg #[.string x.path,.string x.type,.string x.data]] w fun e w'=>e=.returned (.bool b)∧Sm No w w':=by
 rw [←hb.out];exact uf w hg x (by omega) (by omega) (by omega)
theorem vJ:bW [] ⟨af ⟨#[47,101,99,104,111]⟩,1,[[80,79,83,84]]⟩=0:=by decide+kernel
theorem uD:bW [⟨dX,1,[nW]⟩] ⟨af ⟨#[47,107,101,121]⟩,2,[[71,69,84]]⟩=0:=by decide+kernel
theorem wF:bW [⟨dX,1,[nW]⟩,⟨gH,2,[lX]⟩] ⟨af ⟨#[47,115,116,97,116,117,115]⟩,3,[[71,69,84]]⟩=0:=by decide+kernel
theorem BP:fX [] ⟨af ⟨#[47,101,99,104,111]⟩,1,[[80,79,83,84]]⟩=[⟨dX,1,[nW]⟩]:=by unfold fX;rw [if_pos vJ];rfl
theorem BX:fX [⟨dX,1,[nW]⟩] ⟨af ⟨#[47,107,101,121]⟩,2,[[71,69,84]]⟩=[⟨dX,1,[nW]⟩,⟨gH,2,[lX]⟩]:=by unfold fX;rw [if_pos uD];rfl
theorem BS:fX [⟨dX,1,[nW]⟩,⟨gH,2,[lX]⟩] ⟨af ⟨#[47,115,116,97,116,117,115]⟩,3,[[71,69,84]]⟩=ao []:=by unfold fX;rw [if_pos wF];rfl
theorem oD{T:List br}{w w':World}(h:bO T=false)(hs:Sm No w w'):qv w T (.returned (.tuple #[.pointer none,.int .i64 1])) w':=by
 have e:cD T=1:=by unfold cD;rw [if_neg (by rw [h];decide)]
 exact Or.inr ⟨by rw [e];decide,by rw [e],hs⟩
theorem na{T:List br}{w w':World}(h:bO T=true)(h2:dC T=false)(hs:Sm No w w'):qv w T (.returned (.tuple #[.pointer none,.int .i64 11])) w':=by
 have e:cD T=11:=by unfold cD;rw [if_pos h,if_neg (by rw [h2];decide)]
 exact Or.inr ⟨by rw [e];decide,by rw [e],hs⟩
theorem eC{T:List br}{x:br}(hx:x∈T)(h:fZ x=false):bO T=false:=by
 cases ht:bO T with
 |false=>rfl
 |true=>rw [lm ht hx] at h;cases h
theorem rl{T:List br}(hl:T.length≤40)(h:∀ x∈T,fZ x=true):bO T=true:=by
 unfold bO;rw [Bool.and_eq_true,decide_eq_true_eq];exact⟨hl,List.all_eq_true.2 h⟩
theorem gD{α:Type}{l:List α}{p:α→Prop}{k:Nat}{x:α}(h:∀ y∈l.take k,p y)(hk:l[k]?=some x)(hp:p x):∀ y∈l.take (k+1),p y:=by
 intro y hy;rw [List.take_add_one,hk] at hy;rcases List.mem_append.1 hy with hy|hy
 ·exact h y hy
 ·have:y=x:=by simpa using hy
  rw [this];exact hp
theorem tF{w w1:World}{K:Nat→Prop}{r k b:Nat}{T:List br}{x:br}{cd:Int}{L':List Lt}(hc:Hid (bW (ao T) (bU k x)=cd))(hS:Hid (fX (ao T) (bU k x)=L'))(h:ja w w1 K r (ao T))(hg:G0 w)(hT:T.length≤40)(hs:x.path.size≤800000)(hb:Bk w1 b 9 #[.string ⟨#[71,69,84]⟩]):
 Calls Tryz.prog 59 #[.pointer (some ⟨r,0,none⟩),.string x.path,.int .i64 (10+(k:Int)),.slice (some ⟨b,0,none⟩) 1 1] w1 fun e w2=>e=.returned (.int .i64 cd)∧ja w w2 K r L'∧Sm (fun b=>¬K b) w1 w2:=by
 have e:(⟨af x.path,10+(k:Int),[[71,69,84]]⟩:Lt)=bU k x:=by
  unfold bU;congr 1
 have:=ko (w:=w) (A:=some ⟨b,0,none⟩) (c:=1) (s:=x.path) (id:=10+(k:Int)) (ms:=[[71,69,84]]) h hg (iD hT) hs (dt hb) (fun e=>by cases e) (by decide) (by decide);rw [e,hc.out,hS.out] at this;exact this
def F6(w:World)(T:List br)(i:Value)(wr:World):Prop:=∃ k:Nat,k≤T.length∧i=.int .i64 k∧(∀ x∈T.take k,fZ x=true)∧Sm No w wr
def GN(w:World)(T:List br)(i:Value)(wr:World):Prop:=∃ k:Nat,k≤T.length∧i=.int .i64 k∧(∀ x∈T.take k,af x.path≠dX)∧Sm No w wr
def GG(w:World)(T:List br)(r s:Nat)(AT:Option Addr)(cT:Nat)(i:Value)(wr:World):Prop:=
 ∃ k:Nat,k≤T.length∧i=.int .i64 k∧ja w wr (fun b=>b=s∨(Value.slice AT T.length cT).ownBlock=some b) r (ao (T.take k))∧Bk wr s 107 #[.pointer (some ⟨r,0,none⟩),.slice AT T.length cT]∧World.ownsRow wr 0 101 3 (.slice AT T.length cT) T.length (bB T)∧Fc T k
theorem BN(w:World)(hg:G0 w)(A:Option Addr)(c:Nat)(T:List br)(hA:ax w A (bB T))(h0:A=none→T.length=0∧c=0)(hl:T.length≤1000000)(hsm:nM T):
 Calls Tryz.prog 31 #[.slice A T.length c] w (qv w T):=by
 have HA:=aa (ab hA (ab h0 (ab hsm hg)));clear hA h0 hsm hg;by_cases h40:40 < T.length
 ·have HE:=aa (oD (w:=w) (w':=w) (T:=T) (by
   cases ht:bO T with
   |false=>rfl
   |true=>have:=pw ht;omega) (Sm.refl _ _))
  go_in;go_wp2_with fail;go_ret2;exact HE.out
 ·go_in;go_wp2_with fail
  go_loopw [17] (fun i wr=>F6 w T i wr) (fun i _=>T.length-(intOf i).toNat)
  case atStart=>exact⟨0,Nat.zero_le _,rfl,by simp,Sm.refl _ _⟩
  case round=>
   obtain⟨k,hk,rfl,hall,hs⟩:=hrel;have HS:=aa (ab hs hall);clear hs hall;by_cases hlt:k < T.length
   ·obtain⟨x,hx⟩:∃ x,T[k]?=some x:=⟨_,List.getElem?_eq_getElem hlt⟩;obtain⟨t1,t2,t3⟩:=cW hx;obtain⟨bb,off,hAe,hbb,r0⟩:=(HA.out.1.no HS.out.1).at t1;subst hAe;obtain⟨_,_,hA1,_,r1⟩:=(HA.out.1.no HS.out.1).at t2;injection hA1 with hA1;injection hA1 with e1 e2;subst e1 e2;obtain⟨_,_,hA1,_,r2⟩:=(HA.out.1.no HS.out.1).at t3;injection hA1 with hA1;injection hA1 with e1 e2;subst e1 e2;rw [show off+(k * 3+1)=off+k * 3+1 by omega] at r1;rw [show off+(k * 3+2)=off+k * 3+2 by omega] at r2;have k1:(0:Int)≤(k:Int):=by omega
    have k2:(k:Int) < (T.length:Int):=by omega
    obtain⟨s1,s2,s3⟩:=HA.out.2.2.1 x (List.mem_of_getElem? hx);obtain⟨b,hb⟩:=ai (fZ x);have HB:=aa hb;have HX:=aa hx;clear hx t1 t2 t3 hb;go_wp2_with fail;refine(sS HB _ (HA.out.2.2.2.no (HS.out.1.alloc _)) s1 s2 s3).mono ?_;rintro e w4 ⟨rfl,hs4⟩;have HS4:=aa ((HS.out.1.alloc (.cells #[.string x.path,.string x.type,.string x.data] 101)).tt hs4);clear hs4 r0 r1 r2
    cases b with
    |true=>
     go_wp2_with fail;exact⟨⟨k+1,by omega,by go_num,gD HS.out.2 HX.out HB.out,HS4.out⟩,by simp [intOf];omega⟩
    |false=>
     have HE:=aa (oD (w:=w) (eC (List.mem_of_getElem? HX.out) HB.out) HS4.out);go_wp2_with fail;go_ret2;exact HE.out
   ·obtain rfl:k=T.length:=by omega
    have ht:=HS.out.2;rw [List.take_length] at ht;have HT:=aa (rl (by omega) ht);clear ht;go_wp2_with fail;refine(Ej wr).mono ?_;rintro e w1 ⟨r,O,rfl,hR,hs1,hO⟩;have hOR:ja w w1 No r []:=⟨O,hR,HS.out.1.tt hs1,fun b hb=>Nat.le_trans HS.out.1.size (hO b hb),fun b hb=>hb.elim⟩;have H1:=aa hOR;clear hR hs1 hO hOR;go_wp2_with fail;refine(wH w1 A c T (HA.out.1.no H1.out.sm) hl HA.out.2.1).mono ?_;rintro e w2 ⟨vT,rfl,hvT,hs2⟩;obtain⟨AT,cT,rfl,_⟩:=au hvT;obtain⟨s,hse⟩:=ai w2.heap.size;obtain⟨w3,hw3⟩:∃ w3,w2.alloc (.cells #[.pointer (some ⟨r,0,none⟩),.slice AT T.length cT] 107)=w3:=⟨_,rfl⟩;have hs3:Sm No w2 w3:=by rw [←hw3];exact(Sm.refl _ _).alloc _
    have hB3:Bk w3 s 107 #[.pointer (some ⟨r,0,none⟩),.slice AT T.length cT]:=by rw [←hw3,←hse];exact Bk.new w2 _ _
    have hvT3:uU w3 0 (.slice AT T.length cT) T:=bI (ae hvT hs3 (fun _ _ h=>h)) (fun b _=>Nat.zero_le b);have hws:w.heap.size≤s:=by rw [←hse];exact Nat.le_trans H1.out.sm.size hs2.size
    have hvTw:∀ b,(Value.slice AT T.length cT).ownBlock=some b→w.heap.size≤b:=fun b hb=>Nat.le_trans H1.out.sm.size (World.ownsRow.lt hvT b hb).1;have hR3:ja w w3 (fun b=>b=s∨(Value.slice AT T.length cT).ownBlock=some b) r []:=H1.out.more (hs2.tt hs3) (fun b hb=>by
     rcases hb with rfl|hb
     ·exact⟨Or.inr (by rw [←hse];exact hs2.size),hB3.lt⟩
     ·exact⟨Or.inr (World.ownsRow.lt hvT b hb).1,fY hvT3 hb⟩)
    have c0:=hB3.at 0 (v:=.pointer (some ⟨r,0,none⟩)) rfl;have hsl:=hB3.lt;have H3:=aa (ab hR3 (ab hB3 (ab hvT3 (ab hws (ab hvTw (World.ownsRow.lt hvT))))));have HW3:=aa (ab hw3 hse);clear hs2 hvT hse hw3 hs3 hB3 hvT3 hws hvTw hR3;go_wp2_with fail;rw [HW3.out.1,HW3.out.2];have H4:=aa (ab H3.out.1 (ab H3.out.2.1 H3.out.2.2.1));have hz3:w3.heap.size=s+1:=by rw [←HW3.out.1,←HW3.out.2];simp
    have HZ3:=aa hz3;clear hz3;refine(ko (w:=w) (A:=some ⟨s+1,0,none⟩) (c:=1) (s:=⟨#[47,101,99,104,111]⟩) (id:=1) (ms:=[[80,79,83,84]]) (H4.out.1.no ((Sm.refl No w3).alloc (.cells #[.string ⟨#[80,79,83,84]⟩] 9))) HA.out.2.2.2 oa.nil (by decide) (dt (Bk.newAt w3 9 #[.string ⟨#[80,79,83,84]⟩] HZ3.out.symm)) (fun e=>by cases e) (by decide) (by decide)).mono ?_;rintro e w5 ⟨rfl,hR,hs⟩;rw [vJ];rw [BP] at hR;have hB:=(H4.out.2.1.alloc (.cells #[.string ⟨#[80,79,83,84]⟩] 9)).sm hs (fun h=>h (Or.inl rfl));have hv:=ae (World.ownsRow.alloc H4.out.2.2 (.cells #[.string ⟨#[80,79,83,84]⟩] 9)) hs (fun b hb h=>h (Or.inr hb));have c0:=hB.at 0 (v:=.pointer (some ⟨r,0,none⟩)) rfl;have hsl:=hB.lt;have H5:=aa (ab hR (ab hB hv));clear hR hs hB hv;go_wp2_with fail;refine(ko (w:=w) (A:=some ⟨w5.heap.size,0,none⟩) (c:=1) (s:=⟨#[47,107,101,121]⟩) (id:=2) (ms:=[[71,69,84]]) (H5.out.1.no ((Sm.refl No w5).alloc (.cells #[.string ⟨#[71,69,84]⟩] 9))) HA.out.2.2.2 ⟨by decide,by decide⟩ (by decide) (dt (Bk.new w5 9 #[.string ⟨#[71,69,84]⟩])) (fun e=>by cases e) (by decide) (by decide)).mono ?_;rintro e w6 ⟨rfl,hR,hs⟩;rw [uD];rw [BX] at hR;have hB:=(H5.out.2.1.alloc (.cells #[.string ⟨#[71,69,84]⟩] 9)).sm hs (fun h=>h (Or.inl rfl));have hv:=ae (World.ownsRow.alloc H5.out.2.2 (.cells #[.string ⟨#[71,69,84]⟩] 9)) hs (fun b hb h=>h (Or.inr hb));have c0:=hB.at 0 (v:=.pointer (some ⟨r,0,none⟩)) rfl;have hsl:=hB.lt;have H6:=aa (ab hR (ab hB hv));clear hR hs hB hv;go_wp2_with fail;refine(ko (w:=w) (A:=some ⟨w6.heap.size,0,none⟩) (c:=1) (s:=⟨#[47,115,116,97,116,117,115]⟩) (id:=3) (ms:=[[71,69,84]]) (H6.out.1.no ((Sm.refl No w6).alloc (.cells #[.string ⟨#[71,69,84]⟩] 9))) HA.out.2.2.2 ⟨by decide,by decide⟩ (by decide) (dt (Bk.new w6 9 #[.string ⟨#[71,69,84]⟩])) (fun e=>by cases e) (by decide) (by decide)).mono ?_;rintro e w7 ⟨rfl,hR,hs⟩;rw [wF];rw [BS] at hR;have hB:=(H6.out.2.1.alloc (.cells #[.string ⟨#[71,69,84]⟩] 9)).sm hs (fun h=>h (Or.inl rfl));have hv:=ae (World.ownsRow.alloc H6.out.2.2 (.cells #[.string ⟨#[71,69,84]⟩] 9)) hs (fun b hb h=>h (Or.inr hb));have c0:=hB.at 0 (v:=.pointer (some ⟨r,0,none⟩)) rfl;have hsl:=hB.lt;have H7:=aa (ab hR (ab hB hv));clear hR hs hB hv;go_wp2_with fail
    go_loopw [50] (fun i wr=>GG w T r s AT cT i wr) (fun i _=>T.length-(intOf i).toNat)
    case atStart=>exact⟨0,Nat.zero_le _,rfl,by rw [List.take_zero];exact H7.out.1,H7.out.2.1,H7.out.2.2,Ci T⟩
    case round=>
     obtain⟨k,hk,rfl,hR,hB,hv,hap⟩:=hrel;have c0:=hB.at 0 (v:=.pointer (some ⟨r,0,none⟩)) rfl;have hsl:=hB.lt;have H8:=aa (ab hR (ab hB (ab hv hap)));clear hR hB hv hap;by_cases hlt:k < T.length
     ·obtain⟨x,hx⟩:∃ x,T[k]?=some x:=⟨_,List.getElem?_eq_getElem hlt⟩;obtain⟨t1,t2,t3⟩:=cW hx;obtain⟨bb,off,hAe,hbb,r0⟩:=(HA.out.1.no H8.out.1.sm).at t1;subst hAe;obtain⟨_,_,hA1,_,r1⟩:=(HA.out.1.no H8.out.1.sm).at t2;injection hA1 with hA1;injection hA1 with e1 e2;subst e1 e2;obtain⟨_,_,hA1,_,r2⟩:=(HA.out.1.no H8.out.1.sm).at t3;injection hA1 with hA1;injection hA1 with e1 e2;subst e1 e2;rw [show off+(k * 3+1)=off+k * 3+1 by omega] at r1;rw [show off+(k * 3+2)=off+k * 3+2 by omega] at r2;have k1:(0:Int)≤(k:Int):=by omega
      have k2:(k:Int) < (T.length:Int):=by omega
      obtain⟨s1,s2,s3⟩:=HA.out.2.2.1 x (List.mem_of_getElem? hx);have hk40:k < 40:=by omega
      have hadd:=xj (T:=T.take k) (lm HT.out (List.mem_of_getElem? hx)) (by rw [List.length_take];omega) k;have hap1:=C6 hx;have hlaid:=sA (i:=k) hx;have HX:=aa (ab hx (ab hadd (ab hap1 hlaid)));clear hx t1 t2 t3 hadd hap1 hlaid;have i3:IntKind.i64.wrap (10+(k:Int))=10+(k:Int):=IntWalk.i64_in _ (by omega);have hs2:Sm No wr (((wr.alloc (.cells #[.string x.path,.string x.type,.string x.data] 101)).alloc (.cells #[.string ⟨#[71,69,84]⟩] 9)).drew):=(((Sm.refl No wr).alloc _).alloc _).drew;have hbM:Bk (((wr.alloc (.cells #[.string x.path,.string x.type,.string x.data] 101)).alloc (.cells #[.string ⟨#[71,69,84]⟩] 9)).drew) (wr.heap.size+1) 9 #[.string ⟨#[71,69,84]⟩]:=(Bk.newAt _ _ _ (by simp)).drew;have hbX:Bk (((wr.alloc (.cells #[.string x.path,.string x.type,.string x.data] 101)).alloc (.cells #[.string ⟨#[71,69,84]⟩] 9)).drew) wr.heap.size 101 #[.string x.path,.string x.type,.string x.data]:=((Bk.new wr _ _).alloc _).drew;have hR2:ja w (((wr.alloc (.cells #[.string x.path,.string x.type,.string x.data] 101)).alloc (.cells #[.string ⟨#[71,69,84]⟩] 9)).drew) (fun b=>(b=s∨(Value.slice AT T.length cT).ownBlock=some b)∨b=wr.heap.size) r (ao (T.take k)):=H8.out.1.more hs2 (fun b hb=>by
       rcases hb with hb|rfl
       ·refine⟨Or.inl hb,Nat.lt_of_lt_of_le ?_ hs2.size⟩;obtain⟨_,_,_,_,h4⟩:=H8.out.1;exact(h4 b hb).1
       ·exact⟨Or.inr (Nat.le_refl _),hbX.lt⟩)
      have HN:=aa (ab hs2 (ab hbM (ab hbX hR2)));have hTk:(T.take k).length≤40:=by rw [List.length_take];omega
      clear hs2 hbM hbX hR2;by_cases hm:af x.path∈gH::fe::cy (T.take k)
      ·have HC:=aa (HX.out.2.1.trans (if_pos hm));have HE:=aa (oZ HX.out.1 (List.mem_cons_of_mem _ hm));obtain⟨L',hL'⟩:=ai (fX (ao (T.take k)) (bU k x));have HS':=aa hL';clear hm hL';go_wp2_with fail
       go_region_held3 (fun w'=>w'.cell? ⟨s,0,none⟩=some (.pointer (some ⟨r,0,none⟩))∧w'.cell? ⟨wr.heap.size,0,none⟩=some (.string x.path)) (first|exact⟨hB9.at 0 rfl,hX9.at 0 rfl⟩|go_keep)
        ((go_at_call 59;(with_reducible refine(tF HC HS' HN.out.2.2.2 HA.out.2.2.2 hTk s1 HN.out.2.1).mono ?_);rintro e w9 ⟨rfl,hR9,hs9⟩;have hB9:=(H8.out.2.1.sm HN.out.1 (fun h=>h)).sm hs9 (fun h=>h (Or.inl (Or.inl rfl)));have hX9:=HN.out.2.2.1.sm hs9 (fun h=>h (Or.inr rfl))))
       all_goals
        have HF:=aa (na (w:=w) HT.out HE.out hR9.sm);go_wp2_with fail;go_ret2;exact HF.out
      ·have HC:=aa (HX.out.2.1.trans (if_neg hm));have HS':=aa (HX.out.2.2.2 HC.out);have HAp:=aa (HX.out.2.2.1.2 ⟨H8.out.2.2.2,hm⟩);clear hm;go_wp2_with fail
       go_region_held3 (fun w'=>w'.cell? ⟨s,0,none⟩=some (.pointer (some ⟨r,0,none⟩))∧w'.cell? ⟨wr.heap.size,0,none⟩=some (.string x.path)) (first|exact⟨hB9.at 0 rfl,hX9.at 0 rfl⟩|go_keep)
        ((go_at_call 59;(with_reducible refine(tF HC HS' HN.out.2.2.2 HA.out.2.2.2 hTk s1 HN.out.2.1).mono ?_);rintro e w9 ⟨rfl,hR9,hs9⟩;have hB9:=(H8.out.2.1.sm HN.out.1 (fun h=>h)).sm hs9 (fun h=>h (Or.inl (Or.inl rfl)));have hX9:=HN.out.2.2.1.sm hs9 (fun h=>h (Or.inr rfl))))
       all_goals
        have HF:=aa (ab (hR9.more (K2:=fun b=>b=s∨(Value.slice AT T.length cT).ownBlock=some b) (Sm.refl No w9) (fun b hb=>⟨Or.inl (Or.inl hb),by obtain⟨_,_,_,_,h4⟩:=hR9;exact(h4 b (Or.inl hb)).1⟩)) (ab hB9 (ae (ae H8.out.2.2.1 HN.out.1 (fun _ _ h=>h)) hs9 (fun b hb h=>h (Or.inl (Or.inr hb))))));clear hR9 hs9 hB9;go_wp2_with fail;exact⟨⟨k+1,by omega,by go_num,HF.out.1,HF.out.2.1,HF.out.2.2,HAp.out⟩,by simp [intOf];omega⟩
     ·obtain rfl:k=T.length:=by omega
      have hR:=H8.out.1;have hap:=H8.out.2.2.2;rw [List.take_length] at hR;have H9:=aa (ab hR (ab H8.out.2.1 (ab H8.out.2.2.1 hap)));clear hR hap;obtain⟨wb,rfl⟩:∃ wb:World,wb=wr:=⟨_,rfl⟩;go_wp2_with fail
      go_loopw [70] (fun i wr'=>GN wb T i wr') (fun i _=>T.length-(intOf i).toNat)
      case atStart=>exact⟨0,Nat.zero_le _,rfl,by simp,Sm.refl _ _⟩
      case round=>
       obtain⟨k,hk,rfl,hne,hs⟩:=hrel;have HS3:=aa (ab hs hne);clear hs hne;by_cases hlt:k < T.length
       ·obtain⟨x,hx⟩:∃ x,T[k]?=some x:=⟨_,List.getElem?_eq_getElem hlt⟩;obtain⟨t1,t2,t3⟩:=cW hx;obtain⟨bb,off,hAe,hbb,r0⟩:=((HA.out.1.no H9.out.1.sm).no HS3.out.1).at t1;subst hAe;obtain⟨_,_,hA1,_,r1⟩:=((HA.out.1.no H9.out.1.sm).no HS3.out.1).at t2;injection hA1 with hA1;injection hA1 with e1 e2;subst e1 e2;obtain⟨_,_,hA1,_,r2⟩:=((HA.out.1.no H9.out.1.sm).no HS3.out.1).at t3;injection hA1 with hA1;injection hA1 with e1 e2;subst e1 e2;rw [show off+(k * 3+1)=off+k * 3+1 by omega] at r1;rw [show off+(k * 3+2)=off+k * 3+2 by omega] at r2;have k1:(0:Int)≤(k:Int):=by omega
        have k2:(k:Int) < (T.length:Int):=by omega
        have HX:=aa hx;clear hx t1 t2 t3;by_cases he:af x.path=dX
        ·have e1:(x.path.toList==[47,101,99,104,111])=true:=by rw [cN];exact decide_eq_true he
         have HE:=aa (na (w:=w) HT.out (Cb (List.mem_of_getElem? HX.out) he) ((H9.out.1.sm.tt HS3.out.1).alloc (.cells #[.string x.path,.string x.type,.string x.data] 101)));have e2:x.path.toList=[47,101,99,104,111]:=by simpa using e1
         clear he;go_wp2_with fail;go_ret2;exact HE.out
        ·have e1:(x.path.toList==[47,101,99,104,111])=false:=by rw [cN];exact decide_eq_false he
         have e2:¬x.path.toList=[47,101,99,104,111]:=by simpa using e1
         have HN:=aa (gD (p:=fun x=>af x.path≠dX) HS3.out.2 HX.out he);clear he;go_wp2_with fail;exact⟨⟨k+1,by omega,by go_num,HN.out,HS3.out.1.alloc _⟩,by simp [intOf];omega⟩
       ·obtain rfl:k=T.length:=by omega
        have hne:=HS3.out.2;rw [List.take_length] at hne;have hap:cD T=0:=by unfold cD;rw [if_pos HT.out,if_pos (BG H9.out.2.2.2 hne)]
        have HAp:=aa hap;clear hne hap;go_wp2_with fail;go_ret2;obtain⟨Q,g1,g2,g3,g4⟩:=H9.out.1;have hB:=(H9.out.2.1.sm HS3.out.1 (fun h=>h));have hv:=ae H9.out.2.2.1 HS3.out.1 (fun _ _ h=>h);refine Or.inl ⟨HAp.out,s,fun b=>Q b∨b=s∨(Value.slice AT T.length cT).ownBlock=some b,rfl,⟨Q,r,_,g1.no HS3.out.1,hB,hv,fun b hb=>hb,fun b hb=> ?_⟩,g2.tt HS3.out.1,fun b hb=> ?_⟩
        ·rcases hb with hb|rfl|hb
         ·exact(g1.no HS3.out.1).ltO b hb
         ·exact hB.lt
         ·exact fY hv hb
        ·rcases hb with hb|rfl|hb
         ·exact g3 b hb
         ·exact H3.out.2.2.2.1
         ·exact H3.out.2.2.2.2.1 b hb
end Go.Proofs.YtadcjgopaadfjaaGreatDoor
