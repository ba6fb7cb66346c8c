import Derived.Test.YtcflkcbogofgbaaGreatDoorQI
import Derived.Test.YtcflkcbogofgbaaGreatDoorQA
import Derived.Deep.QuietTactic
import Derived.BigQuiet
import Derived.Test.YtcflkcbogofgbaaGreatDoorQD
import Derived.Test.YtcflkcbogofgbaaGreatDoorQR
import Derived.Test.YtcflkcbogofgbaaGreatDoorQH
set_option maxHeartbeats 8000000
set_option maxRecDepth 100000
namespace Go.Proofs.YtcflkcbogofgbaaGreatDoor
structure bE where
 path:ByteArray
 type:ByteArray
 data:ByteArray
instance:Inhabited bE:=⟨⟨⟨#[]⟩,⟨#[]⟩,⟨#[]⟩⟩⟩
def jg(x:bE):Bool:=kd (ab x.path)&&(!(ab x.type).isEmpty&&(decide ((ab x.type).length≤100)&&(eg (ab x.type)&&(aw (ab x.type)==ab x.type&&decide ((ab x.data).length≤2048)))))
def px:af:=[80,79,83,84]
def FS:af:=[79,80,84,73,79,78,83]
def fA:af:=[47,101,99,104,111]
def jH:af:=[47,107,101,121]
def gO:af:=[47,115,116,97,116,117,115]
def jS:List Lt:=[⟨fA,1,[px]⟩,⟨jH,2,[na]⟩,⟨gO,3,[na]⟩]
def cX(i:Nat)(x:bE):Lt:=⟨ab x.path,((10+i:Nat):Int),[na]⟩
def ft(i:Nat):List bE→List Lt
 |[]=>[]
 |x::r=>cX i x::ft (i+1) r
def am(T:List bE):List Lt:=jS++ft 0 T
def dE(T:List bE):List af:=T.map fun x=>ab x.path
def cM(T:List bE):Bool:=decide (T.length≤40)&&T.all jg
def fx(T:List bE):Bool:=decide ((fA::jH::gO::dE T).Nodup)
def dJ(T:List bE):Int:=if cM T=true then (if fx T=true then 0 else 11) else 1
theorem py(i:Nat)(T U:List bE):ft i (T++U)=ft i T++ft (i+T.length) U:=by
 induction T generalizing i with
 |nil=>simp [ft]
 |cons x r ih=>
  have e:i+1+r.length=i+(r.length+1):=by omega
  simp only [List.cons_append,ft,ih,List.length_cons,e]
theorem xf(i:Nat)(T:List bE):(ft i T).length=T.length:=by
 induction T generalizing i with
 |nil=>rfl
 |cons x r ih=>simp [ft,ih]
theorem iq(T:List bE):(am T).length=3+T.length:=by
 unfold am;rw [List.length_append,xf];rfl
theorem uz(T:List bE)(x:bE):am (T++[x])=am T++[cX T.length x]:=by
 unfold am;rw [py,List.append_assoc,Nat.zero_add];rfl
theorem sw{T:List bE}{i:Nat}{x:bE}(h:T[i]?=some x):am (T.take (i+1))=am (T.take i)++[cX i x]:=by
 rw [List.take_add_one,h];show am (T.take i++[x])=_;rw [uz];have:(T.take i).length=i:=by
  have:=(List.getElem?_eq_some_iff.1 h).1;rw [List.length_take];omega
 rw [this]
theorem vw{i:Nat}{T:List bE}{y:Lt}:y∈ft i T→∃ k x,T[k]?=some x∧y=cX (i+k) x:=by
 induction T generalizing i with
 |nil=>intro h;simp [ft] at h
 |cons x r ih=>
  intro h;rcases List.mem_cons.1 h with rfl|h
  ·exact⟨0,x,rfl,rfl⟩
  ·obtain⟨k,z,h1,h2⟩:=ih h;exact⟨k+1,z,h1,by rw [h2];congr 1;omega⟩
theorem vZ{i:Nat}{T:List bE}{k:Nat}{x:bE}(h:T[k]?=some x):cX (i+k) x∈ft i T:=by
 induction T generalizing i k with
 |nil=>simp at h
 |cons y r ih=>
  cases k with
  |zero=>simp at h;subst h;exact List.mem_cons_self
  |succ k=>
   have:=ih (i:=i+1) (k:=k) (by simpa using h);rw [show i+1+k=i+(k+1) by omega] at this;exact List.mem_cons_of_mem _ this
theorem eR{T:List bE}{y:Lt}(h:y∈am T):y∈jS∨∃ k x,T[k]?=some x∧y=cX k x:=by
 rcases List.mem_append.1 h with h|h
 ·exact Or.inl h
 ·obtain⟨k,x,h1,h2⟩:=vw h;exact Or.inr ⟨k,x,h1,by rw [h2,Nat.zero_add]⟩
theorem FD{x:bE}(h:jg x=true):rS (ab x.path)=true∧cS (ab x.path)=false∧(ab x.path).length≤200:=by
 unfold jg at h;simp only [Bool.and_eq_true] at h;have h1:=h.1;have h2:=h1;unfold kd at h2;simp only [Bool.and_eq_true,Bool.not_eq_true',decide_eq_true_eq] at h2;refine⟨?_,h2.2,h2.1.1⟩;unfold rS;rw [h2.2];simpa using h1
theorem E1{T:List bE}{x:bE}(hx:jg x=true)(hT:T.length≤39)(i:Nat):ef (am T) (cX i x)=if ab x.path∈jH::gO::dE T then 11 else 0:=by
 obtain⟨h1,h2,h3⟩:=FD hx;have hp:(rS (cX i x).pat&&decide (0≤(cX i x).id)&&(cX i x).ms.all bP)=true:=by
  show (rS (ab x.path)&&decide ((0:Int)≤((10+i:Nat):Int))&&[na].all bP)=true;rw [h1,Bool.true_and,Bool.and_eq_true];exact⟨by rw [decide_eq_true_eq];omega,by decide⟩
 unfold ef;rw [if_pos hp,iq,if_neg (by omega)];have e:((iN (am T) (eX (cX i x).pat)).any (fun y=>ed (cX i x).ms y.ms)=true)↔ab x.path∈jH::gO::dE T:=by
  rw [List.any_eq_true];constructor
  ·rintro⟨y,hy,hc⟩;have hy:=List.mem_filter.1 hy;have e1:y.pat=ab x.path:=by
    have:=hy.2;rw [xS,beq_iff_eq] at this;exact this
   rcases eR hy.1 with hb|⟨k,z,hz,rfl⟩
   ·simp only [jS,List.mem_cons,List.not_mem_nil,or_false] at hb;rcases hb with rfl|rfl|rfl
    ·exact absurd hc (show ¬ed [na] [px]=true by decide)
    ·rw [←e1];exact List.mem_cons_self
    ·rw [←e1];exact List.mem_cons_of_mem _ List.mem_cons_self
   ·rw [←e1];exact List.mem_cons_of_mem _ (List.mem_cons_of_mem _ (List.mem_map.2 ⟨z,List.mem_of_getElem? hz,rfl⟩))
  ·intro hm;have hall:∀ y:Lt,y.ms=[na]→ed (cX i x).ms y.ms=true:=fun y hy=>by rw [hy];exact(show ed [na] [na]=true by decide)
   have hsel:∀ y∈am T,y.pat=ab x.path→y∈iN (am T) (eX (cX i x).pat):=fun y hy e=>List.mem_filter.2 ⟨hy,by rw [xS];simpa [cX] using e⟩;rcases List.mem_cons.1 hm with e|hm
   ·exact⟨⟨jH,2,[na]⟩,hsel _ (List.mem_append_left _ (by simp [jS])) e.symm,hall _ rfl⟩
   ·rcases List.mem_cons.1 hm with e|hm
    ·exact⟨⟨gO,3,[na]⟩,hsel _ (List.mem_append_left _ (by simp [jS])) e.symm,hall _ rfl⟩
    ·obtain⟨z,hz,e⟩:=List.mem_map.1 hm;obtain⟨k,hk⟩:=List.mem_iff_getElem?.1 hz;exact⟨cX k z,hsel _ (List.mem_append_right _ (by have:=vZ (i:=0) hk;rwa [Nat.zero_add] at this)) e,hall _ rfl⟩
 by_cases hm:ab x.path∈jH::gO::dE T
 ·rw [if_pos (e.2 hm),if_pos hm]
 ·rw [if_neg (fun h=>hm (e.1 h)),if_neg hm]
theorem D0{T:List bE}{i:Nat}{x:bE}(h:T[i]?=some x)(hc:ef (am (T.take i)) (cX i x)=0):iJ (am (T.take i)) (cX i x)=am (T.take (i+1)):=by
 unfold iJ;rw [if_pos hc,sw h]
theorem nJ{T:List bE}{i:Nat}{x:bE}(h:T[i]?=some x):dE (T.take (i+1))=dE (T.take i)++[ab x.path]:=by
 unfold dE;rw [List.take_add_one,h];simp
def Gs(T:List bE)(i:Nat):Prop:=(jH::gO::dE (T.take i)).Nodup
def Ip(T:List bE)(i:Nat):Prop:=(fA::jH::gO::dE (T.take i)).Nodup
theorem DC(T:List bE):Gs T 0:=(show (jH::gO::[]).Nodup by decide)
theorem nT{l:List af}{x:af}:(l++[x]).Nodup↔l.Nodup∧x∉l:=by
 rw [List.nodup_append];constructor
 ·rintro⟨h1,_,h3⟩;exact⟨h1,fun hx=>h3 x hx x (by simp) rfl⟩
 ·rintro⟨h1,h2⟩;exact⟨h1,by simp,fun a ha b hb e=>by rw [List.mem_singleton] at hb;subst hb;subst e;exact h2 ha⟩
theorem CA{T:List bE}{i:Nat}{x:bE}(h:T[i]?=some x):Gs T (i+1)↔Gs T i∧ab x.path∉jH::gO::dE (T.take i):=by
 unfold Gs;rw [nJ h,←List.cons_append,←List.cons_append,nT]
theorem CQ{T:List bE}{i:Nat}{x:bE}(h:T[i]?=some x):Ip T (i+1)↔Ip T i∧ab x.path∉fA::jH::gO::dE (T.take i):=by
 unfold Ip;rw [nJ h,←List.cons_append,←List.cons_append,←List.cons_append,nT]
theorem BY(T:List bE)(i:Nat):dE (T.take i) <+:dE T:=by
 unfold dE;exact List.IsPrefix.map _ (List.take_prefix i T)
theorem Ax{a b:List af}(h:a <+:b)(hb:b.Nodup):a.Nodup:=List.Nodup.sublist h.sublist hb
theorem Ap{T:List bE}(h:fx T=true)(i:Nat):Ip T i:=by
 unfold fx at h;rw [decide_eq_true_eq] at h;exact Ax (by obtain⟨t,e⟩:=BY T i;exact⟨t,by rw [←e];rfl⟩) h
theorem BD{T:List bE}{i:Nat}{x:bE}(h:T[i]?=some x)(hm:ab x.path∈fA::jH::gO::dE (T.take i)):fx T=false:=by
 cases ha:fx T with
 |false=>rfl
 |true=>exact absurd hm ((CQ h).1 (Ap ha (i+1))).2
theorem Dg{T:List bE}{x:bE}(hx:x∈T)(e:ab x.path=fA):fx T=false:=by
 cases ha:fx T with
 |false=>rfl
 |true=>
  unfold fx at ha;rw [decide_eq_true_eq] at ha;exact absurd (List.mem_cons_of_mem _ (List.mem_cons_of_mem _ (List.mem_map.2 ⟨x,hx,e⟩))) (List.nodup_cons.1 ha).1
theorem Eg{T:List bE}(h:Gs T T.length)(he:∀ x∈T,ab x.path≠fA):fx T=true:=by
 unfold Gs at h;rw [List.take_length] at h;unfold fx;rw [decide_eq_true_eq,List.nodup_cons];refine⟨fun hm=> ?_,h⟩;rcases List.mem_cons.1 hm with e|hm
 ·exact absurd e (by decide)
 ·rcases List.mem_cons.1 hm with e|hm
  ·exact absurd e (by decide)
  ·obtain⟨x,hx,e⟩:=List.mem_map.1 hm;exact he x hx e
theorem Aj{T:List bE}(h:cM T=true):T.length≤40:=by
 unfold cM at h;simp only [Bool.and_eq_true,decide_eq_true_eq] at h;exact h.1
theorem qf{T:List bE}(h:cM T=true){x:bE}(hx:x∈T):jg x=true:=by
 unfold cM at h;simp only [Bool.and_eq_true] at h;exact List.all_eq_true.1 h.2 x hx
end Go.Proofs.YtcflkcbogofgbaaGreatDoor
namespace Go.Proofs.YtcflkcbogofgbaaGreatDoor
open Go.RowKit Go.Proofs
structure fC (w0:World) where
 w:World
 sm:Sm No w0 w
instance (w0:World):Nonempty (fC w0):=⟨⟨w0,Sm.refl No w0⟩⟩
theorem dh {P:Program} {id:Nat} {Q:Exit→Act→World→Prop} {a:Act} {w:World} {l:List Oper} (hm:P.follows .mixedOrders=true) (hB:Region.lexB .any l.toArray=true)
 (h:wpQuiet P l.toArray (fun w'=>∃ x:fC w,w'=x.w) (fun a'=>∀ w',(∃ x:fC w,w'=x.w)→Q .normal a' w') l a):(Code.region id l.toArray true).wp P Q a w:=
 wp_region_quiet (C:=fun w'=>∃ x:fC w,w'=x.w) hm hB ⟨⟨_,(Sm.refl No w).drew⟩,rfl⟩ (by simpa using h)
theorem Calls.ext {P:Program} {f:FuncId} {args:Array Value} {w:World} {x:fC w} {v:Value}
 (h:Calls P f args x.w fun e w'=>e=.returned v∧Sm No x.w w'):Calls P f args x.w fun e w''=>e=.returned v∧∃ y:fC w,w''=y.w:=
 h.mono fun _ w'' ⟨he,hs⟩=>⟨he,⟨w'',x.sm.tt hs⟩,rfl⟩
theorem Calls.ext_same {P:Program} {f:FuncId} {args:Array Value} {w:World} {x:fC w} {v:Value}
 (h:Calls P f args x.w fun e w'=>e=.returned v∧w'=x.w):Calls P f args x.w fun e w''=>e=.returned v∧∃ y:fC w,w''=y.w:=
 h.mono fun _ _ ⟨he,hs⟩=>⟨he,x,hs⟩
theorem Calls.ext_eq {P:Program} {f:FuncId} {args:Array Value} {w:World} {x:fC w} {v:Value}
 (h:Calls P f args x.w fun e w'=>e=.returned v∧x.w=w'):Calls P f args x.w fun e w''=>e=.returned v∧∃ y:fC w,w''=y.w:=
 h.mono fun _ _ ⟨he,hs⟩=>⟨he,x,hs.symm⟩
theorem fC.cell{w:World}(x:fC w){b o:Nat}{v:Value}(hb:b < w.heap.size)(hc:w.cell? ⟨b,o,none⟩=some v):x.w.cell? ⟨b,o,none⟩=some v:=x.sm.cell hb hc
theorem iC{s p:ByteArray}{r:Bool}(h:Hid (Lib.hasSuffix s.data.toList p.data.toList=r))(w:World)(hs:s.size≤9223372036854775807):Calls Tryz.prog 99 #[.string s,.string p] w fun e w'=>e=.returned (.bool r)∧w'=w:=by
 rw [←h.out];exact Tryz.strings_HasSuffix s p w hs
theorem Eh(s:ByteArray):Lib.hasSuffix s.data.toList (⟨#[47,42]⟩:ByteArray).data.toList=cS (ab s):=by
 unfold cS ab;exact(Lib.hasSuffix_of_drop _ _).symm
theorem uL(w:World)(hg:G0 w)(x:bE)(hp:x.path.size≤900000)(ht:x.type.size≤900000)(hd:x.data.size≤900000):
 Calls Tryz.prog 52 #[.agg #[.string x.path,.string x.type,.string x.data]] w fun e w'=>e=.returned (.bool (jg x))∧Sm No w w':=by
 obtain⟨p,t,d⟩:=x;dsimp only at hp ht hd ⊢;have hb:=Bk.new w 50 #[.string p,.string t,.string d];have c0:=hb.at 0 (v:=.string p) rfl;have c1:=hb.at 1 (v:=.string t) rfl;have c2:=hb.at 2 (v:=.string d) rfl;clear hb;have hsm:Sm No w (w.alloc (.cells #[.string p,.string t,.string d] 50)):=(Sm.refl No w).alloc _;have hz:w.heap.size < (w.alloc (.cells #[.string p,.string t,.string d] 50)).heap.size:=by simp
 have hp2:p.size≤9223372036854775807:=by omega
 have HCl0:=lK p hp;obtain⟨E,hE⟩:=Iu (jg ⟨p,t,d⟩);rw [hE];unfold jg kd at hE;dsimp only at hE
 cases hcl:bG (ab p) with
 |none=>
  rw [hcl] at hE HCl0;have HCl:=ns (HCl0 _ (hg.no hsm));have hE2:E=false:=by rw [←hE];simp
  subst hE2;clear hE HCl0 hcl hg hd;unfold dV at HCl;go_in;go_wp2_with fail;refine HCl.out.mono ?_;rintro e w2 ⟨rfl,hs2⟩;have c0:=hs2.cell hz c0;have c1:=hs2.cell hz c1;have c2:=hs2.cell hz c2;have hz2:=Nat.lt_of_lt_of_le hz hs2.size;have HS:=ns (hsm.tt hs2);clear hs2 hsm;go_wp2_with fail;go_quiet (fail)
  go_wp2
  go_ret;exact⟨rfl,HS.out.drewN _⟩
 |some l=>
  rw [hcl] at hE HCl0;have hC1:=HCl0 _ (hg.no hsm);clear HCl0 hcl hg;by_cases q1:l=ab p
  rotate_left
  ·have e1:(l==p.toList)=false:=by
    rw [beq_eq_false_iff_ne];intro e;exact q1 (e.trans (ByteArray.toList_eq p))
   unfold dV gj at hC1;have HCl:=ns hC1;clear hC1;have hE2:E=false:=by rw [←hE];simp [q1]
   subst hE2;clear hE q1;go_in;go_wp2_with fail;refine HCl.out.mono ?_;rintro e w2 ⟨rfl,hs2⟩;have c0:=hs2.cell hz c0;have c1:=hs2.cell hz c1;have c2:=hs2.cell hz c2;have hz2:=Nat.lt_of_lt_of_le hz hs2.size;have HS:=ns (hsm.tt hs2);clear hs2 hsm;go_wp2_with fail;go_quiet (fail)
   go_wp2
   go_ret;exact⟨rfl,HS.out.drewN _⟩
  subst q1;rw [show dV (some (ab p))=.tuple #[.string p,.bool true] from rfl] at hC1;have HCl:=ns hC1;clear hC1;by_cases q2:p.size≤200
  rotate_left
  ·have e2:decide ((p.size:Int)≤200)=false:=by simp;omega
   have q2b:¬(ab p).length≤200:=by rw [ae];exact q2
   have hE2:E=false:=by rw [←hE];simp [q2b]
   subst hE2;clear hE q2 q2b;go_in;go_wp2_with fail;refine HCl.out.mono ?_;rintro e w2 ⟨rfl,hs2⟩;have c0:=hs2.cell hz c0;have c1:=hs2.cell hz c1;have c2:=hs2.cell hz c2;have hz2:=Nat.lt_of_lt_of_le hz hs2.size;have HS:=ns (hsm.tt hs2);clear hs2 hsm;go_wp2_with fail;go_quiet (fail)
   go_wp2
   go_ret;exact⟨rfl,HS.out.drewN _⟩
  have e2p:decide ((p.size:Int)≤200)=true:=by simp;omega
  have q2b:(ab p).length≤200:=by rw [ae];exact q2
  obtain⟨wd,hwd⟩:=Iu (cS (ab p));have HSf:=ns ((Eh p).trans hwd)
  cases wd with
  |true=>
   have hE2:E=false:=by rw [←hE];simp [hwd]
   subst hE2;clear hE q2b hwd;go_in;go_wp2_with fail;refine HCl.out.mono ?_;rintro e w2 ⟨rfl,hs2⟩;have c0:=hs2.cell hz c0;have c1:=hs2.cell hz c1;have c2:=hs2.cell hz c2;have hz2:=Nat.lt_of_lt_of_le hz hs2.size;have HS:=ns (hsm.tt hs2);clear hs2 hsm;go_wp2_with fail;go_quiet ((first
    |(go_at_call 99;exact Calls.quiet_of_same (iC HSf _ hp2))
    |(go_at_call 100;exact Calls.quiet_of_same (bD (cC HVl ht _)))))
   go_wp2
   go_ret;exact⟨rfl,HS.out.drewN _⟩
  |false=>
   by_cases q3:t.size=0
   ·have q3b:ab t=[]:=List.eq_nil_of_length_eq_zero (by rw [ae];exact q3);have e3:t.toList=[]:=by rw [ByteArray.toList_eq];exact q3b
    have hE2:E=false:=by rw [←hE];simp [q3b]
    subst hE2;clear hE q2b hwd q3 q3b;go_in;go_wp2_with fail;refine HCl.out.mono ?_;rintro e w2 ⟨rfl,hs2⟩;have c0:=hs2.cell hz c0;have c1:=hs2.cell hz c1;have c2:=hs2.cell hz c2;have hz2:=Nat.lt_of_lt_of_le hz hs2.size;have HS:=ns (hsm.tt hs2);clear hs2 hsm;go_wp2_with fail;go_quiet ((first
     |(go_at_call 99;exact Calls.quiet_of_same (iC HSf _ hp2))
     |(go_at_call 100;exact Calls.quiet_of_same (bD (cC HVl ht _)))))
    go_wp2
    go_ret;exact⟨rfl,HS.out.drewN _⟩
   have q3b:(ab t).isEmpty=false:=by
    cases h:ab t with
    |nil=>exact absurd (by rw [←ae,h];rfl) q3
    |cons=>rfl
   have e3:t.toList.isEmpty=false:=by rw [ByteArray.toList_eq];exact q3b
   have e3b:¬t.toList=[]:=fun e=>by rw [e] at e3;cases e3
   have e3c:(!t.toList.isEmpty)=true:=by rw [e3];rfl
   obtain⟨vl,hvl⟩:=Iu (eg (ab t));have HVl:=ns (show eg t.data.toList=vl from hvl);have ht:t.size≤1000000:=by omega
   cases vl with
   |false=>
    have hE2:E=false:=by rw [←hE];simp [hvl]
    subst hE2;clear hE q2b hwd q3 q3b hvl;go_in;go_wp2_with fail;refine HCl.out.mono ?_;rintro e w2 ⟨rfl,hs2⟩;have c0:=hs2.cell hz c0;have c1:=hs2.cell hz c1;have c2:=hs2.cell hz c2;have hz2:=Nat.lt_of_lt_of_le hz hs2.size;have HS:=ns (hsm.tt hs2);clear hs2 hsm;go_wp2_with fail;go_quiet ((first
     |(go_at_call 99;exact Calls.quiet_of_same (iC HSf _ hp2))
     |(go_at_call 100;exact Calls.quiet_of_same (bD (cC HVl ht _)))))
    go_wp2
    go_ret;exact⟨rfl,HS.out.drewN _⟩
   |true=>
    obtain⟨r,hr⟩:=Iu ((⟨(aw t.data.toList).toArray⟩:ByteArray));have HTr:=ns hr;have hq:(aw (ab t)==ab t)=(r.toList==t.toList):=by
     rw [←hr,ByteArray.toList_eq,ByteArray.toList_eq];rfl
    obtain⟨eq,heq⟩:=Iu ((r.toList==t.toList))
    cases eq with
    |false=>
     have hq2:=hq.trans heq;have hE2:E=false:=by rw [←hE];simp [hq2]
     subst hE2;clear hE q2b hwd q3 q3b hvl hr hq hq2;go_in;go_wp2_with fail;refine HCl.out.mono ?_;rintro e w2 ⟨rfl,hs2⟩;have c0:=hs2.cell hz c0;have c1:=hs2.cell hz c1;have c2:=hs2.cell hz c2;have hz2:=Nat.lt_of_lt_of_le hz hs2.size;have HS:=ns (hsm.tt hs2);clear hs2 hsm;go_wp2_with fail;have d0:∀ x:fC w2,x.w.cell? ⟨w.heap.size,0,none⟩=some (.string p):=fun x=>x.cell hz2 c0;have d1:∀ x:fC w2,x.w.cell? ⟨w.heap.size,1,none⟩=some (.string t):=fun x=>x.cell hz2 c1;have d2:∀ x:fC w2,x.w.cell? ⟨w.heap.size,2,none⟩=some (.string d):=fun x=>x.cell hz2 c2;refine dh (by kernel_rfl) (by kernel_rfl) ?_
     repeat (go_big_quiet_step ((first
      |(go_at_call 99;exact Calls.ext_same (iC HSf _ hp2))
      |(go_at_call 100;exact Calls.ext_eq (cC HVl ht _))
      |(go_at_call 71;exact Calls.ext (fO HTr ht _)))))
     refine wpQuiet_nil ?_;intro _ hw';obtain⟨⟨w3,hs3⟩,hw''⟩:=hw';subst hw'';clear d0 d1 d2
     go_wp2
     go_ret;exact⟨rfl,HS.out.tt hs3⟩
    |true=>
     by_cases q4:t.size≤100
     rotate_left
     ·have e4:decide ((t.size:Int)≤100)=false:=by simp;omega
      have q4b:¬(ab t).length≤100:=by rw [ae];exact q4
      have hE2:E=false:=by rw [←hE];simp [q4b]
      subst hE2;clear hE q2b hwd q3 q3b hvl hr hq q4 q4b;go_in;go_wp2_with fail;refine HCl.out.mono ?_;rintro e w2 ⟨rfl,hs2⟩;have c0:=hs2.cell hz c0;have c1:=hs2.cell hz c1;have c2:=hs2.cell hz c2;have hz2:=Nat.lt_of_lt_of_le hz hs2.size;have HS:=ns (hsm.tt hs2);clear hs2 hsm;go_wp2_with fail;have d0:∀ x:fC w2,x.w.cell? ⟨w.heap.size,0,none⟩=some (.string p):=fun x=>x.cell hz2 c0;have d1:∀ x:fC w2,x.w.cell? ⟨w.heap.size,1,none⟩=some (.string t):=fun x=>x.cell hz2 c1;have d2:∀ x:fC w2,x.w.cell? ⟨w.heap.size,2,none⟩=some (.string d):=fun x=>x.cell hz2 c2;refine dh (by kernel_rfl) (by kernel_rfl) ?_
      repeat (go_big_quiet_step ((first
       |(go_at_call 99;exact Calls.ext_same (iC HSf _ hp2))
       |(go_at_call 100;exact Calls.ext_eq (cC HVl ht _))
       |(go_at_call 71;exact Calls.ext (fO HTr ht _)))))
      refine wpQuiet_nil ?_;intro _ hw';obtain⟨⟨w3,hs3⟩,hw''⟩:=hw';subst hw'';clear d0 d1 d2
      go_wp2
      go_ret;exact⟨rfl,HS.out.tt hs3⟩
     have e4p:decide ((t.size:Int)≤100)=true:=by simp;omega
     have q4b:(ab t).length≤100:=by rw [ae];exact q4
     by_cases q5:d.size≤2048
     rotate_left
     ·have e5:decide ((d.size:Int)≤2048)=false:=by simp;omega
      have q5b:¬(ab d).length≤2048:=by rw [ae];exact q5
      have hE2:E=false:=by rw [←hE];simp [q5b]
      subst hE2;clear hE q2b hwd q3 q3b hvl hr hq q4b q5 q5b;go_in;go_wp2_with fail;refine HCl.out.mono ?_;rintro e w2 ⟨rfl,hs2⟩;have c0:=hs2.cell hz c0;have c1:=hs2.cell hz c1;have c2:=hs2.cell hz c2;have hz2:=Nat.lt_of_lt_of_le hz hs2.size;have HS:=ns (hsm.tt hs2);clear hs2 hsm;go_wp2_with fail;have d0:∀ x:fC w2,x.w.cell? ⟨w.heap.size,0,none⟩=some (.string p):=fun x=>x.cell hz2 c0;have d1:∀ x:fC w2,x.w.cell? ⟨w.heap.size,1,none⟩=some (.string t):=fun x=>x.cell hz2 c1;have d2:∀ x:fC w2,x.w.cell? ⟨w.heap.size,2,none⟩=some (.string d):=fun x=>x.cell hz2 c2;refine dh (by kernel_rfl) (by kernel_rfl) ?_
      repeat (go_big_quiet_step ((first
       |(go_at_call 99;exact Calls.ext_same (iC HSf _ hp2))
       |(go_at_call 100;exact Calls.ext_eq (cC HVl ht _))
       |(go_at_call 71;exact Calls.ext (fO HTr ht _)))))
      refine wpQuiet_nil ?_;intro _ hw';obtain⟨⟨w3,hs3⟩,hw''⟩:=hw';subst hw'';clear d0 d1 d2
      go_wp2
      go_ret;exact⟨rfl,HS.out.tt hs3⟩
     have e5p:decide ((d.size:Int)≤2048)=true:=by simp;omega
     have q5b:(ab d).length≤2048:=by rw [ae];exact q5
     have hq2:=hq.trans heq;have hE2:E=true:=by rw [←hE];simp [q2b,hwd,q3b,hvl,beq_iff_eq.1 hq2,q4b,q5b]
     subst hE2;clear hE q2b hwd q3 q3b hvl hr hq hq2 q4b q5b;go_in;go_wp2_with fail;refine HCl.out.mono ?_;rintro e w2 ⟨rfl,hs2⟩;have c0:=hs2.cell hz c0;have c1:=hs2.cell hz c1;have c2:=hs2.cell hz c2;have hz2:=Nat.lt_of_lt_of_le hz hs2.size;have HS:=ns (hsm.tt hs2);clear hs2 hsm;go_wp2_with fail;have d0:∀ x:fC w2,x.w.cell? ⟨w.heap.size,0,none⟩=some (.string p):=fun x=>x.cell hz2 c0;have d1:∀ x:fC w2,x.w.cell? ⟨w.heap.size,1,none⟩=some (.string t):=fun x=>x.cell hz2 c1;have d2:∀ x:fC w2,x.w.cell? ⟨w.heap.size,2,none⟩=some (.string d):=fun x=>x.cell hz2 c2;refine dh (by kernel_rfl) (by kernel_rfl) ?_
     repeat (go_big_quiet_step ((first
      |(go_at_call 99;exact Calls.ext_same (iC HSf _ hp2))
      |(go_at_call 100;exact Calls.ext_eq (cC HVl ht _))
      |(go_at_call 71;exact Calls.ext (fO HTr ht _)))))
     refine wpQuiet_nil ?_;intro _ hw';obtain⟨⟨w3,hs3⟩,hw''⟩:=hw';subst hw'';clear d0 d1 d2
     go_wp2
     go_ret;exact⟨rfl,HS.out.tt hs3⟩
def cD(T:List bE):List Value:=T.flatMap fun x=>[.string x.path,.string x.type,.string x.data]
theorem rh(l:List bE):(cD l).length=l.length * 3:=by
 induction l with
 |nil=>rfl
 |cons x l ih=>simp only [cD,List.flatMap_cons,List.length_append,List.length_cons,List.length_nil] at ih ⊢;omega
theorem fj{l:List bE}{k:Nat}{x:bE}(h:l[k]?=some x):(cD l)[k * 3]?=some (.string x.path)∧(cD l)[k * 3+1]?=some (.string x.type)∧(cD l)[k * 3+2]?=some (.string x.data):=by
 induction l generalizing k with
 |nil=>simp at h
 |cons y l ih=>
  cases k with
  |zero=>simp at h;subst h;exact⟨rfl,rfl,rfl⟩
  |succ k=>
   obtain⟨h1,h2,h3⟩:=ih (k:=k) (by simpa using h);have e1:(k+1) * 3=k * 3+3:=by omega
   rw [e1];exact⟨h1,h2,h3⟩
theorem rq(l:List bE):∀ u∈cD l,u.oneCell'=true:=by
 intro u hu;obtain⟨x,_,hx⟩:=List.mem_flatMap.1 hu;simp only [List.mem_cons,List.not_mem_nil,or_false] at hx;rcases hx with rfl|rfl|rfl<;>rfl
theorem FY:(Tryz.prog.info? 50).map (fun i=>(i.zero,i.size,i.bytes))=some (some (.agg #[.string ⟨#[]⟩,.string ⟨#[]⟩,.string ⟨#[]⟩]),3,48):=by kernel_rfl
def CF(w:World)(B:Nat)(v:Value)(T:List bE):Prop:=w.ownsRow B 50 3 v T.length (cD T)
def lZ(T:List bE):Prop:=∀ x∈T,x.path.size≤800000∧x.type.size≤800000∧x.data.size≤800000
theorem xK(w:World)(A:Option Addr)(c:Nat)(T:List bE)(hA:ar w A (cD T))(hl:T.length≤1000000)(h0:A=none→T.length=0∧c=0):
 Calls Tryz.prog 54 #[.slice A T.length c] w fun e w'=>∃ v,e=.returned v∧CF w' w.heap.size v T∧Sm No w w':=by
 have hsl:=fun (w:World) (a:Option Addr) (n c:Nat)=>Lib.run_eql_slice_nil (P:=Tryz.prog) w 23 50 a n c 0 0 Tryz.underlying23
 cases A with
 |none=>
  obtain⟨e,rfl⟩:=h0 rfl;obtain rfl:=List.eq_nil_of_length_eq_zero e;clear hA;go_in;go_wp2_with fail;go_ret;exact⟨_,rfl,World.ownsRow_nil _ _ _ 3,Sm.refl _ _⟩
 |some a=>
  clear h0;have HR:=ns hA;clear hA;go_in;go_wp2_with (refine fu rfl _ _ 23 50 rfl Tryz.underlying23 _ 3 48 FY rfl (by decide) (by decide) w.heap.size 0 _ [] rfl (lI w _ _ (Nat.le_refl _)) a T.length c (cD T) rfl (rh T) (HR.out.no ((Sm.refl No w).alloc _)) (rq T) (by omega) (by simp) ?_;intro v' w1 hown hs1 _ _);go_ret;refine⟨_,rfl,by simpa [CF] using hown,((Sm.refl No w).alloc (.cells #[] 50)).trans hs1 (fun b hb e=> ?_)⟩;have e':some w.heap.size=some b:=e;injection e' with e';omega
def jG(w w1:World)(K:Nat→Prop)(r:Nat)(L:List Lt):Prop:=∃ O,bj w1 O r L∧Sm No w w1∧(∀ b,O b→w.heap.size≤b)∧∀ b,K b→b < w1.heap.size∧¬O b
section
variable {w w1 w2:World} {K:Nat→Prop} {r:Nat} {L:List Lt}
theorem bj.ltO{w:World}{O:Nat→Prop}{r:Nat}{L:List Lt}(h:bj w O r L):∀ b,O b→b < w.heap.size:=by
 obtain⟨_,_,_,_,_,_,_,_,_,_,_,_,_,h⟩:=h;exact h
theorem jG.no(h:jG w w1 K r L)(hs:Sm No w1 w2):jG w w2 K r L:=by
 obtain⟨O,h1,h2,h3,h4⟩:=h;exact⟨O,h1.no hs,h2.tt hs,h3,fun b hb=>⟨Nat.lt_of_lt_of_le (h4 b hb).1 hs.size,(h4 b hb).2⟩⟩
theorem jG.more(h:jG w w1 K r L)(hs:Sm No w1 w2){K2:Nat→Prop}(hK:∀ b,K2 b→(K b∨w1.heap.size≤b)∧b < w2.heap.size):jG w w2 K2 r L:=by
 obtain⟨O,h1,h2,h3,h4⟩:=h;refine⟨O,h1.no hs,h2.tt hs,h3,fun b hb=>⟨(hK b hb).2,fun e=> ?_⟩⟩;rcases (hK b hb).1 with hb|hb
 ·exact(h4 b hb).2 e
 ·have:=h1.ltO b e;omega
theorem jG.sm(h:jG w w1 K r L):Sm No w w1:=by
 obtain⟨_,_,h,_⟩:=h;exact h
theorem kN{s:ByteArray}{id:Int}{A:Option Addr}{c:Nat}{ms:List af}(h:jG w w1 K r L)(hg:G0 w)(hL:tN L)(hs:s.size≤800000)(hA:ar w1 A (ms.map aX))(hn:A=none→c=0)(hml:ms.length≤4000)(hms:∀ t∈ms,t.length≤1000000):
 Calls Tryz.prog 55 #[.pointer (some ⟨r,0,none⟩),.string s,.int .i64 id,.slice A ms.length c] w1 fun e w2=>e=.returned (.int .i64 (ef L ⟨ab s,id,ms⟩))∧jG w w2 K r (iJ L ⟨ab s,id,ms⟩)∧Sm (fun b=>¬K b) w1 w2:=by
 obtain⟨O,h1,h2,h3,h4⟩:=h;refine(zR w1 O r L s id A c ms h1 (hg.no h2) hL.1 (fun x hx=>Nat.le_trans (hL.2 x hx) (by decide)) hs hA hn (by omega) hms).mono ?_;rintro e w2 ⟨he,O',g1,g2,g3⟩;refine⟨he,⟨O',g1,h2.fresh g2 h3,fun b hb=> ?_,fun b hb=>⟨Nat.lt_of_lt_of_le (h4 b hb).1 g2.size,fun e=> ?_⟩⟩,g2.mono (fun b _ e hk=>(h4 b hk).2 e)⟩
 ·rcases g3 b hb with g|g
  ·exact h3 b g
  ·exact Nat.le_trans h2.size g
 ·rcases g3 b e with g|g
  ·exact(h4 b hb).2 g
  ·have:=(h4 b hb).1;omega
end
def gI(w:World)(O:Nat→Prop)(s:Nat)(T:List bE):Prop:=
 ∃ (Q:Nat→Prop) (r:Nat) (vT:Value),bj w Q r (am T)∧Bk w s 118 #[.pointer (some ⟨r,0,none⟩),vT]∧CF w 0 vT T∧(∀ b,(Q b∨b=s∨vT.ownBlock=some b)→O b)∧∀ b,O b→b < w.heap.size
theorem gI.sm{S O:Nat→Prop}{w w':World}{s:Nat}{T:List bE}(h:gI w O s T)(hs:Sm S w w')(hS:∀ b,O b→¬S b):gI w' O s T:=by
 obtain⟨Q,r,vT,h1,h2,h3,h4,h5⟩:=h;exact⟨Q,r,vT,h1.sm hs (fun b hb=>hS b (h4 b (Or.inl hb))),h2.sm hs (hS s (h4 s (Or.inr (Or.inl rfl)))),aa h3 hs (fun b hb=>hS b (h4 b (Or.inr (Or.inr hb)))),h4,fun b hb=>Nat.lt_of_lt_of_le (h5 b hb) hs.size⟩
theorem gI.no{O:Nat→Prop}{w w':World}{s:Nat}{T:List bE}(h:gI w O s T)(hs:Sm No w w'):gI w' O s T:=h.sm hs (fun _ _ h=>h)
def rO(w:World)(T:List bE)(e:Ending)(w':World):Prop:=
 (dJ T=0∧∃ s O,e=.returned (.tuple #[.pointer (some ⟨s,0,none⟩),.int .i64 0])∧gI w' O s T∧Sm No w w'∧∀ b,O b→w.heap.size≤b)∨
 (dJ T≠0∧e=.returned (.tuple #[.pointer none,.int .i64 (dJ T)])∧Sm No w w')
theorem mo{T:List bE}(h:T.length≤40):tN (am T):=by
 refine⟨by rw [iq];omega,fun y hy=> ?_⟩;rcases eR hy with hb|⟨k,z,_,rfl⟩
 ·simp only [jS,List.mem_cons,List.not_mem_nil,or_false] at hb;rcases hb with rfl|rfl|rfl<;>decide
 ·show ([na]:List af).length≤4000;decide
end Go.Proofs.YtcflkcbogofgbaaGreatDoor
