import Derived.Test.YtadcjgopaadfjaaGreatDoorQI
import Derived.Test.YtadcjgopaadfjaaGreatDoorQA
import Derived.Deep.QuietTactic
import Derived.BigQuiet
import Derived.Test.YtadcjgopaadfjaaGreatDoorQD
import Derived.Test.YtadcjgopaadfjaaGreatDoorQR
import Derived.Test.YtadcjgopaadfjaaGreatDoorQH
set_option maxHeartbeats 8000000
set_option maxRecDepth 100000
namespace Go.Proofs.YtadcjgopaadfjaaGreatDoor
structure br where
 path:ByteArray
 type:ByteArray
 data:ByteArray
instance:Inhabited br:=⟨⟨⟨#[]⟩,⟨#[]⟩,⟨#[]⟩⟩⟩
def fZ(x:br):Bool:=cR (af x.path)&&(!(af x.type).isEmpty&&(decide ((af x.type).length≤100)&&(di (af x.type)&&(ay (af x.type)==af x.type&&decide ((af x.data).length≤2048)))))
def nW:ah:=[80,79,83,84]
def DC:ah:=[79,80,84,73,79,78,83]
def dX:ah:=[47,101,99,104,111]
def gH:ah:=[47,107,101,121]
def fe:ah:=[47,115,116,97,116,117,115]
def jm:List Lt:=[⟨dX,1,[nW]⟩,⟨gH,2,[lX]⟩,⟨fe,3,[lX]⟩]
def bU(i:Nat)(x:br):Lt:=⟨af x.path,((10+i:Nat):Int),[lX]⟩
def dW(i:Nat):List br→List Lt
 |[]=>[]
 |x::r=>bU i x::dW (i+1) r
def ao(T:List br):List Lt:=jm++dW 0 T
def cy(T:List br):List ah:=T.map fun x=>af x.path
def bO(T:List br):Bool:=decide (T.length≤40)&&T.all fZ
def dC(T:List br):Bool:=decide ((dX::gH::fe::cy T).Nodup)
def cD(T:List br):Int:=if bO T=true then (if dC T=true then 0 else 11) else 1
theorem ox(i:Nat)(T U:List br):dW i (T++U)=dW i T++dW (i+T.length) U:=by
 induction T generalizing i with
 |nil=>simp [dW]
 |cons x r ih=>
  have e:i+1+r.length=i+(r.length+1):=by omega
  simp only [List.cons_append,dW,ih,List.length_cons,e]
theorem uB(i:Nat)(T:List br):(dW i T).length=T.length:=by
 induction T generalizing i with
 |nil=>rfl
 |cons x r ih=>simp [dW,ih]
theorem fx(T:List br):(ao T).length=3+T.length:=by
 unfold ao;rw [List.length_append,uB];rfl
theorem rP(T:List br)(x:br):ao (T++[x])=ao T++[bU T.length x]:=by
 unfold ao;rw [ox,List.append_assoc,Nat.zero_add];rfl
theorem rT{T:List br}{i:Nat}{x:br}(h:T[i]?=some x):ao (T.take (i+1))=ao (T.take i)++[bU i x]:=by
 rw [List.take_add_one,h];show ao (T.take i++[x])=_;rw [rP];have:(T.take i).length=i:=by
  have:=(List.getElem?_eq_some_iff.1 h).1;rw [List.length_take];omega
 rw [this]
theorem vx{i:Nat}{T:List br}{y:Lt}:y∈dW i T→∃ k x,T[k]?=some x∧y=bU (i+k) x:=by
 induction T generalizing i with
 |nil=>intro h;simp [dW] at h
 |cons x r ih=>
  intro h;rcases List.mem_cons.1 h with rfl|h
  ·exact⟨0,x,rfl,rfl⟩
  ·obtain⟨k,z,h1,h2⟩:=ih h;exact⟨k+1,z,h1,by rw [h2];congr 1;omega⟩
theorem vy{i:Nat}{T:List br}{k:Nat}{x:br}(h:T[k]?=some x):bU (i+k) x∈dW i T:=by
 induction T generalizing i k with
 |nil=>simp at h
 |cons y r ih=>
  cases k with
  |zero=>simp at h;subst h;exact List.mem_cons_self
  |succ k=>
   have:=ih (i:=i+1) (k:=k) (by simpa using h);rw [show i+1+k=i+(k+1) by omega] at this;exact List.mem_cons_of_mem _ this
theorem ep{T:List br}{y:Lt}(h:y∈ao T):y∈jm∨∃ k x,T[k]?=some x∧y=bU k x:=by
 rcases List.mem_append.1 h with h|h
 ·exact Or.inl h
 ·obtain⟨k,x,h1,h2⟩:=vx h;exact Or.inr ⟨k,x,h1,by rw [h2,Nat.zero_add]⟩
theorem ry(T:List br):(ao T).map (·.pat)=dX::gH::fe::cy T:=by
 have h:∀ i,(dW i T).map (·.pat)=cy T:=by
  intro i
  induction T generalizing i with
  |nil=>rfl
  |cons x r ih=>simp only [dW,List.map_cons,ih,cy];rfl
 unfold ao;rw [List.map_append,h];rfl
theorem D8{x:br}(h:fZ x=true):kq (af x.path)=true∧bG (af x.path)=false∧(af x.path).length≤200:=by
 unfold fZ at h;simp only [Bool.and_eq_true] at h;have h1:=h.1;have h2:=h1;unfold cR at h2;simp only [Bool.and_eq_true,Bool.not_eq_true',decide_eq_true_eq] at h2;refine⟨?_,h2.2,h2.1.1⟩;unfold kq;rw [h2.2];simpa using h1
theorem xj{T:List br}{x:br}(hx:fZ x=true)(hT:T.length≤39)(i:Nat):bW (ao T) (bU i x)=if af x.path∈gH::fe::cy T then 11 else 0:=by
 obtain⟨h1,h2,h3⟩:=D8 hx;have hp:(kq (bU i x).pat&&decide (0≤(bU i x).id)&&(bU i x).ms.all bo)=true:=by
  show (kq (af x.path)&&decide ((0:Int)≤((10+i:Nat):Int))&&[lX].all bo)=true;rw [h1,Bool.true_and,Bool.and_eq_true];exact⟨by rw [decide_eq_true_eq];omega,by decide⟩
 unfold bW;rw [if_pos hp,fx,if_neg (by omega)];have e:((gF (ao T) (eb (bU i x).pat)).any (fun y=>bT (bU i x).ms y.ms)=true)↔af x.path∈gH::fe::cy T:=by
  rw [List.any_eq_true];constructor
  ·rintro⟨y,hy,hc⟩;have hy:=List.mem_filter.1 hy;have e1:y.pat=af x.path:=by
    have:=hy.2;rw [qD,beq_iff_eq] at this;exact this
   rcases ep hy.1 with hb|⟨k,z,hz,rfl⟩
   ·simp only [jm,List.mem_cons,List.not_mem_nil,or_false] at hb;rcases hb with rfl|rfl|rfl
    ·exact absurd hc (show ¬bT [lX] [nW]=true by decide)
    ·rw [←e1];exact List.mem_cons_self
    ·rw [←e1];exact List.mem_cons_of_mem _ List.mem_cons_self
   ·rw [←e1];exact List.mem_cons_of_mem _ (List.mem_cons_of_mem _ (List.mem_map.2 ⟨z,List.mem_of_getElem? hz,rfl⟩))
  ·intro hm;have hall:∀ y:Lt,y.ms=[lX]→bT (bU i x).ms y.ms=true:=fun y hy=>by rw [hy];exact(show bT [lX] [lX]=true by decide)
   have hsel:∀ y∈ao T,y.pat=af x.path→y∈gF (ao T) (eb (bU i x).pat):=fun y hy e=>List.mem_filter.2 ⟨hy,by rw [qD];simpa [bU] using e⟩;rcases List.mem_cons.1 hm with e|hm
   ·exact⟨⟨gH,2,[lX]⟩,hsel _ (List.mem_append_left _ (by simp [jm])) e.symm,hall _ rfl⟩
   ·rcases List.mem_cons.1 hm with e|hm
    ·exact⟨⟨fe,3,[lX]⟩,hsel _ (List.mem_append_left _ (by simp [jm])) e.symm,hall _ rfl⟩
    ·obtain⟨z,hz,e⟩:=List.mem_map.1 hm;obtain⟨k,hk⟩:=List.mem_iff_getElem?.1 hz;exact⟨bU k z,hsel _ (List.mem_append_right _ (by have:=vy (i:=0) hk;rwa [Nat.zero_add] at this)) e,hall _ rfl⟩
 by_cases hm:af x.path∈gH::fe::cy T
 ·rw [if_pos (e.2 hm),if_pos hm]
 ·rw [if_neg (fun h=>hm (e.1 h)),if_neg hm]
theorem sA{T:List br}{i:Nat}{x:br}(h:T[i]?=some x)(hc:bW (ao (T.take i)) (bU i x)=0):fX (ao (T.take i)) (bU i x)=ao (T.take (i+1)):=by
 unfold fX;rw [if_pos hc,rT h]
theorem mz{T:List br}{i:Nat}{x:br}(h:T[i]?=some x):cy (T.take (i+1))=cy (T.take i)++[af x.path]:=by
 unfold cy;rw [List.take_add_one,h];simp
def Fc(T:List br)(i:Nat):Prop:=(gH::fe::cy (T.take i)).Nodup
def EU(T:List br)(i:Nat):Prop:=(dX::gH::fe::cy (T.take i)).Nodup
theorem Ci(T:List br):Fc T 0:=(show (gH::fe::[]).Nodup by decide)
theorem CB(T:List br):EU T 0:=(show (dX::gH::fe::[]).Nodup by decide)
theorem nG{l:List ah}{x:ah}:(l++[x]).Nodup↔l.Nodup∧x∉l:=by
 rw [List.nodup_append];constructor
 ·rintro⟨h1,_,h3⟩;exact⟨h1,fun hx=>h3 x hx x (by simp) rfl⟩
 ·rintro⟨h1,h2⟩;exact⟨h1,by simp,fun a ha b hb e=>by rw [List.mem_singleton] at hb;subst hb;subst e;exact h2 ha⟩
theorem C6{T:List br}{i:Nat}{x:br}(h:T[i]?=some x):Fc T (i+1)↔Fc T i∧af x.path∉gH::fe::cy (T.take i):=by
 unfold Fc;rw [mz h,←List.cons_append,←List.cons_append,nG]
theorem rR{T:List br}{i:Nat}{x:br}(h:T[i]?=some x):EU T (i+1)↔EU T i∧af x.path∉dX::gH::fe::cy (T.take i):=by
 unfold EU;rw [mz h,←List.cons_append,←List.cons_append,←List.cons_append,nG]
theorem Cj(T:List br)(i:Nat):cy (T.take i) <+:cy T:=by
 unfold cy;exact List.IsPrefix.map _ (List.take_prefix i T)
theorem Al{a b:List ah}(h:a <+:b)(hb:b.Nodup):a.Nodup:=List.Nodup.sublist h.sublist hb
theorem yh{T:List br}(h:dC T=true)(i:Nat):EU T i:=by
 unfold dC at h;rw [decide_eq_true_eq] at h;exact Al (by obtain⟨t,e⟩:=Cj T i;exact⟨t,by rw [←e];rfl⟩) h
theorem oZ{T:List br}{i:Nat}{x:br}(h:T[i]?=some x)(hm:af x.path∈dX::gH::fe::cy (T.take i)):dC T=false:=by
 cases ha:dC T with
 |false=>rfl
 |true=>exact absurd hm ((rR h).1 (yh ha (i+1))).2
theorem Cb{T:List br}{x:br}(hx:x∈T)(e:af x.path=dX):dC T=false:=by
 cases ha:dC T with
 |false=>rfl
 |true=>
  unfold dC at ha;rw [decide_eq_true_eq] at ha;exact absurd (List.mem_cons_of_mem _ (List.mem_cons_of_mem _ (List.mem_map.2 ⟨x,hx,e⟩))) (List.nodup_cons.1 ha).1
theorem BG{T:List br}(h:Fc T T.length)(he:∀ x∈T,af x.path≠dX):dC T=true:=by
 unfold Fc at h;rw [List.take_length] at h;unfold dC;rw [decide_eq_true_eq,List.nodup_cons];refine⟨fun hm=> ?_,h⟩;rcases List.mem_cons.1 hm with e|hm
 ·exact absurd e (by decide)
 ·rcases List.mem_cons.1 hm with e|hm
  ·exact absurd e (by decide)
  ·obtain⟨x,hx,e⟩:=List.mem_map.1 hm;exact he x hx e
theorem yJ{T:List br}(h:EU T T.length):dC T=true:=by
 unfold EU at h;rw [List.take_length] at h;unfold dC;rw [decide_eq_true_eq];exact h
theorem pw{T:List br}(h:bO T=true):T.length≤40:=by
 unfold bO at h;simp only [Bool.and_eq_true,decide_eq_true_eq] at h;exact h.1
theorem lm{T:List br}(h:bO T=true){x:br}(hx:x∈T):fZ x=true:=by
 unfold bO at h;simp only [Bool.and_eq_true] at h;exact List.all_eq_true.1 h.2 x hx
end Go.Proofs.YtadcjgopaadfjaaGreatDoor
namespace Go.Proofs.YtadcjgopaadfjaaGreatDoor
open Go.RowKit Go.Proofs
structure eB (w0:World) where
 w:World
 sm:Sm No w0 w
instance (w0:World):Nonempty (eB w0):=⟨⟨w0,Sm.refl No w0⟩⟩
theorem aF {P:Program} {id:Nat} {Q:Exit→Act→World→Prop} {a:Act} {w:World} {l:List Oper} (hm:P.follows .mixedOrders=true) (hB:Region.lexB .any l.toArray=true)
 (h:wpQuiet P l.toArray (fun w'=>∃ x:eB w,w'=x.w) (fun a'=>∀ w',(∃ x:eB w,w'=x.w)→Q .normal a' w') l a):(Code.region id l.toArray true).wp P Q a w:=
 wp_region_quiet (C:=fun w'=>∃ x:eB w,w'=x.w) hm hB ⟨⟨_,(Sm.refl No w).drew⟩,rfl⟩ (by simpa using h)
theorem Calls.ext {P:Program} {f:FuncId} {args:Array Value} {w:World} {x:eB w} {v:Value}
 (h:Calls P f args x.w fun e w'=>e=.returned v∧Sm No x.w w'):Calls P f args x.w fun e w''=>e=.returned v∧∃ y:eB w,w''=y.w:=
 h.mono fun _ w'' ⟨he,hs⟩=>⟨he,⟨w'',x.sm.tt hs⟩,rfl⟩
theorem Calls.ext_same {P:Program} {f:FuncId} {args:Array Value} {w:World} {x:eB w} {v:Value}
 (h:Calls P f args x.w fun e w'=>e=.returned v∧w'=x.w):Calls P f args x.w fun e w''=>e=.returned v∧∃ y:eB w,w''=y.w:=
 h.mono fun _ _ ⟨he,hs⟩=>⟨he,x,hs⟩
theorem Calls.ext_eq {P:Program} {f:FuncId} {args:Array Value} {w:World} {x:eB w} {v:Value}
 (h:Calls P f args x.w fun e w'=>e=.returned v∧x.w=w'):Calls P f args x.w fun e w''=>e=.returned v∧∃ y:eB w,w''=y.w:=
 h.mono fun _ _ ⟨he,hs⟩=>⟨he,x,hs.symm⟩
theorem eB.cell{w:World}(x:eB w){b o:Nat}{v:Value}(hb:b < w.heap.size)(hc:w.cell? ⟨b,o,none⟩=some v):x.w.cell? ⟨b,o,none⟩=some v:=x.sm.cell hb hc
theorem gT{s p:ByteArray}{r:Bool}(h:Hid (Lib.hasSuffix s.data.toList p.data.toList=r))(w:World)(hs:s.size≤9223372036854775807):Calls Tryz.prog 79 #[.string s,.string p] w fun e w'=>e=.returned (.bool r)∧w'=w:=by
 rw [←h.out];exact Tryz.strings_HasSuffix s p w hs
theorem AI(s:ByteArray):Lib.hasSuffix s.data.toList (⟨#[47,42]⟩:ByteArray).data.toList=bG (af s):=by
 unfold bG af;exact(Lib.hasSuffix_of_drop _ _).symm
theorem uf(w:World)(hg:G0 w)(x:br)(hp:x.path.size≤900000)(ht:x.type.size≤900000)(hd:x.data.size≤900000):
 Calls Tryz.prog 56 #[.agg #[.string x.path,.string x.type,.string x.data]] w fun e w'=>e=.returned (.bool (fZ x))∧Sm No w w':=by
 obtain⟨p,t,d⟩:=x;dsimp only at hp ht hd ⊢;have hb:=Bk.new w 101 #[.string p,.string t,.string d];have c0:=hb.at 0 (v:=.string p) rfl;have c1:=hb.at 1 (v:=.string t) rfl;have c2:=hb.at 2 (v:=.string d) rfl;clear hb;have hsm:Sm No w (w.alloc (.cells #[.string p,.string t,.string d] 101)):=(Sm.refl No w).alloc _;have hz:w.heap.size < (w.alloc (.cells #[.string p,.string t,.string d] 101)).heap.size:=by simp
 have hp2:p.size≤9223372036854775807:=by omega
 have HCl0:=kZ p hp;obtain⟨E,hE⟩:=ai (fZ ⟨p,t,d⟩);rw [hE];unfold fZ cR at hE;dsimp only at hE
 cases hcl:bt (af p) with
 |none=>
  rw [hcl] at hE HCl0;have HCl:=aa (HCl0 _ (hg.no hsm));have hE2:E=false:=by rw [←hE];simp
  subst hE2;clear hE HCl0 hcl hg hd;unfold eI at HCl;go_in;go_wp2_with fail;refine HCl.out.mono ?_;rintro e w2 ⟨rfl,hs2⟩;have c0:=hs2.cell hz c0;have c1:=hs2.cell hz c1;have c2:=hs2.cell hz c2;have hz2:=Nat.lt_of_lt_of_le hz hs2.size;have HS:=aa (hsm.tt hs2);clear hs2 hsm;go_wp2_with fail;go_quiet (fail)
  go_wp2
  go_ret;exact⟨rfl,HS.out.drewN _⟩
 |some l=>
  rw [hcl] at hE HCl0;have hC1:=HCl0 _ (hg.no hsm);clear HCl0 hcl hg;by_cases q1:l=af p
  rotate_left
  ·have e1:(l==p.toList)=false:=by
    rw [beq_eq_false_iff_ne];intro e;exact q1 (e.trans (ByteArray.toList_eq p))
   unfold eI fp at hC1;have HCl:=aa hC1;clear hC1;have hE2:E=false:=by rw [←hE];simp [q1]
   subst hE2;clear hE q1;go_in;go_wp2_with fail;refine HCl.out.mono ?_;rintro e w2 ⟨rfl,hs2⟩;have c0:=hs2.cell hz c0;have c1:=hs2.cell hz c1;have c2:=hs2.cell hz c2;have hz2:=Nat.lt_of_lt_of_le hz hs2.size;have HS:=aa (hsm.tt hs2);clear hs2 hsm;go_wp2_with fail;go_quiet (fail)
   go_wp2
   go_ret;exact⟨rfl,HS.out.drewN _⟩
  subst q1;rw [show eI (some (af p))=.tuple #[.string p,.bool true] from rfl] at hC1;have HCl:=aa hC1;clear hC1;by_cases q2:p.size≤200
  rotate_left
  ·have e2:decide ((p.size:Int)≤200)=false:=by simp;omega
   have q2b:¬(af p).length≤200:=by rw [ag];exact q2
   have hE2:E=false:=by rw [←hE];simp [q2b]
   subst hE2;clear hE q2 q2b;go_in;go_wp2_with fail;refine HCl.out.mono ?_;rintro e w2 ⟨rfl,hs2⟩;have c0:=hs2.cell hz c0;have c1:=hs2.cell hz c1;have c2:=hs2.cell hz c2;have hz2:=Nat.lt_of_lt_of_le hz hs2.size;have HS:=aa (hsm.tt hs2);clear hs2 hsm;go_wp2_with fail;go_quiet (fail)
   go_wp2
   go_ret;exact⟨rfl,HS.out.drewN _⟩
  have e2p:decide ((p.size:Int)≤200)=true:=by simp;omega
  have q2b:(af p).length≤200:=by rw [ag];exact q2
  obtain⟨wd,hwd⟩:=ai (bG (af p));have HSf:=aa ((AI p).trans hwd)
  cases wd with
  |true=>
   have hE2:E=false:=by rw [←hE];simp [hwd]
   subst hE2;clear hE q2b hwd;go_in;go_wp2_with fail;refine HCl.out.mono ?_;rintro e w2 ⟨rfl,hs2⟩;have c0:=hs2.cell hz c0;have c1:=hs2.cell hz c1;have c2:=hs2.cell hz c2;have hz2:=Nat.lt_of_lt_of_le hz hs2.size;have HS:=aa (hsm.tt hs2);clear hs2 hsm;go_wp2_with fail;go_quiet ((first
    |(go_at_call 79;exact Calls.quiet_of_same (gT HSf _ hp2))
    |(go_at_call 80;exact Calls.quiet_of_same (cH (ca HVl ht _)))))
   go_wp2
   go_ret;exact⟨rfl,HS.out.drewN _⟩
  |false=>
   by_cases q3:t.size=0
   ·have q3b:af t=[]:=List.eq_nil_of_length_eq_zero (by rw [ag];exact q3);have e3:t.toList=[]:=by rw [ByteArray.toList_eq];exact q3b
    have hE2:E=false:=by rw [←hE];simp [q3b]
    subst hE2;clear hE q2b hwd q3 q3b;go_in;go_wp2_with fail;refine HCl.out.mono ?_;rintro e w2 ⟨rfl,hs2⟩;have c0:=hs2.cell hz c0;have c1:=hs2.cell hz c1;have c2:=hs2.cell hz c2;have hz2:=Nat.lt_of_lt_of_le hz hs2.size;have HS:=aa (hsm.tt hs2);clear hs2 hsm;go_wp2_with fail;go_quiet ((first
     |(go_at_call 79;exact Calls.quiet_of_same (gT HSf _ hp2))
     |(go_at_call 80;exact Calls.quiet_of_same (cH (ca HVl ht _)))))
    go_wp2
    go_ret;exact⟨rfl,HS.out.drewN _⟩
   have q3b:(af t).isEmpty=false:=by
    cases h:af t with
    |nil=>exact absurd (by rw [←ag,h];rfl) q3
    |cons=>rfl
   have e3:t.toList.isEmpty=false:=by rw [ByteArray.toList_eq];exact q3b
   have e3b:¬t.toList=[]:=fun e=>by rw [e] at e3;cases e3
   have e3c:(!t.toList.isEmpty)=true:=by rw [e3];rfl
   obtain⟨vl,hvl⟩:=ai (di (af t));have HVl:=aa (show di t.data.toList=vl from hvl);have ht:t.size≤1000000:=by omega
   cases vl with
   |false=>
    have hE2:E=false:=by rw [←hE];simp [hvl]
    subst hE2;clear hE q2b hwd q3 q3b hvl;go_in;go_wp2_with fail;refine HCl.out.mono ?_;rintro e w2 ⟨rfl,hs2⟩;have c0:=hs2.cell hz c0;have c1:=hs2.cell hz c1;have c2:=hs2.cell hz c2;have hz2:=Nat.lt_of_lt_of_le hz hs2.size;have HS:=aa (hsm.tt hs2);clear hs2 hsm;go_wp2_with fail;go_quiet ((first
     |(go_at_call 79;exact Calls.quiet_of_same (gT HSf _ hp2))
     |(go_at_call 80;exact Calls.quiet_of_same (cH (ca HVl ht _)))))
    go_wp2
    go_ret;exact⟨rfl,HS.out.drewN _⟩
   |true=>
    obtain⟨r,hr⟩:=ai ((⟨(ay t.data.toList).toArray⟩:ByteArray));have HTr:=aa hr;have hq:(ay (af t)==af t)=(r.toList==t.toList):=by
     rw [←hr,ByteArray.toList_eq,ByteArray.toList_eq];rfl
    obtain⟨eq,heq⟩:=ai ((r.toList==t.toList))
    cases eq with
    |false=>
     have hq2:=hq.trans heq;have hE2:E=false:=by rw [←hE];simp [hq2]
     subst hE2;clear hE q2b hwd q3 q3b hvl hr hq hq2;go_in;go_wp2_with fail;refine HCl.out.mono ?_;rintro e w2 ⟨rfl,hs2⟩;have c0:=hs2.cell hz c0;have c1:=hs2.cell hz c1;have c2:=hs2.cell hz c2;have hz2:=Nat.lt_of_lt_of_le hz hs2.size;have HS:=aa (hsm.tt hs2);clear hs2 hsm;go_wp2_with fail;have d0:∀ x:eB w2,x.w.cell? ⟨w.heap.size,0,none⟩=some (.string p):=fun x=>x.cell hz2 c0;have d1:∀ x:eB w2,x.w.cell? ⟨w.heap.size,1,none⟩=some (.string t):=fun x=>x.cell hz2 c1;have d2:∀ x:eB w2,x.w.cell? ⟨w.heap.size,2,none⟩=some (.string d):=fun x=>x.cell hz2 c2;refine aF (by kernel_rfl) (by kernel_rfl) ?_
     repeat (go_big_quiet_step ((first
      |(go_at_call 79;exact Calls.ext_same (gT HSf _ hp2))
      |(go_at_call 80;exact Calls.ext_eq (ca HVl ht _))
      |(go_at_call 81;exact Calls.ext (fA HTr ht _)))))
     refine wpQuiet_nil ?_;intro _ hw';obtain⟨⟨w3,hs3⟩,hw''⟩:=hw';subst hw'';clear d0 d1 d2
     go_wp2
     go_ret;exact⟨rfl,HS.out.tt hs3⟩
    |true=>
     by_cases q4:t.size≤100
     rotate_left
     ·have e4:decide ((t.size:Int)≤100)=false:=by simp;omega
      have q4b:¬(af t).length≤100:=by rw [ag];exact q4
      have hE2:E=false:=by rw [←hE];simp [q4b]
      subst hE2;clear hE q2b hwd q3 q3b hvl hr hq q4 q4b;go_in;go_wp2_with fail;refine HCl.out.mono ?_;rintro e w2 ⟨rfl,hs2⟩;have c0:=hs2.cell hz c0;have c1:=hs2.cell hz c1;have c2:=hs2.cell hz c2;have hz2:=Nat.lt_of_lt_of_le hz hs2.size;have HS:=aa (hsm.tt hs2);clear hs2 hsm;go_wp2_with fail;have d0:∀ x:eB w2,x.w.cell? ⟨w.heap.size,0,none⟩=some (.string p):=fun x=>x.cell hz2 c0;have d1:∀ x:eB w2,x.w.cell? ⟨w.heap.size,1,none⟩=some (.string t):=fun x=>x.cell hz2 c1;have d2:∀ x:eB w2,x.w.cell? ⟨w.heap.size,2,none⟩=some (.string d):=fun x=>x.cell hz2 c2;refine aF (by kernel_rfl) (by kernel_rfl) ?_
      repeat (go_big_quiet_step ((first
       |(go_at_call 79;exact Calls.ext_same (gT HSf _ hp2))
       |(go_at_call 80;exact Calls.ext_eq (ca HVl ht _))
       |(go_at_call 81;exact Calls.ext (fA HTr ht _)))))
      refine wpQuiet_nil ?_;intro _ hw';obtain⟨⟨w3,hs3⟩,hw''⟩:=hw';subst hw'';clear d0 d1 d2
      go_wp2
      go_ret;exact⟨rfl,HS.out.tt hs3⟩
     have e4p:decide ((t.size:Int)≤100)=true:=by simp;omega
     have q4b:(af t).length≤100:=by rw [ag];exact q4
     by_cases q5:d.size≤2048
     rotate_left
     ·have e5:decide ((d.size:Int)≤2048)=false:=by simp;omega
      have q5b:¬(af d).length≤2048:=by rw [ag];exact q5
      have hE2:E=false:=by rw [←hE];simp [q5b]
      subst hE2;clear hE q2b hwd q3 q3b hvl hr hq q4b q5 q5b;go_in;go_wp2_with fail;refine HCl.out.mono ?_;rintro e w2 ⟨rfl,hs2⟩;have c0:=hs2.cell hz c0;have c1:=hs2.cell hz c1;have c2:=hs2.cell hz c2;have hz2:=Nat.lt_of_lt_of_le hz hs2.size;have HS:=aa (hsm.tt hs2);clear hs2 hsm;go_wp2_with fail;have d0:∀ x:eB w2,x.w.cell? ⟨w.heap.size,0,none⟩=some (.string p):=fun x=>x.cell hz2 c0;have d1:∀ x:eB w2,x.w.cell? ⟨w.heap.size,1,none⟩=some (.string t):=fun x=>x.cell hz2 c1;have d2:∀ x:eB w2,x.w.cell? ⟨w.heap.size,2,none⟩=some (.string d):=fun x=>x.cell hz2 c2;refine aF (by kernel_rfl) (by kernel_rfl) ?_
      repeat (go_big_quiet_step ((first
       |(go_at_call 79;exact Calls.ext_same (gT HSf _ hp2))
       |(go_at_call 80;exact Calls.ext_eq (ca HVl ht _))
       |(go_at_call 81;exact Calls.ext (fA HTr ht _)))))
      refine wpQuiet_nil ?_;intro _ hw';obtain⟨⟨w3,hs3⟩,hw''⟩:=hw';subst hw'';clear d0 d1 d2
      go_wp2
      go_ret;exact⟨rfl,HS.out.tt hs3⟩
     have e5p:decide ((d.size:Int)≤2048)=true:=by simp;omega
     have q5b:(af d).length≤2048:=by rw [ag];exact q5
     have hq2:=hq.trans heq;have hE2:E=true:=by rw [←hE];simp [q2b,hwd,q3b,hvl,beq_iff_eq.1 hq2,q4b,q5b]
     subst hE2;clear hE q2b hwd q3 q3b hvl hr hq hq2 q4b q5b;go_in;go_wp2_with fail;refine HCl.out.mono ?_;rintro e w2 ⟨rfl,hs2⟩;have c0:=hs2.cell hz c0;have c1:=hs2.cell hz c1;have c2:=hs2.cell hz c2;have hz2:=Nat.lt_of_lt_of_le hz hs2.size;have HS:=aa (hsm.tt hs2);clear hs2 hsm;go_wp2_with fail;have d0:∀ x:eB w2,x.w.cell? ⟨w.heap.size,0,none⟩=some (.string p):=fun x=>x.cell hz2 c0;have d1:∀ x:eB w2,x.w.cell? ⟨w.heap.size,1,none⟩=some (.string t):=fun x=>x.cell hz2 c1;have d2:∀ x:eB w2,x.w.cell? ⟨w.heap.size,2,none⟩=some (.string d):=fun x=>x.cell hz2 c2;refine aF (by kernel_rfl) (by kernel_rfl) ?_
     repeat (go_big_quiet_step ((first
      |(go_at_call 79;exact Calls.ext_same (gT HSf _ hp2))
      |(go_at_call 80;exact Calls.ext_eq (ca HVl ht _))
      |(go_at_call 81;exact Calls.ext (fA HTr ht _)))))
     refine wpQuiet_nil ?_;intro _ hw';obtain⟨⟨w3,hs3⟩,hw''⟩:=hw';subst hw'';clear d0 d1 d2
     go_wp2
     go_ret;exact⟨rfl,HS.out.tt hs3⟩
def bB(T:List br):List Value:=T.flatMap fun x=>[.string x.path,.string x.type,.string x.data]
theorem kn(l:List br):(bB l).length=l.length * 3:=by
 induction l with
 |nil=>rfl
 |cons x l ih=>simp only [bB,List.flatMap_cons,List.length_append,List.length_cons,List.length_nil] at ih ⊢;omega
theorem cW{l:List br}{k:Nat}{x:br}(h:l[k]?=some x):(bB l)[k * 3]?=some (.string x.path)∧(bB l)[k * 3+1]?=some (.string x.type)∧(bB l)[k * 3+2]?=some (.string x.data):=by
 induction l generalizing k with
 |nil=>simp at h
 |cons y l ih=>
  cases k with
  |zero=>simp at h;subst h;exact⟨rfl,rfl,rfl⟩
  |succ k=>
   obtain⟨h1,h2,h3⟩:=ih (k:=k) (by simpa using h);have e1:(k+1) * 3=k * 3+3:=by omega
   rw [e1];exact⟨h1,h2,h3⟩
theorem kp(l:List br):∀ u∈bB l,u.oneCell'=true:=by
 intro u hu;obtain⟨x,_,hx⟩:=List.mem_flatMap.1 hu;simp only [List.mem_cons,List.not_mem_nil,or_false] at hx;rcases hx with rfl|rfl|rfl<;>rfl
theorem xz:(Tryz.prog.info? 101).map (fun i=>(i.zero,i.size,i.bytes))=some (some (.agg #[.string ⟨#[]⟩,.string ⟨#[]⟩,.string ⟨#[]⟩]),3,48):=by kernel_rfl
def uU(w:World)(B:Nat)(v:Value)(T:List br):Prop:=w.ownsRow B 101 3 v T.length (bB T)
def nM(T:List br):Prop:=∀ x∈T,x.path.size≤800000∧x.type.size≤800000∧x.data.size≤800000
theorem wH(w:World)(A:Option Addr)(c:Nat)(T:List br)(hA:ax w A (bB T))(hl:T.length≤1000000)(h0:A=none→T.length=0∧c=0):
 Calls Tryz.prog 58 #[.slice A T.length c] w fun e w'=>∃ v,e=.returned v∧uU w' w.heap.size v T∧Sm No w w':=by
 have hsl:=fun (w:World) (a:Option Addr) (n c:Nat)=>Lib.run_eql_slice_nil (P:=Tryz.prog) w 26 101 a n c 0 0 Tryz.underlying26
 cases A with
 |none=>
  obtain⟨e,rfl⟩:=h0 rfl;obtain rfl:=List.eq_nil_of_length_eq_zero e;clear hA;go_in;go_wp2_with fail;go_ret;exact⟨_,rfl,World.ownsRow_nil _ _ _ 3,Sm.refl _ _⟩
 |some a=>
  clear h0;have HR:=aa hA;clear hA;go_in;go_wp2_with (refine eZ rfl _ _ 26 101 rfl Tryz.underlying26 _ 3 48 xz rfl (by decide) (by decide) w.heap.size 0 _ [] rfl (gg w _ _ (Nat.le_refl _)) a T.length c (bB T) rfl (kn T) (HR.out.no ((Sm.refl No w).alloc _)) (kp T) (by omega) (by simp) ?_;intro v' w1 hown hs1 _ _);go_ret;refine⟨_,rfl,by simpa [uU] using hown,((Sm.refl No w).alloc (.cells #[] 101)).trans hs1 (fun b hb e=> ?_)⟩;have e':some w.heap.size=some b:=e;injection e' with e';omega
def ja(w w1:World)(K:Nat→Prop)(r:Nat)(L:List Lt):Prop:=∃ O,aT w1 O r L∧Sm No w w1∧(∀ b,O b→w.heap.size≤b)∧∀ b,K b→b < w1.heap.size∧¬O b
section
variable {w w1 w2:World} {K:Nat→Prop} {r:Nat} {L:List Lt}
theorem aT.ltO{w:World}{O:Nat→Prop}{r:Nat}{L:List Lt}(h:aT w O r L):∀ b,O b→b < w.heap.size:=by
 obtain⟨_,_,_,_,_,_,_,_,_,_,_,_,_,h⟩:=h;exact h
theorem ja.no(h:ja w w1 K r L)(hs:Sm No w1 w2):ja w w2 K r L:=by
 obtain⟨O,h1,h2,h3,h4⟩:=h;exact⟨O,h1.no hs,h2.tt hs,h3,fun b hb=>⟨Nat.lt_of_lt_of_le (h4 b hb).1 hs.size,(h4 b hb).2⟩⟩
theorem ja.more(h:ja w w1 K r L)(hs:Sm No w1 w2){K2:Nat→Prop}(hK:∀ b,K2 b→(K b∨w1.heap.size≤b)∧b < w2.heap.size):ja w w2 K2 r L:=by
 obtain⟨O,h1,h2,h3,h4⟩:=h;refine⟨O,h1.no hs,h2.tt hs,h3,fun b hb=>⟨(hK b hb).2,fun e=> ?_⟩⟩;rcases (hK b hb).1 with hb|hb
 ·exact(h4 b hb).2 e
 ·have:=h1.ltO b e;omega
theorem ja.sm(h:ja w w1 K r L):Sm No w w1:=by
 obtain⟨_,_,h,_⟩:=h;exact h
theorem ko{s:ByteArray}{id:Int}{A:Option Addr}{c:Nat}{ms:List ah}(h:ja w w1 K r L)(hg:G0 w)(hL:oa L)(hs:s.size≤800000)(hA:ax w1 A (ms.map aP))(hn:A=none→c=0)(hml:ms.length≤4000)(hms:∀ t∈ms,t.length≤1000000):
 Calls Tryz.prog 59 #[.pointer (some ⟨r,0,none⟩),.string s,.int .i64 id,.slice A ms.length c] w1 fun e w2=>e=.returned (.int .i64 (bW L ⟨af s,id,ms⟩))∧ja w w2 K r (fX L ⟨af s,id,ms⟩)∧Sm (fun b=>¬K b) w1 w2:=by
 obtain⟨O,h1,h2,h3,h4⟩:=h;refine(xN w1 O r L s id A c ms h1 (hg.no h2) hL.1 (fun x hx=>Nat.le_trans (hL.2 x hx) (by decide)) hs hA hn (by omega) hms).mono ?_;rintro e w2 ⟨he,O',g1,g2,g3⟩;refine⟨he,⟨O',g1,h2.fresh g2 h3,fun b hb=> ?_,fun b hb=>⟨Nat.lt_of_lt_of_le (h4 b hb).1 g2.size,fun e=> ?_⟩⟩,g2.mono (fun b _ e hk=>(h4 b hk).2 e)⟩
 ·rcases g3 b hb with g|g
  ·exact h3 b g
  ·exact Nat.le_trans h2.size g
 ·rcases g3 b e with g|g
  ·exact(h4 b hb).2 g
  ·have:=(h4 b hb).1;omega
end
def ft(w:World)(O:Nat→Prop)(s:Nat)(T:List br):Prop:=
 ∃ (Q:Nat→Prop) (r:Nat) (vT:Value),aT w Q r (ao T)∧Bk w s 107 #[.pointer (some ⟨r,0,none⟩),vT]∧uU w 0 vT T∧(∀ b,(Q b∨b=s∨vT.ownBlock=some b)→O b)∧∀ b,O b→b < w.heap.size
theorem ft.sm{S O:Nat→Prop}{w w':World}{s:Nat}{T:List br}(h:ft w O s T)(hs:Sm S w w')(hS:∀ b,O b→¬S b):ft w' O s T:=by
 obtain⟨Q,r,vT,h1,h2,h3,h4,h5⟩:=h;exact⟨Q,r,vT,h1.sm hs (fun b hb=>hS b (h4 b (Or.inl hb))),h2.sm hs (hS s (h4 s (Or.inr (Or.inl rfl)))),ae h3 hs (fun b hb=>hS b (h4 b (Or.inr (Or.inr hb)))),h4,fun b hb=>Nat.lt_of_lt_of_le (h5 b hb) hs.size⟩
theorem ft.no{O:Nat→Prop}{w w':World}{s:Nat}{T:List br}(h:ft w O s T)(hs:Sm No w w'):ft w' O s T:=h.sm hs (fun _ _ h=>h)
def qv(w:World)(T:List br)(e:Ending)(w':World):Prop:=
 (cD T=0∧∃ s O,e=.returned (.tuple #[.pointer (some ⟨s,0,none⟩),.int .i64 0])∧ft w' O s T∧Sm No w w'∧∀ b,O b→w.heap.size≤b)∨
 (cD T≠0∧e=.returned (.tuple #[.pointer none,.int .i64 (cD T)])∧Sm No w w')
theorem iD{T:List br}(h:T.length≤40):oa (ao T):=by
 refine⟨by rw [fx];omega,fun y hy=> ?_⟩;rcases ep hy with hb|⟨k,z,_,rfl⟩
 ·simp only [jm,List.mem_cons,List.not_mem_nil,or_false] at hb;rcases hb with rfl|rfl|rfl<;>decide
 ·show ([lX]:List ah).length≤4000;decide
end Go.Proofs.YtadcjgopaadfjaaGreatDoor
